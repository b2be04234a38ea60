/-
Contracts of herd/num: digits and put.
-/
import Derived.Test.YtljgaglbgkejhaaDoorJi
import Derived.Test.YtljgaglbgkejhaaDoorNumA
namespace Go.Proofs.YtljgaglbgkejhaaDoor
set_option linter.unusedVariables false
open Go.RowKit
attribute [local irreducible] Res.blk Res.row Fact.rd

def dvals (n k : Nat) : List Value := [.int .u8 (n / 128 ^ k % 128 : Nat), .bool (decide (n / 128 ^ k < 128))]
theorem digits1_it (n : Nat) (hn : n ≤ 1099511627776) (b : Nat) : It Tryd.prog 50 [.pointer (some ⟨b, 0, none⟩)] [.blk b 3 [.int .i64 n]] [] (dlen 10 n) (dvals n) := by
  refine It.of _ Tryd.func50 Tryd.ntmps50 rfl rfl (by rfl) (by simp) (fun W l cl clx hy => ?_)
  refine Jc.scope (σ := { k : Nat // k < dlen 10 n }) (fun s => [(0, .func (.yield l) #[] #[]), (1, .pointer (some ⟨b, 0, none⟩))]) (fun s => [.blk b 3 [.int .i64 (n / 128 ^ s.1 : Nat)]]) (fun s => [cl s.1]) (fun s => 10 - s.1) (l := 0) rfl ?_ ?_
  · rintro ⟨k, hk⟩
    show Jc _ _ _ _ _ _ [(0, Value.func (.yield l) #[] #[]), (1, .pointer (some ⟨b, 0, none⟩))] [.blk b 3 [.int .i64 (n / 128 ^ k : Nat)]] [cl k]
    have hq : n / 128 ^ k ≤ n := Nat.div_le_self _ _
    have hlast := dlen_last 10 n k (p128_10 n hn) hk
    refine Jc.seq ?_
    refine Jc.seq ?_
    refine Jc.region ?_
    refine Jl.pv (PR.move rfl) ?_
    refine Jl.pv (PR.load1 rfl tsh3 (by repeat (first | exact Has.here | apply Has.there)) (by rfl)) ?_
    refine Jl.pv (PR.and ((n / 128 ^ k % 128 : Nat) : Int) rfl rfl (andI127 _ (by omega))) ?_
    refine Jl.pv (PR.conv ((n / 128 ^ k % 128 : Nat) : Int) rfl Tryd.underlying3 Tryd.underlying5 (by rw [IntKind.wrap_u8]; omega)) ?_
    refine Jl.pv (PR.load1 rfl tsh3 (by repeat (first | exact Has.here | apply Has.there)) (by rfl)) ?_
    refine Jl.pv (PR.lss (decide (n / 128 ^ k < 128)) rfl rfl (decide_eq_decide.2 (Int.ofNat_lt (m := 128)))) ?_
    refine hy _ _ _ _ _ _ _ _ _ _ _ _ _ _ k hk rfl rfl (by repeat (first | exact Mem.here | apply Mem.there)) rfl ?_ ?_
    · refine Jl.pv (PR.not rfl) ?_
      refine Jl.pv (PR.move rfl) ?_
      refine Jl.on rfl rfl ?_
      refine Jl.pv (PR.load1 rfl tsh3 (by repeat (first | exact Has.here | apply Has.there)) (by rfl)) ?_
      refine Jl.on rfl rfl ?_
      refine Jl.pv (PR.lss (decide (n / 128 ^ k < 128)) rfl rfl (decide_eq_decide.2 (Int.ofNat_lt (m := 128)))) ?_
      refine Jl.pv (PR.pickF rfl rfl) ?_
      refine Jl.nil ?_
      refine Jq.thenN ?_
      refine Jc.cond rfl (fun h0 => ?_) (fun h0 => ?_)
      · try replace h0 := of_decide_eq_true h0
        refine Jc.ret ?_
        refine Jq.thenR ?_
        refine Jq.jmpR ?_
        rw [hlast.1 h0]; exact Jq.itDone (.inl rfl) (by repeat (first | exact Mem.here | apply Mem.there))
      · try replace h0 := of_decide_eq_false h0
        refine Jc.skip ?_
        refine Jq.thenN ?_
        refine Jc.seq ?_
        refine Jc.region ?_
        refine Jl.pv (PR.load1 rfl tsh3 (by repeat (first | exact Has.here | apply Has.there)) (by rfl)) ?_
        refine Jl.pv (PR.shr ((n / 128 ^ (k + 1) : Nat) : Int) rfl rfl (by decide) (by show Int.fdiv _ (2 ^ 7) = _; rw [shr7 _ (by omega)]; exact congrArg Nat.cast (div128 n k))) ?_
        refine Jl.store1 rfl tsh3 rfl (by rfl) (by repeat (first | exact Swap.here | apply Swap.there)) (by rfl) ?_
        refine Jl.nil ?_
        refine Jq.thenN ?_
        refine Jc.goto ?_
        exact Jq.jmpB ⟨k + 1, by have := fun h => h0 (hlast.2 h); omega⟩ (by have := dlen_le 10 n; simp only; omega) (by exact ⟨rfl, rfl, trivial⟩) rfl (by exact ⟨Mem.here, trivial⟩)
    · refine Jl.pv (PR.not rfl) ?_
      refine Jl.pv (PR.move rfl) ?_
      refine Jl.offS rfl rfl rfl ?_
      refine Jl.offS rfl rfl rfl ?_
      refine Jl.pv (PR.pickT rfl rfl) ?_
      refine Jl.nil ?_
      refine Jq.thenN ?_
      refine Jc.condT rfl ?_
      refine Jc.ret ?_
      refine Jq.thenR ?_
      refine Jq.jmpR ?_
      exact Jq.itStop (.inl rfl) hk (by repeat (first | exact Mem.here | apply Mem.there))
  · intro hfirst0
    refine Jc.seq ?_
    refine Jc.label ?_
    refine Jq.thenN ?_
    exact Jc.at_ hfirst0 ⟨0, dlen0 n⟩ (by exact ⟨rfl, rfl, trivial⟩) (by simp) (by exact ⟨Mem.here, trivial⟩)

theorem digits_ct (n : Nat) : Ct Tryd.prog 47 [.int .i64 n] [] [] (fun b : Nat => .func (.func 50) #[] #[.pointer (some ⟨b, 0, none⟩)]) (fun b => [.blk b 3 [.int .i64 n]]) (fun _ => []) := by
  refine Ct.of _ Tryd.func47 Tryd.ntmps47 rfl rfl (fun X W => ?_)
  refine Jc.seq ?_
  refine Jc.region ?_
  refine Jl.box rfl (by rfl) ?_
  intro b1
  refine Jl.pv (PR.assign rfl) ?_
  refine Jl.nil ?_
  refine Jq.thenN ?_
  refine Jc.seq ?_
  refine Jc.region ?_
  refine Jl.pv (PR.makeFunc rfl rfl) ?_
  refine Jl.pv (PR.assign rfl) ?_
  refine Jl.nil ?_
  refine Jq.thenN ?_
  refine Jc.ret ?_
  exact Jq.fin b1 (.inl rfl) rfl (RetVs.tmp rfl RetVs.nil) rfl (by repeat (first | exact Take.nil | apply Take.cons (by repeat (first | exact Del.here | apply Del.there)))) (by repeat (first | exact trivial | refine And.intro (by repeat (first | exact Mem.here | apply Mem.there)) ?_))

theorem digs_step (n k : Nat) (hn : n ≤ 1099511627776) (hk : k < dlen 10 n) : (digs 10 n).take (k + 1) = (digs 10 n).take k ++ [UInt8.ofNat (n / 128 ^ k % 128 + if n / 128 ^ k < 128 then 0 else 128)] := by
  have hl : k < (digs 10 n).length := by rw [digs_len]; exact hk
  rw [List.take_succ_eq_append_getElem hl, dig_at 10 n k (p128_10 n hn) hl]

theorem digs_app (ys : List UInt8) (n k x : Nat) (hn : n ≤ 1099511627776) (hk : k < dlen 10 n) (hx : x = n / 128 ^ k % 128 + if n / 128 ^ k < 128 then 0 else 128) :
    u8s (ys ++ (digs 10 n).take k) ++ [Value.int .u8 (x : Int)] = u8s (ys ++ (digs 10 n).take (k + 1)) := by
  subst hx
  rw [digs_step n k hn hk]
  have h : n / 128 ^ k % 128 < 128 := Nat.mod_lt _ (by omega)
  have h2 : (n / 128 ^ k % 128 + if n / 128 ^ k < 128 then 0 else 128) < 256 := by split <;> omega
  simp only [u8s, List.map_append, List.map_cons, List.map_nil, List.append_assoc, UInt8.toNat_ofNat', show (2:Nat) ^ 8 = 256 from rfl, Nat.mod_eq_of_lt h2]
theorem digs_lt (ys : List UInt8) (n k : Nat) (hn : n ≤ 1099511627776) (hk : k < dlen 10 n) : (ys ++ (digs 10 n).take k).length + 1 = (ys ++ (digs 10 n).take (k + 1)).length ∧ (ys ++ (digs 10 n).take k).length ≤ ys.length + 10 := by
  have := dlen_le 10 n
  simp [digs_len]; omega
theorem digs_all (n : Nat) : (digs 10 n).take (dlen 10 n) = putB n := by rw [List.take_of_length_le (by rw [digs_len]; exact Nat.le_refl _)]; rfl

theorem put_ct (ys : List UInt8) (A : Option Addr) (c n : Nat) (hn : n ≤ 1099511627776) (hy : ys.length ≤ 10000) :
    Ct Tryd.prog 39 [.slice A ys.length c, .int .i64 n] (rowU ys (A, c)) [] (fun x : Option Addr × Nat => .slice x.1 (ys ++ putB n).length x.2) (rowU (ys ++ putB n)) (fun _ => []) := by
  refine Ct.of _ Tryd.func39 Tryd.ntmps39 rfl rfl (fun X W => ?_)
  refine Jc.seq ?_
  refine Jc.region ?_
  refine Jl.box rfl (by rfl) ?_
  intro b2
  refine Jl.pv (PR.assign rfl) ?_
  refine Jl.nil ?_
  refine Jq.thenN ?_
  refine Jc.seq ?_
  refine Jc.seq ?_
  refine Jc.region ?_
  refine Jl.pv (PR.move rfl) ?_
  refine Jl.call (digits_ct n) en47 (by rfl) (by repeat (first | exact Take.nil | apply Take.cons (by repeat (first | exact Del.here | apply Del.there)))) (by repeat (first | exact trivial | refine And.intro (by repeat (first | exact Mem.here | apply Mem.there)) ?_)) ?_
  rintro b8
  refine Jl.nil ?_
  refine Jq.thenN ?_
  refine Jc.block ?_
  refine Jc.range (σ := (k : Nat) × (Option Addr × Nat)) (τ := Empty) (Inv := fun k s => s.1 = k) (Rs := fun s => [.blk b2 26 [.slice s.2.1 (ys ++ (digs 10 n).take s.1).length s.2.2], .row 5 1 (.slice s.2.1 (ys ++ (digs 10 n).take s.1).length s.2.2) (ys ++ (digs 10 n).take s.1).length (u8s (ys ++ (digs 10 n).take s.1))]) (Φs := fun _ => []) (InvX := fun _ _ _ => False) (RsX := fun _ => []) (ΦsX := fun _ => []) (vals := dvals n) rfl en50 (digits1_it n hn b8) (by repeat (first | exact Take.nil | apply Take.cons (by repeat (first | exact Del.here | apply Del.there)))) trivial (fun _ => rfl) rfl ⟨0, A, c⟩ rfl (by simp [rowU]) trivial ?_ ?_ ?_
  · rintro k ⟨j, A', c'⟩ hk hj l C1
    obtain rfl : k = j := hj.symm
    have hlt := digs_lt ys n k hn hk
    have hmod : n / 128 ^ k % 128 < 128 := Nat.mod_lt _ (by omega)
    show Jc _ _ _ _ _ _ (psetL [9, 10] [.int .u8 (n / 128 ^ k % 128 : Nat), .bool (decide (n / 128 ^ k < 128))] _) [.blk b2 26 [.slice A' (ys ++ (digs 10 n).take k).length c'], .row 5 1 (.slice A' (ys ++ (digs 10 n).take k).length c') (ys ++ (digs 10 n).take k).length (u8s (ys ++ (digs 10 n).take k))] []
    refine Jc.seq ?_
    refine Jc.region ?_
    refine Jl.pv (PR.assign rfl) ?_
    refine Jl.nil ?_
    refine Jq.thenN ?_
    refine Jc.region ?_
    refine Jl.pv (PR.assign rfl) ?_
    refine Jl.nil ?_
    refine Jq.assigned (fun C2 => ?_)
    refine Jc.block ?_
    refine Jc.seq ?_
    refine Jc.seq ?_
    refine Jc.region ?_
    refine Jl.pv (PR.move rfl) ?_
    refine Jl.pv (PR.not rfl) ?_
    refine Jl.nil ?_
    refine Jq.thenN ?_
    refine Jc.cond rfl (fun h0 => ?_) (fun h0 => ?_)
    · try replace h0 := of_decide_eq_true h0
      replace h0 : ¬ n / 128 ^ k < 128 := by simpa using h0
      refine Jc.region ?_
      refine Jl.pv (PR.move rfl) ?_
      refine Jl.pv (PR.or ((n / 128 ^ k % 128 + 128 : Nat) : Int) rfl rfl (orU128 _ hmod)) ?_
      refine Jl.pv (PR.assign rfl) ?_
      refine Jl.nil ?_
      refine Jq.thenN ?_
      refine Jc.region ?_
      refine Jl.pv (PR.load1 rfl tsh26 (by repeat (first | exact Has.here | apply Has.there)) (by rfl)) ?_
      refine Jl.pv (PR.move rfl) ?_
      refine Jl.buildSlice (by rfl) tsl26 tzr26_1 (by rfl) (by rfl) ?_
      intro b17
      refine Jl.seal (by repeat (first | exact Del.here | apply Del.there)) ?_
      refine Jl.append (ys ++ (digs 10 n).take (k + 1)).length (u8s (ys ++ (digs 10 n).take (k + 1))) rfl rfl rfl tsl26 tze5 (by rfl) (by decide) tby5 (fun _ _ => (by repeat (first | exact Swap.here | apply Swap.there))) (by repeat (first | exact Mem.here | apply Mem.there)) hlt.1 (digs_app ys n k _ hn hk (by rw [if_neg h0])) rfl (by simp [Value.oneCell']) (by omega) (by decide) ?_
      intro A18 c18
      refine Jl.store1 rfl tsh26 rfl (by rfl) (by repeat (first | exact Swap.here | apply Swap.there)) (by rfl) ?_
      refine Jl.nil ?_
      refine Jq.blkN ?_
      exact Jq.next ⟨k + 1, A18, c18⟩ rfl rfl trivial
    · try replace h0 := of_decide_eq_false h0
      replace h0 : n / 128 ^ k < 128 := by simpa using h0
      refine Jc.skip ?_
      refine Jq.thenN ?_
      refine Jc.region ?_
      refine Jl.pv (PR.load1 rfl tsh26 (by repeat (first | exact Has.here | apply Has.there)) (by rfl)) ?_
      refine Jl.pv (PR.move rfl) ?_
      refine Jl.buildSlice (by rfl) tsl26 tzr26_1 (by rfl) (by rfl) ?_
      intro b17
      refine Jl.seal (by repeat (first | exact Del.here | apply Del.there)) ?_
      refine Jl.append (ys ++ (digs 10 n).take (k + 1)).length (u8s (ys ++ (digs 10 n).take (k + 1))) rfl rfl rfl tsl26 tze5 (by rfl) (by decide) tby5 (fun _ _ => (by repeat (first | exact Swap.here | apply Swap.there))) (by repeat (first | exact Mem.here | apply Mem.there)) hlt.1 (digs_app ys n k _ hn hk (by rw [if_pos h0, Nat.add_zero])) rfl (by simp [Value.oneCell']) (by omega) (by decide) ?_
      intro A18 c18
      refine Jl.store1 rfl tsh26 rfl (by rfl) (by repeat (first | exact Swap.here | apply Swap.there)) (by rfl) ?_
      refine Jl.nil ?_
      refine Jq.blkN ?_
      exact Jq.next ⟨k + 1, A18, c18⟩ rfl rfl trivial
  · rintro ⟨j, A', c'⟩ D0 hj
    obtain rfl : j = dlen 10 n := hj
    show Jq _ _ _ .normal _ [.mark D0, .blk b2 26 [.slice A' (ys ++ (digs 10 n).take (dlen 10 n)).length c'], .row 5 1 (.slice A' (ys ++ (digs 10 n).take (dlen 10 n)).length c') (ys ++ (digs 10 n).take (dlen 10 n)).length (u8s (ys ++ (digs 10 n).take (dlen 10 n)))] []
    rw [digs_all]
    refine Jq.blkN ?_
    refine Jq.thenN ?_
    refine Jc.seq ?_
    refine Jc.region ?_
    refine Jl.pv (PR.load1 rfl tsh26 (by repeat (first | exact Has.here | apply Has.there)) (by rfl)) ?_
    refine Jl.pv (PR.assign rfl) ?_
    refine Jl.nil ?_
    refine Jq.thenN ?_
    refine Jc.ret ?_
    exact Jq.finM (Ds := [D0]) (A', c') (.inl rfl) rfl (by repeat (first | exact Take.nil | apply Take.cons (by repeat (first | exact Del.here | apply Del.there)))) (RetVs.tmp rfl RetVs.nil) rfl (by repeat (first | exact Take.nil | apply Take.cons (by repeat (first | exact Del.here | apply Del.there)))) (by repeat (first | exact trivial | refine And.intro (by repeat (first | exact Mem.here | apply Mem.there)) ?_))
  · exact fun _ _ t => t.elim

end Go.Proofs.YtljgaglbgkejhaaDoor
