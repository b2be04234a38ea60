/-
Contracts of the reference of numbers: fine, Put, Take.
-/
import Derived.Test.YtljgaglbgkejhaaDoorNumB
import Derived.Test.YtljgaglbgkejhaaDoorNumQ
namespace Go.Proofs.YtljgaglbgkejhaaDoor
set_option linter.unusedVariables false
open Go.RowKit
attribute [local irreducible] Res.blk Res.row Fact.rd
theorem tmodN (a b : Nat) : ((a : Nat) : Int).tmod (b : Int) = ((a % b : Nat) : Int) := by rw [Int.tmod_eq_emod_of_nonneg (by omega)]; rfl
theorem tdivN (a b : Nat) : ((a : Nat) : Int).tdiv (b : Int) = ((a / b : Nat) : Int) := by rw [Int.tdiv_eq_ediv_of_nonneg (by omega)]; rfl
theorem w64n {x : Nat} (h : x < 9223372036854775808) : IntKind.i64.wrap (x : Int) = (x : Int) := w64 (by omega) (by omega)
theorem w8n {x : Nat} (h : x < 256) : IntKind.u8.wrap (x : Int) = (x : Int) := by rw [IntKind.wrap_u8]; omega
theorem fineN_nat (x : Nat) : fineN (x : Int) = decide (x ≤ 1099511627776) := by simp [fineN]; omega
theorem rfine_ct (n : Int) : Ct Tryd.prog 48 [.int .i64 n] [] [] (fun _ : Unit => .bool (fineN n)) (fun _ => []) (fun _ => []) := by
  by_cases h0 : 0 ≤ n
  · skip
    refine Ct.of _ Tryd.func48 Tryd.ntmps48 rfl rfl (fun X W => ?_)
    refine Jc.seq ?_
    refine Jc.region ?_
    refine Jl.pv (PR.assign rfl) ?_
    refine Jl.nil ?_
    refine Jq.thenN ?_
    refine Jc.seq ?_
    refine Jc.region ?_
    refine Jl.pv (PR.move rfl) ?_
    refine Jl.pv (PR.geq true rfl rfl (by simpa using h0)) ?_
    refine Jl.pv (PR.move rfl) ?_
    refine Jl.on rfl rfl ?_
    refine Jl.pv (PR.move rfl) ?_
    refine Jl.on rfl rfl ?_
    refine Jl.pv (PR.leq _ rfl rfl rfl) ?_
    refine Jl.pv (PR.pickT rfl rfl) ?_
    refine Jl.pv (PR.assign rfl) ?_
    refine Jl.nil ?_
    refine Jq.thenN ?_
    refine Jc.ret ?_
    exact Jq.fin () (.inl rfl) rfl (RetVs.tmp rfl RetVs.nil) (by simp [retval, fineN, h0]) (by repeat (first | exact Take.nil | apply Take.cons (by repeat (first | exact Del.here | apply Del.there)))) (by repeat (first | exact trivial | refine And.intro (by repeat (first | exact Mem.here | apply Mem.there)) ?_))
  · skip
    refine Ct.of _ Tryd.func48 Tryd.ntmps48 rfl rfl (fun X W => ?_)
    refine Jc.seq ?_
    refine Jc.region ?_
    refine Jl.pv (PR.assign rfl) ?_
    refine Jl.nil ?_
    refine Jq.thenN ?_
    refine Jc.seq ?_
    refine Jc.region ?_
    refine Jl.pv (PR.move rfl) ?_
    refine Jl.pv (PR.geq false rfl rfl (by simpa using h0)) ?_
    refine Jl.pv (PR.move rfl) ?_
    refine Jl.offS rfl rfl rfl ?_
    refine Jl.offS rfl rfl rfl ?_
    refine Jl.pv (PR.pickF rfl rfl) ?_
    refine Jl.pv (PR.assign rfl) ?_
    refine Jl.nil ?_
    refine Jq.thenN ?_
    refine Jc.ret ?_
    exact Jq.fin () (.inl rfl) rfl (RetVs.tmp rfl RetVs.nil) (by simp [retval, fineN, h0]) (by repeat (first | exact Take.nil | apply Take.cons (by repeat (first | exact Del.here | apply Del.there)))) (by repeat (first | exact trivial | refine And.intro (by repeat (first | exact Mem.here | apply Mem.there)) ?_))
theorem rfine_at {n : Int} {t : Bool} (h : fineN n = t) : Ct Tryd.prog 48 [.int .i64 n] [] [] (fun _ : Unit => .bool t) (fun _ => []) (fun _ => []) := by subst h; exact rfine_ct n

theorem rput_ct (n : Int) : Ct Tryd.prog 41 [.int .i64 n] [] [] (fun x : OA => .tuple #[.slice x.1 (putN n).length x.2, .int .i64 (putR n)]) (rowU (putN n)) (fun _ => []) := by
  by_cases hfn : fineN n = true
  · have hf : 0 ≤ n ∧ n ≤ 1099511627776 := by simpa [fineN] using hfn
    obtain ⟨m, rfl⟩ : ∃ m : Nat, n = m := ⟨n.toNat, by omega⟩
    have hm : m ≤ 1099511627776 := by omega
    have e1 : putN (m : Int) = putB m := if_pos hfn
    have e2 : putR (m : Int) = 0 := if_pos hfn
    have hd10 := dlen_le 10 m
    rw [e1, e2]
    refine Ct.of _ Tryd.func41 Tryd.ntmps41 rfl rfl (fun X W => ?_)
    refine Jc.seq ?_
    refine Jc.region ?_
    refine Jl.pv (PR.assign rfl) ?_
    refine Jl.pv (PR.assign rfl) ?_
    refine Jl.nil ?_
    refine Jq.thenN ?_
    refine Jc.seq ?_
    refine Jc.seq ?_
    refine Jc.region ?_
    refine Jl.pv (PR.move rfl) ?_
    refine Jl.call (rfine_at hfn) en48 (by rfl) (by repeat (first | exact Take.nil | apply Take.cons (by repeat (first | exact Del.here | apply Del.there)))) (by repeat (first | exact trivial | refine And.intro (by repeat (first | exact Mem.here | apply Mem.there)) ?_)) ?_
    rintro ⟨⟩
    refine Jl.pv (PR.not rfl) ?_
    refine Jl.as (.bool false) (congrArg Value.bool rfl) ?_
    refine Jl.nil ?_
    refine Jq.thenN ?_
    refine Jc.condF rfl ?_
    refine Jc.skip ?_
    refine Jq.thenN ?_
    refine Jc.seq ?_
    refine Jc.nilRow 5 1 ?_
    refine Jc.region ?_
    refine Jl.pv (PR.assign rfl) ?_
    refine Jl.nil ?_
    refine Jq.thenN ?_
    refine Jc.seq ?_
    refine Jc.block ?_
    refine Jc.loop (σ := { s : Nat × OA // s.1 < dlen 10 m }) (fun s => [(0, .int .i64 ((m / 128 ^ s.1.1 : Nat) : Int)), (4, .slice s.1.2.1 ((digs 10 m).take s.1.1).length s.1.2.2)]) (fun s => [.row 5 1 (.slice s.1.2.1 ((digs 10 m).take s.1.1).length s.1.2.2) ((digs 10 m).take s.1.1).length (u8s ((digs 10 m).take s.1.1))]) (fun _ => []) (fun s => dlen 10 m - s.1.1) ⟨(0, (none, 0)), dlen0 m⟩ (by exact ⟨by rw [Nat.pow_zero, Nat.div_one]; rfl, rfl, trivial⟩) rfl trivial ?_
    rintro ⟨⟨k, A', c'⟩, hk0⟩
    have hk : k < dlen 10 m := hk0
    have hlt := digs_lt [] m k hm hk
    simp only [List.nil_append, List.length_nil, Nat.zero_add] at hlt
    have hq : m / 128 ^ k ≤ m := Nat.div_le_self _ _
    have hmod : m / 128 ^ k % 128 < 128 := Nat.mod_lt _ (by omega)
    have hlast := dlen_last 10 m k (p128_10 m hm) hk
    show Jc _ _ _ _ _ _ [(0, Value.int .i64 ((m / 128 ^ k : Nat) : Int)), (4, .slice A' ((digs 10 m).take k).length c')] [.row 5 1 (.slice A' ((digs 10 m).take k).length c') ((digs 10 m).take k).length (u8s ((digs 10 m).take k))] []
    refine Jc.seq ?_
    refine Jc.seq ?_
    refine Jc.region ?_
    refine Jl.pv (PR.move rfl) ?_
    refine Jl.pv (PR.geq _ rfl rfl rfl) ?_
    refine Jl.nil ?_
    refine Jq.thenN ?_
    refine Jc.cond rfl (fun h0 => ?_) (fun h0 => ?_)
    · try replace h0 := of_decide_eq_true h0
      replace h0 : ¬ m / 128 ^ k < 128 := by omega
      refine Jc.skip ?_
      refine Jq.thenN ?_
      refine Jc.block ?_
      refine Jc.seq ?_
      refine Jc.region ?_
      refine Jl.pv (PR.move rfl) ?_
      refine Jl.pv (PR.move rfl) ?_
      refine Jl.pv (PR.rem ((m / 128 ^ k % 128 : Nat) : Int) rfl rfl (by decide) (tmodN _ 128)) ?_
      refine Jl.pv (PR.add ((m / 128 ^ k % 128 + 128 : Nat) : Int) rfl rfl (by rw [w64 (by omega) (by omega)]; rfl)) ?_
      refine Jl.pv (PR.conv ((m / 128 ^ k % 128 + 128 : Nat) : Int) rfl Tryd.underlying3 Tryd.underlying5 (by rw [IntKind.wrap_u8]; omega)) ?_
      refine Jl.buildSlice (by rfl) tsl26 tzr26_1 (by rfl) (by rfl) ?_
      intro b15
      refine Jl.seal (by repeat (first | exact Del.here | apply Del.there)) ?_
      refine Jl.append ((digs 10 m).take (k + 1)).length (u8s ((digs 10 m).take (k + 1))) rfl rfl rfl tsl26 tze5 (by rfl) (by decide) tby5 (fun _ _ => (by repeat (first | exact Swap.here | apply Swap.there))) (by repeat (first | exact Mem.here | apply Mem.there)) (by omega) (digs_app [] m k _ hm hk (by rw [if_neg h0])) rfl (by simp [Value.oneCell']) (by omega) (by decide) ?_
      intro A16 c16
      refine Jl.pv (PR.assign rfl) ?_
      refine Jl.nil ?_
      refine Jq.thenN ?_
      refine Jc.region ?_
      refine Jl.pv (PR.move rfl) ?_
      refine Jl.pv (PR.quo ((m / 128 ^ (k + 1) : Nat) : Int) rfl rfl (by decide) (by rw [show (128 : Int) = ((128 : Nat) : Int) from rfl, tdivN, div128, w64n (by have := Nat.div_le_self m (128 ^ (k + 1)); omega)])) ?_
      refine Jl.pv (PR.assign rfl) ?_
      refine Jl.nil ?_
      refine Jq.blkN ?_
      refine Jq.again ⟨(k + 1, (A16, c16)), by have := fun h => h0 (hlast.2 h); simp only; omega⟩ (by simp only; omega) (by exact ⟨rfl, rfl, trivial⟩) rfl trivial
    · try replace h0 := of_decide_eq_false h0
      replace h0 : m / 128 ^ k < 128 := by omega
      refine Jc.exit ?_
      refine Jq.thenX ?_
      refine Jq.thenX ?_
      refine Jq.blkX ?_
      refine Jq.thenN ?_
      refine Jc.seq ?_
      refine Jc.region ?_
      refine Jl.pv (PR.move rfl) ?_
      refine Jl.pv (PR.move rfl) ?_
      refine Jl.pv (PR.conv ((m / 128 ^ k : Nat) : Int) rfl Tryd.underlying3 Tryd.underlying5 (w8n (by omega))) ?_
      refine Jl.buildSlice (by rfl) tsl26 tzr26_1 (by rfl) (by rfl) ?_
      intro b22
      refine Jl.seal (by repeat (first | exact Del.here | apply Del.there)) ?_
      refine Jl.append ((digs 10 m).take (k + 1)).length (u8s ((digs 10 m).take (k + 1))) rfl rfl rfl tsl26 tze5 (by rfl) (by decide) tby5 (fun _ _ => (by repeat (first | exact Swap.here | apply Swap.there))) (by repeat (first | exact Mem.here | apply Mem.there)) (by omega) (digs_app [] m k _ hm hk (by rw [if_pos h0, Nat.add_zero, Nat.mod_eq_of_lt h0])) rfl (by simp [Value.oneCell']) (by omega) (by decide) ?_
      intro A23 c23
      refine Jl.pv (PR.assign rfl) ?_
      refine Jl.pv (PR.assign rfl) ?_
      refine Jl.nil ?_
      refine Jq.thenN ?_
      refine Jc.ret ?_
      rw [show (digs 10 m).take (k + 1) = putB m by rw [hlast.1 h0, digs_all]]
      exact Jq.fin (A23, c23) (.inl rfl) rfl (RetVs.tmp rfl (RetVs.tmp rfl RetVs.nil)) rfl (by repeat (first | exact Take.nil | apply Take.cons (by repeat (first | exact Del.here | apply Del.there)))) (by repeat (first | exact trivial | refine And.intro (by repeat (first | exact Mem.here | apply Mem.there)) ?_))
  · have e1 : putN n = [] := if_neg hfn
    have e2 : putR n = 2 := if_neg hfn
    rw [e1, e2]
    refine Ct.of _ Tryd.func41 Tryd.ntmps41 rfl rfl (fun X W => ?_)
    refine Jc.seq ?_
    refine Jc.region ?_
    refine Jl.pv (PR.assign rfl) ?_
    refine Jl.pv (PR.assign rfl) ?_
    refine Jl.nil ?_
    refine Jq.thenN ?_
    refine Jc.seq ?_
    refine Jc.seq ?_
    refine Jc.region ?_
    refine Jl.pv (PR.move rfl) ?_
    refine Jl.call (rfine_at (t := false) (by simpa using hfn)) en48 (by rfl) (by repeat (first | exact Take.nil | apply Take.cons (by repeat (first | exact Del.here | apply Del.there)))) (by repeat (first | exact trivial | refine And.intro (by repeat (first | exact Mem.here | apply Mem.there)) ?_)) ?_
    rintro ⟨⟩
    refine Jl.pv (PR.not rfl) ?_
    refine Jl.as (.bool true) (congrArg Value.bool rfl) ?_
    refine Jl.nil ?_
    refine Jq.thenN ?_
    refine Jc.condT rfl ?_
    refine Jc.seq ?_
    refine Jc.region ?_
    refine Jl.pv (PR.assign rfl) ?_
    refine Jl.pv (PR.assign rfl) ?_
    refine Jl.nil ?_
    refine Jq.thenN ?_
    refine Jc.ret ?_
    refine Jq.thenR ?_
    refine Jq.nilRow 5 1 ?_
    exact Jq.fin (none, 0) (.inl rfl) rfl (RetVs.tmp rfl (RetVs.tmp rfl RetVs.nil)) rfl (by repeat (first | exact Take.nil | apply Take.cons (by repeat (first | exact Del.here | apply Del.there)))) (by repeat (first | exact trivial | refine And.intro (by repeat (first | exact Mem.here | apply Mem.there)) ?_))
theorem p128_succ (i : Nat) : 128 ^ i * 128 = 128 ^ (i + 1) := (Nat.pow_succ ..).symm
theorem rtake_ct (A : Option Addr) (c : Nat) (b : List UInt8) (hn : b.length ≤ 1000000) (hc : b.length ≤ c) :
    Ct Tryd.prog 43 [.slice A b.length c] [] [.rd A (u8s b)] (takeV (takeN b)) (rowU (takeN b).2.1) (fun _ => []) := by
  refine Ct.of _ Tryd.func43 Tryd.ntmps43 rfl rfl (fun X W => ?_)
  refine Jc.seq ?_
  refine Jc.region ?_
  refine Jl.pv (PR.assign rfl) ?_
  refine Jl.pv (PR.assign rfl) ?_
  refine Jl.pv (PR.assign rfl) ?_
  refine Jl.nil ?_
  refine Jq.thenN ?_
  refine Jc.seq ?_
  refine Jc.region ?_
  refine Jl.pv (PR.assign rfl) ?_
  refine Jl.pv (PR.assign rfl) ?_
  refine Jl.nil ?_
  refine Jq.thenN ?_
  refine Jc.seq ?_
  refine Jc.seq ?_
  refine Jc.region ?_
  refine Jl.pv (PR.assign rfl) ?_
  refine Jl.nil ?_
  refine Jq.thenN ?_
  refine Jc.block ?_
  refine Jc.loop (σ := { s : Nat × Nat // TakeI b s.1 s.2 }) (fun s => [(0, .slice A b.length c), (5, .int .i64 (s.1.2 : Int)), (6, .int .i64 ((128 ^ s.1.1 : Nat) : Int)), (7, .int .i64 (s.1.1 : Int))]) (fun _ => []) (fun _ => [.rd A (u8s b)]) (fun s => 6 - s.1.1) ⟨(0, 0), TakeI.zero b⟩ (by exact ⟨rfl, rfl, rfl, rfl, trivial⟩) rfl (by exact ⟨Mem.here, trivial⟩) ?_
  rintro ⟨⟨i, acc⟩, hs0⟩
  have hs : TakeI b i acc := hs0
  show Jc _ _ _ _ _ _ [(0, Value.slice A b.length c), (5, .int .i64 (acc : Int)), (6, .int .i64 ((128 ^ i : Nat) : Int)), (7, .int .i64 (i : Int))] [] [.rd A (u8s b)]
  have hlt6 := hs.lt
  have hle := hs.le
  have hbd := hs.bound
  refine Jc.seq ?_
  refine Jc.seq ?_
  refine Jc.region ?_
  refine Jl.pv (PR.move rfl) ?_
  refine Jl.pv (PR.move rfl) ?_
  refine Jl.pv (PR.len rfl tsl26) ?_
  refine Jl.pv (PR.lss _ rfl rfl rfl) ?_
  refine Jl.nil ?_
  refine Jq.thenN ?_
  refine Jc.cond rfl (fun h0 => ?_) (fun h0 => ?_)
  · try replace h0 := of_decide_eq_true h0
    have hi : i < b.length := by omega
    have hm128 : b[i].toNat % 128 < 128 := Nat.mod_lt _ (by omega)
    have hbig := hs.big _ hm128
    have hbb := b[i].toNat_lt
    refine Jc.skip ?_
    refine Jq.thenN ?_
    refine Jc.seq ?_
    refine Jc.block ?_
    refine Jc.seq ?_
    refine Jc.region ?_
    refine Jl.pv (PR.move rfl) ?_
    refine Jl.pv (PR.move rfl) ?_
    refine Jl.pv (PR.move rfl) ?_
    refine Jl.pv (PR.idx1 i rfl rfl tsl26 (by repeat (first | exact Mem.here | apply Mem.there)) (by simp [u8s]) rfl hi) ?_
    refine Jl.pv (PR.loadR rfl tsh5 (by repeat (first | exact Mem.here | apply Mem.there)) (getu hi)) ?_
    refine Jl.pv (PR.rem ((b[i].toNat % 128 : Nat) : Int) rfl rfl (by decide) (tmodN _ 128)) ?_
    refine Jl.pv (PR.conv ((b[i].toNat % 128 : Nat) : Int) rfl Tryd.underlying5 Tryd.underlying3 (w64 (by omega) (by omega))) ?_
    refine Jl.pv (PR.move rfl) ?_
    refine Jl.pv (PR.mul ((b[i].toNat % 128 * 128 ^ i : Nat) : Int) rfl rfl (by rw [← Int.natCast_mul, w64 (by omega) (by omega)])) ?_
    refine Jl.pv (PR.add ((acc + b[i].toNat % 128 * 128 ^ i : Nat) : Int) rfl rfl (by rw [← Int.natCast_add, w64 (by omega) (by omega)])) ?_
    refine Jl.pv (PR.assign rfl) ?_
    refine Jl.nil ?_
    refine Jq.thenN ?_
    refine Jc.seq ?_
    refine Jc.region ?_
    refine Jl.pv (PR.move rfl) ?_
    refine Jl.pv (PR.mul ((128 ^ (i + 1) : Nat) : Int) rfl rfl (by rw [show ((128 ^ i : Nat) : Int) * 128 = ((128 ^ i * 128 : Nat) : Int) from (Int.natCast_mul ..).symm, p128_succ, w64n (by rw [← p128_succ]; omega)])) ?_
    refine Jl.pv (PR.assign rfl) ?_
    refine Jl.nil ?_
    refine Jq.thenN ?_
    refine Jc.seq ?_
    refine Jc.seq ?_
    refine Jc.region ?_
    refine Jl.pv (PR.move rfl) ?_
    refine Jl.pv (PR.move rfl) ?_
    refine Jl.pv (PR.idx1 i rfl rfl tsl26 (by repeat (first | exact Mem.here | apply Mem.there)) (by simp [u8s]) rfl hi) ?_
    refine Jl.pv (PR.loadR rfl tsh5 (by repeat (first | exact Mem.here | apply Mem.there)) (getu hi)) ?_
    refine Jl.pv (PR.lss _ rfl rfl rfl) ?_
    refine Jl.nil ?_
    refine Jq.thenN ?_
    refine Jc.cond rfl (fun h1 => ?_) (fun h1 => ?_)
    · try replace h1 := of_decide_eq_true h1
      refine Jc.seq ?_
      refine Jc.seq ?_
      refine Jc.region ?_
      refine Jl.pv (PR.move rfl) ?_
      refine Jl.pv (PR.move rfl) ?_
      refine Jl.pv (PR.idx1 i rfl rfl tsl26 (by repeat (first | exact Mem.here | apply Mem.there)) (by simp [u8s]) rfl hi) ?_
      refine Jl.pv (PR.loadR rfl tsh5 (by repeat (first | exact Mem.here | apply Mem.there)) (getu hi)) ?_
      refine Jl.pv (PR.eql _ rfl rfl rfl) ?_
      refine Jl.pv (PR.move rfl) ?_
      refine Jl.bsplit (fun g36 => ?_) (fun g36 => ?_)
      · try replace g36 := of_decide_eq_true g36
        refine Jl.on rfl rfl ?_
        refine Jl.pv (PR.move rfl) ?_
        refine Jl.on rfl rfl ?_
        refine Jl.pv (PR.gtr _ rfl rfl rfl) ?_
        refine Jl.pv (PR.pickT rfl rfl) ?_
        refine Jl.pv (PR.move rfl) ?_
        refine Jl.bsplit (fun g40 => ?_) (fun g40 => ?_)
        · try replace g40 := of_decide_eq_true g40
          refine Jl.offS rfl rfl rfl ?_
          refine Jl.offS rfl rfl rfl ?_
          refine Jl.offS rfl rfl rfl ?_
          refine Jl.pv (PR.pickT rfl rfl) ?_
          refine Jl.nil ?_
          refine Jq.thenN ?_
          refine Jc.condT rfl ?_
          refine Jc.seq ?_
          refine Jc.region ?_
          refine Jl.pv (PR.assign rfl) ?_
          refine Jl.pv (PR.assign rfl) ?_
          refine Jl.pv (PR.assign rfl) ?_
          refine Jl.nil ?_
          refine Jq.thenN ?_
          refine Jc.ret ?_
          refine Jq.thenR ?_
          refine Jq.thenR ?_
          refine Jq.blkR ?_
          refine Jq.thenR ?_
          refine Jq.thenR ?_
          refine Jq.blkR ?_
          refine Jq.thenR ?_
          refine Jq.nilRow 5 1 ?_
          rw [hs.bad hi (.inr ⟨by omega, .inl ⟨by omega, by omega⟩⟩)]
          exact Jq.fin (none, 0) (.inl rfl) rfl (RetVs.tmp rfl (RetVs.tmp rfl (RetVs.tmp rfl RetVs.nil))) rfl (by repeat (first | exact Take.nil | apply Take.cons (by repeat (first | exact Del.here | apply Del.there)))) (by repeat (first | exact trivial | refine And.intro (by repeat (first | exact Mem.here | apply Mem.there)) ?_))
        · try replace g40 := of_decide_eq_false g40
          refine Jl.on rfl rfl ?_
          refine Jl.pv (PR.move rfl) ?_
          refine Jl.on rfl rfl ?_
          refine Jl.call (rfine_ct _) en48 (by rfl) (by repeat (first | exact Take.nil | apply Take.cons (by repeat (first | exact Del.here | apply Del.there)))) (by repeat (first | exact trivial | refine And.intro (by repeat (first | exact Mem.here | apply Mem.there)) ?_)) ?_
          rintro ⟨⟩
          refine Jl.on rfl rfl ?_
          refine Jl.pv (PR.not rfl) ?_
          refine Jl.pv (PR.pickF rfl rfl) ?_
          refine Jl.nil ?_
          refine Jq.thenN ?_
          refine Jc.cond rfl (fun h2 => ?_) (fun h2 => ?_)
          · try replace h2 := of_decide_eq_true h2
            replace h2 : 1099511627776 < acc + b[i].toNat % 128 * 128 ^ i := by rw [fineN_nat] at h2; simpa using h2
            refine Jc.seq ?_
            refine Jc.region ?_
            refine Jl.pv (PR.assign rfl) ?_
            refine Jl.pv (PR.assign rfl) ?_
            refine Jl.pv (PR.assign rfl) ?_
            refine Jl.nil ?_
            refine Jq.thenN ?_
            refine Jc.ret ?_
            refine Jq.thenR ?_
            refine Jq.thenR ?_
            refine Jq.blkR ?_
            refine Jq.thenR ?_
            refine Jq.thenR ?_
            refine Jq.blkR ?_
            refine Jq.thenR ?_
            refine Jq.nilRow 5 1 ?_
            rw [hs.bad hi (.inr ⟨by omega, .inr h2⟩)]
            exact Jq.fin (none, 0) (.inl rfl) rfl (RetVs.tmp rfl (RetVs.tmp rfl (RetVs.tmp rfl RetVs.nil))) rfl (by repeat (first | exact Take.nil | apply Take.cons (by repeat (first | exact Del.here | apply Del.there)))) (by repeat (first | exact trivial | refine And.intro (by repeat (first | exact Mem.here | apply Mem.there)) ?_))
          · try replace h2 := of_decide_eq_false h2
            replace h2 : acc + b[i].toNat % 128 * 128 ^ i ≤ 1099511627776 := by rw [fineN_nat] at h2; simpa using h2
            refine Jc.skip ?_
            refine Jq.thenN ?_
            refine Jc.seq ?_
            refine Jc.region ?_
            refine Jl.pv (PR.move rfl) ?_
            refine Jl.buildSlice (by rfl) tsl26 tzr26_0 (by rfl) (by rfl) ?_
            intro b46
            refine Jl.pv (PR.move rfl) ?_
            refine Jl.pv (PR.move rfl) ?_
            refine Jl.pv (PR.add _ rfl rfl (w64 (by omega) (by omega))) ?_
            refine Jl.slice (i + 1) b.length (b.length - (i + 1)) (u8s (b.drop (i + 1))) rfl tsl26 rfl rfl (by repeat (first | exact Mem.here | apply Mem.there)) (by omega) (Nat.le_refl _) hc rfl (sl_end b (i + 1)) ?_
            intro A50 c50 hc50
            clear hc50
            refine Jl.toRow 1 0 (by repeat (first | exact Swap.here | apply Swap.there)) (by rfl) (by rfl) ?_
            refine Jl.append (b.drop (i + 1)).length (u8s (b.drop (i + 1))) rfl rfl rfl tsl26 tze5 (by rfl) (by decide) tby5 (fun _ _ => (by repeat (first | exact Swap.here | apply Swap.there))) (by repeat (first | exact Mem.here | apply Mem.there)) (by simp) rfl (by simp [u8s]) (u8s_one _) (by simp; omega) (by decide) ?_
            intro A51 c51
            refine Jl.pv (PR.assign rfl) ?_
            refine Jl.pv (PR.assign rfl) ?_
            refine Jl.pv (PR.assign rfl) ?_
            refine Jl.nil ?_
            refine Jq.thenN ?_
            refine Jc.ret ?_
            refine Jq.thenR ?_
            refine Jq.blkR ?_
            refine Jq.thenR ?_
            refine Jq.thenR ?_
            refine Jq.blkR ?_
            refine Jq.thenR ?_
            rw [hs.good hi (by omega) (by omega) h2]
            exact Jq.fin (A51, c51) (.inl rfl) rfl (RetVs.tmp rfl (RetVs.tmp rfl (RetVs.tmp rfl RetVs.nil))) rfl (by repeat (first | exact Take.nil | apply Take.cons (by repeat (first | exact Del.here | apply Del.there)))) (by repeat (first | exact trivial | refine And.intro (by repeat (first | exact Mem.here | apply Mem.there)) ?_))
      · try replace g36 := of_decide_eq_false g36
        refine Jl.offS rfl rfl rfl ?_
        refine Jl.offS rfl rfl rfl ?_
        refine Jl.pv (PR.pickF rfl rfl) ?_
        refine Jl.pv (PR.move rfl) ?_
        refine Jl.on rfl rfl ?_
        refine Jl.pv (PR.move rfl) ?_
        refine Jl.on rfl rfl ?_
        refine Jl.call (rfine_ct _) en48 (by rfl) (by repeat (first | exact Take.nil | apply Take.cons (by repeat (first | exact Del.here | apply Del.there)))) (by repeat (first | exact trivial | refine And.intro (by repeat (first | exact Mem.here | apply Mem.there)) ?_)) ?_
        rintro ⟨⟩
        refine Jl.on rfl rfl ?_
        refine Jl.pv (PR.not rfl) ?_
        refine Jl.pv (PR.pickF rfl rfl) ?_
        refine Jl.nil ?_
        refine Jq.thenN ?_
        refine Jc.cond rfl (fun h3 => ?_) (fun h3 => ?_)
        · try replace h3 := of_decide_eq_true h3
          replace h3 : 1099511627776 < acc + b[i].toNat % 128 * 128 ^ i := by rw [fineN_nat] at h3; simpa using h3
          refine Jc.seq ?_
          refine Jc.region ?_
          refine Jl.pv (PR.assign rfl) ?_
          refine Jl.pv (PR.assign rfl) ?_
          refine Jl.pv (PR.assign rfl) ?_
          refine Jl.nil ?_
          refine Jq.thenN ?_
          refine Jc.ret ?_
          refine Jq.thenR ?_
          refine Jq.thenR ?_
          refine Jq.blkR ?_
          refine Jq.thenR ?_
          refine Jq.thenR ?_
          refine Jq.blkR ?_
          refine Jq.thenR ?_
          refine Jq.nilRow 5 1 ?_
          rw [hs.bad hi (.inr ⟨by omega, .inr h3⟩)]
          exact Jq.fin (none, 0) (.inl rfl) rfl (RetVs.tmp rfl (RetVs.tmp rfl (RetVs.tmp rfl RetVs.nil))) rfl (by repeat (first | exact Take.nil | apply Take.cons (by repeat (first | exact Del.here | apply Del.there)))) (by repeat (first | exact trivial | refine And.intro (by repeat (first | exact Mem.here | apply Mem.there)) ?_))
        · try replace h3 := of_decide_eq_false h3
          replace h3 : acc + b[i].toNat % 128 * 128 ^ i ≤ 1099511627776 := by rw [fineN_nat] at h3; simpa using h3
          refine Jc.skip ?_
          refine Jq.thenN ?_
          refine Jc.seq ?_
          refine Jc.region ?_
          refine Jl.pv (PR.move rfl) ?_
          refine Jl.buildSlice (by rfl) tsl26 tzr26_0 (by rfl) (by rfl) ?_
          intro b46
          refine Jl.pv (PR.move rfl) ?_
          refine Jl.pv (PR.move rfl) ?_
          refine Jl.pv (PR.add _ rfl rfl (w64 (by omega) (by omega))) ?_
          refine Jl.slice (i + 1) b.length (b.length - (i + 1)) (u8s (b.drop (i + 1))) rfl tsl26 rfl rfl (by repeat (first | exact Mem.here | apply Mem.there)) (by omega) (Nat.le_refl _) hc rfl (sl_end b (i + 1)) ?_
          intro A50 c50 hc50
          clear hc50
          refine Jl.toRow 1 0 (by repeat (first | exact Swap.here | apply Swap.there)) (by rfl) (by rfl) ?_
          refine Jl.append (b.drop (i + 1)).length (u8s (b.drop (i + 1))) rfl rfl rfl tsl26 tze5 (by rfl) (by decide) tby5 (fun _ _ => (by repeat (first | exact Swap.here | apply Swap.there))) (by repeat (first | exact Mem.here | apply Mem.there)) (by simp) rfl (by simp [u8s]) (u8s_one _) (by simp; omega) (by decide) ?_
          intro A51 c51
          refine Jl.pv (PR.assign rfl) ?_
          refine Jl.pv (PR.assign rfl) ?_
          refine Jl.pv (PR.assign rfl) ?_
          refine Jl.nil ?_
          refine Jq.thenN ?_
          refine Jc.ret ?_
          refine Jq.thenR ?_
          refine Jq.blkR ?_
          refine Jq.thenR ?_
          refine Jq.thenR ?_
          refine Jq.blkR ?_
          refine Jq.thenR ?_
          rw [hs.good hi (by omega) (by omega) h3]
          exact Jq.fin (A51, c51) (.inl rfl) rfl (RetVs.tmp rfl (RetVs.tmp rfl (RetVs.tmp rfl RetVs.nil))) rfl (by repeat (first | exact Take.nil | apply Take.cons (by repeat (first | exact Del.here | apply Del.there)))) (by repeat (first | exact trivial | refine And.intro (by repeat (first | exact Mem.here | apply Mem.there)) ?_))
    · try replace h1 := of_decide_eq_false h1
      refine Jc.skip ?_
      refine Jq.thenN ?_
      refine Jc.seq ?_
      refine Jc.region ?_
      refine Jl.pv (PR.move rfl) ?_
      refine Jl.pv (PR.eql _ rfl rfl rfl) ?_
      refine Jl.nil ?_
      refine Jq.thenN ?_
      refine Jc.cond rfl (fun h4 => ?_) (fun h4 => ?_)
      · try replace h4 := of_decide_eq_true h4
        refine Jc.seq ?_
        refine Jc.region ?_
        refine Jl.pv (PR.assign rfl) ?_
        refine Jl.pv (PR.assign rfl) ?_
        refine Jl.pv (PR.assign rfl) ?_
        refine Jl.nil ?_
        refine Jq.thenN ?_
        refine Jc.ret ?_
        refine Jq.blkR ?_
        refine Jq.thenR ?_
        refine Jq.thenR ?_
        refine Jq.blkR ?_
        refine Jq.thenR ?_
        refine Jq.nilRow 5 1 ?_
        rw [hs.bad hi (.inl ⟨by omega, by omega⟩)]
        exact Jq.fin (none, 0) (.inl rfl) rfl (RetVs.tmp rfl (RetVs.tmp rfl (RetVs.tmp rfl RetVs.nil))) rfl (by repeat (first | exact Take.nil | apply Take.cons (by repeat (first | exact Del.here | apply Del.there)))) (by repeat (first | exact trivial | refine And.intro (by repeat (first | exact Mem.here | apply Mem.there)) ?_))
      · try replace h4 := of_decide_eq_false h4
        refine Jc.skip ?_
        refine Jq.blkN ?_
        refine Jq.thenN ?_
        refine Jc.region ?_
        refine Jl.pv (PR.move rfl) ?_
        refine Jl.pv (PR.add ((i + 1 : Nat) : Int) rfl rfl (by rw [w64 (by omega) (by omega)]; rfl)) ?_
        refine Jl.pv (PR.assign rfl) ?_
        refine Jl.nil ?_
        refine Jq.again ⟨(i + 1, acc + b[i].toNat % 128 * 128 ^ i), hs.next hi (by omega) (by omega)⟩ (by simp only; omega) (by exact ⟨rfl, rfl, rfl, rfl, trivial⟩) rfl (by exact ⟨Mem.here, trivial⟩)
  · try replace h0 := of_decide_eq_false h0
    refine Jc.exit ?_
    refine Jq.thenX ?_
    refine Jq.thenX ?_
    refine Jq.blkX ?_
    refine Jq.thenN ?_
    refine Jc.seq ?_
    refine Jc.region ?_
    refine Jl.pv (PR.assign rfl) ?_
    refine Jl.pv (PR.assign rfl) ?_
    refine Jl.pv (PR.assign rfl) ?_
    refine Jl.nil ?_
    refine Jq.thenN ?_
    refine Jc.ret ?_
    refine Jq.nilRow 5 1 ?_
    rw [hs.short (by omega)]
    exact Jq.fin (none, 0) (.inl rfl) rfl (RetVs.tmp rfl (RetVs.tmp rfl (RetVs.tmp rfl RetVs.nil))) rfl (by repeat (first | exact Take.nil | apply Take.cons (by repeat (first | exact Del.here | apply Del.there)))) (by repeat (first | exact trivial | refine And.intro (by repeat (first | exact Mem.here | apply Mem.there)) ?_))
theorem rput_fine {a : Int} (h : fineN a = true) : Ct Tryd.prog 41 [.int .i64 a] [] [] (fun x : OA => .tuple #[.slice x.1 (putB a).length x.2, .int .i64 0]) (rowU (putB a)) (fun _ => []) := by
  have h0 := rput_ct a
  rw [show putN a = putB a from if_pos h, show putR a = 0 from if_pos h] at h0
  exact h0
end Go.Proofs.YtljgaglbgkejhaaDoor
