/-
Contracts of the reference of frames.
-/
import Derived.Test.YtnkekjhijkfckaaFrameT
import Derived.Test.YtnkekjhijkfckaaJk
import Derived.Test.YtnkekjhijkfckaaJw
namespace Go.Proofs.Ytnkekjhijkfckaa
set_option linter.unusedVariables false
open Go.RowKit
attribute [local irreducible] Res.blk Res.row Fact.rd
theorem rput_fine {a : Int} (h : fineN a = true) : Ct Try.prog 22 [.int .i64 a] [] [] (fun x : OA => .tuple #[.slice x.1 (putB a).length x.2, .int .i64 0]) (rowU (putB a)) (fun _ => []) := by
  have h0 := rput_ct a
  rw [show putN a = putB a from if_pos h, show putR a = 0 from if_pos h] at h0
  exact h0
theorem rfput_ct (A : Option Addr) (c : Nat) (p : List UInt8) (hn : p.length ≤ 1000000) : Ct Try.prog 10 [.slice A p.length c] [] [.rd A (u8s p)] (fun x : OA => .tuple #[.slice x.1 (putFN p).length x.2, .int .i64 (putFR p)]) (rowU (putFN p)) (fun _ => []) := by
  by_cases hp : p.length ≤ 4000
  · have e1 : putFN p = frameB p := if_pos hp
    have e2 : putFR p = 0 := if_pos hp
    rw [e1, e2]
    have hpb := putB_len (p.length : Int)
    have hfl : (frameB p).length = (putB p.length).length + p.length + 4 := by simp [frameB, sumB]; omega
    refine Ct.of _ Try.func10 Try.ntmps10 rfl rfl (fun X W => ?_)
    refine Jc.seq ?_
    refine Jc.region ?_
    refine Jl.pv (PR.assign rfl) ?_
    refine Jl.pv (PR.assign rfl) ?_
    refine Jl.nil ?_
    refine Jq.thenN ?_
    refine Jc.seq ?_
    refine Jc.seq ?_
    refine Jc.region ?_
    refine Jl.pv (PR.move rfl) ?_
    refine Jl.pv (PR.len rfl tsl22) ?_
    refine Jl.pv (PR.gtr false rfl rfl (by simp; omega)) ?_
    refine Jl.nil ?_
    refine Jq.thenN ?_
    refine Jc.condF rfl ?_
    refine Jc.skip ?_
    refine Jq.thenN ?_
    refine Jc.seq ?_
    refine Jc.region ?_
    refine Jl.pv (PR.move rfl) ?_
    refine Jl.pv (PR.len rfl tsl22) ?_
    refine Jl.call (rput_fine (a := p.length) (by simp [fineN]; omega)) en22 (by rfl) (by repeat (first | exact Take.nil | apply Take.cons (by repeat (first | exact Del.here | apply Del.there)))) (by repeat (first | exact trivial | refine And.intro (by repeat (first | exact Mem.here | apply Mem.there)) ?_)) ?_
    rintro ⟨A13, c13⟩
    refine Jl.pv (PR.move rfl) ?_
    refine Jl.pv (PR.extract rfl (by rfl)) ?_
    refine Jl.pv (PR.extract rfl (by rfl)) ?_
    refine Jl.pv (PR.assign rfl) ?_
    refine Jl.pv (PR.assign rfl) ?_
    refine Jl.nil ?_
    refine Jq.thenN ?_
    refine Jc.seq ?_
    refine Jc.seq ?_
    refine Jc.region ?_
    refine Jl.pv (PR.move rfl) ?_
    refine Jl.pv (PR.neq false rfl rfl rfl) ?_
    refine Jl.nil ?_
    refine Jq.thenN ?_
    refine Jc.condF rfl ?_
    refine Jc.skip ?_
    refine Jq.thenN ?_
    refine Jc.seq ?_
    refine Jc.region ?_
    refine Jl.pv (PR.move rfl) ?_
    refine Jl.pv (PR.move rfl) ?_
    refine Jl.append (putB p.length ++ p).length (u8s (putB p.length ++ p)) rfl rfl rfl tsl22 tze5 (by rfl) (by decide) tby5 (fun _ _ => (by repeat (first | exact Swap.here | apply Swap.there))) (by repeat (first | exact Mem.here | apply Mem.there)) (by simp) (by simp [u8s]) (by simp [u8s]) (u8s_one _) (by omega) (by decide) ?_
    intro A21 c21
    refine Jl.pv (PR.assign rfl) ?_
    refine Jl.nil ?_
    refine Jq.thenN ?_
    refine Jc.seq ?_
    refine Jc.region ?_
    refine Jl.pv (PR.move rfl) ?_
    refine Jl.call (rsum_ct A c p (by omega)) en18 (by rfl) (by repeat (first | exact Take.nil | apply Take.cons (by repeat (first | exact Del.here | apply Del.there)))) (by repeat (first | exact trivial | refine And.intro (by repeat (first | exact Mem.here | apply Mem.there)) ?_)) ?_
    rintro ⟨⟩
    refine Jl.pv (PR.assign rfl) ?_
    refine Jl.nil ?_
    refine Jq.thenN ?_
    refine Jc.seq ?_
    refine Jc.region ?_
    refine Jl.pv (PR.move rfl) ?_
    refine Jl.pv (PR.move rfl) ?_
    refine Jl.pv (PR.conv ((sumN p % 256 : Nat) : Int) rfl Try.underlying34 Try.underlying5 (fput_sum _)) ?_
    refine Jl.pv (PR.move rfl) ?_
    refine Jl.pv (PR.shr ((sumN p / 256 : Nat) : Int) rfl rfl (by decide) (fput_shr _ _ 8 (by omega) rfl)) ?_
    refine Jl.pv (PR.conv ((sumN p / 256 % 256 : Nat) : Int) rfl Try.underlying34 Try.underlying5 (fput_sum _)) ?_
    refine Jl.pv (PR.move rfl) ?_
    refine Jl.pv (PR.shr ((sumN p / 65536 : Nat) : Int) rfl rfl (by decide) (fput_shr _ _ 16 (by omega) rfl)) ?_
    refine Jl.pv (PR.conv ((sumN p / 65536 % 256 : Nat) : Int) rfl Try.underlying34 Try.underlying5 (fput_sum _)) ?_
    refine Jl.pv (PR.move rfl) ?_
    refine Jl.pv (PR.shr ((sumN p / 16777216 : Nat) : Int) rfl rfl (by decide) (fput_shr _ _ 24 (by omega) rfl)) ?_
    refine Jl.pv (PR.conv ((sumN p / 16777216 % 256 : Nat) : Int) rfl Try.underlying34 Try.underlying5 (fput_sum _)) ?_
    refine Jl.buildSlice (by rfl) tsl22 tzr22_4 (by rfl) (by rfl) ?_
    intro b36
    refine Jl.seal (by repeat (first | exact Del.here | apply Del.there)) ?_
    refine Jl.append (frameB p).length (u8s (frameB p)) rfl rfl rfl tsl22 tze5 (by rfl) (by decide) tby5 (fun _ _ => (by repeat (first | exact Swap.here | apply Swap.there))) (by repeat (first | exact Mem.here | apply Mem.there)) (by rw [hfl]; simp) (by simp [u8s, frameB, sumB]) rfl (by simp [Value.oneCell']) (by simp; omega) (by decide) ?_
    intro A37 c37
    refine Jl.pv (PR.assign rfl) ?_
    refine Jl.pv (PR.assign rfl) ?_
    refine Jl.nil ?_
    refine Jq.thenN ?_
    refine Jc.ret ?_
    exact Jq.fin (A37, c37) (.inl rfl) rfl (RetVs.tmp rfl (RetVs.tmp rfl RetVs.nil)) rfl (by repeat (first | exact Take.nil | apply Take.cons (by repeat (first | exact Del.here | apply Del.there)))) (by repeat (first | exact trivial | refine And.intro (by repeat (first | exact Mem.here | apply Mem.there)) ?_))
  · have e1 : putFN p = [] := if_neg hp
    have e2 : putFR p = 2 := if_neg hp
    rw [e1, e2]
    refine Ct.of _ Try.func10 Try.ntmps10 rfl rfl (fun X W => ?_)
    refine Jc.seq ?_
    refine Jc.region ?_
    refine Jl.pv (PR.assign rfl) ?_
    refine Jl.pv (PR.assign rfl) ?_
    refine Jl.nil ?_
    refine Jq.thenN ?_
    refine Jc.seq ?_
    refine Jc.seq ?_
    refine Jc.region ?_
    refine Jl.pv (PR.move rfl) ?_
    refine Jl.pv (PR.len rfl tsl22) ?_
    refine Jl.pv (PR.gtr true rfl rfl (by simp; omega)) ?_
    refine Jl.nil ?_
    refine Jq.thenN ?_
    refine Jc.condT rfl ?_
    refine Jc.seq ?_
    refine Jc.region ?_
    refine Jl.pv (PR.assign rfl) ?_
    refine Jl.pv (PR.assign rfl) ?_
    refine Jl.nil ?_
    refine Jq.thenN ?_
    refine Jc.ret ?_
    refine Jq.thenR ?_
    refine Jq.nilRow 5 1 ?_
    exact Jq.fin (none, 0) (.inl rfl) rfl (RetVs.tmp rfl (RetVs.tmp rfl RetVs.nil)) rfl (by repeat (first | exact Take.nil | apply Take.cons (by repeat (first | exact Del.here | apply Del.there)))) (by repeat (first | exact trivial | refine And.intro (by repeat (first | exact Mem.here | apply Mem.there)) ?_))
theorem rfput_at {A : Option Addr} {c n : Nat} {p : List UInt8} (hn : p.length = n) (h4 : n ≤ 4000) : Ct Try.prog 10 [.slice A n c] [] [.rd A (u8s p)] (fun x : OA => .tuple #[.slice x.1 (frameB p).length x.2, .int .i64 0]) (rowU (frameB p)) (fun _ => []) := by
  subst hn
  have h0 := rfput_ct A c p (by omega)
  rw [show putFN p = frameB p from if_pos h4, show putFR p = 0 from if_pos h4] at h0
  exact h0
theorem ref_take {b r0 : List UInt8} {n : Nat} (ht : takeN b = (n, r0, 0)) (hn4 : n + 4 ≤ r0.length) :
    (frameB (r0.take n) = b.take (b.length - r0.length + n + 4) ↔ (r0.drop n).take 4 = sumB (sumN (r0.take n))) ∧ b.drop (b.length - r0.length + n + 4) = r0.drop (n + 4) ∧ b.length - r0.length + n + 4 ≤ b.length := by
  have hb := (takeN_only ht).1
  have hl : b.length = (putB n).length + r0.length := by rw [← hb]; simp
  have e0 : b.length - r0.length + n + 4 = (putB n).length + (n + 4) := by omega
  have hpl : (r0.take n).length = n := by simp; omega
  have e1 : b.take ((putB n).length + (n + 4)) = putB n ++ (r0.take n ++ (r0.drop n).take 4) := by
    rw [← hb, List.take_length_add_append, List.take_add]
  have e2 : b.drop ((putB n).length + (n + 4)) = r0.drop (n + 4) := by rw [← hb, List.drop_length_add_append]
  rw [e0, e1, e2]
  refine ⟨?_, rfl, by omega⟩
  rw [frameB, hpl, List.append_assoc, List.append_right_inj, List.append_right_inj]
  exact eq_comm
theorem rftake_ct (A : Option Addr) (c : Nat) (b : List UInt8) (hn : b.length ≤ 1000000) (hc : b.length ≤ c) :
    Ct Try.prog 12 [.slice A b.length c] [] [.rd A (u8s b)] (fun x : OA × OA => .tuple #[.slice x.1.1 (takeF b).1.length x.1.2, .slice x.2.1 (takeF b).2.1.length x.2.2, .int .i64 (takeF b).2.2]) (rows2 (takeF b).1 (takeF b).2.1) (fun _ => []) := by
  obtain ⟨n, r0, e0, ht⟩ : ∃ n r0 e0, takeN b = (n, r0, e0) := ⟨_, _, _, rfl⟩
  have htl : r0.length ≤ b.length := by have := takeN_len b; rw [ht] at this; exact this
  have hcf : cutF b = if e0 = 0 ∧ n ≤ 4000 ∧ n + 4 ≤ r0.length ∧ (r0.drop n).take 4 = sumB (sumN (r0.take n)) then some (r0.take n, r0.drop (n + 4)) else none := by rw [cutF, ht]
  have hct : Ct Try.prog 25 [.slice A b.length c] [] [.rd A (u8s b)] (fun x : OA => .tuple #[.int .i64 (n : Int), .slice x.1 r0.length x.2, .int .i64 (e0 : Int)]) (rowU r0) (fun _ => []) := by
    have := rtake_ct A c b hn hc
    rw [ht] at this
    exact this
  have hno : cutF b = none → takeF b = ([], [], 40) := fun h => by simp [takeF, h]
  have hye : ∀ p r, cutF b = some (p, r) → takeF b = (p, r, 0) := fun p r h => by simp [takeF, h]
  refine Ct.of _ Try.func12 Try.ntmps12 rfl rfl (fun X W => ?_)
  refine Jc.seq ?_
  refine Jc.region ?_
  refine Jl.pv (PR.assign rfl) ?_
  refine Jl.pv (PR.assign rfl) ?_
  refine Jl.pv (PR.assign rfl) ?_
  refine Jl.nil ?_
  refine Jq.thenN ?_
  refine Jc.seq ?_
  refine Jc.region ?_
  refine Jl.pv (PR.move rfl) ?_
  refine Jl.call hct en25 (by rfl) (by repeat (first | exact Take.nil | apply Take.cons (by repeat (first | exact Del.here | apply Del.there)))) (by repeat (first | exact trivial | refine And.intro (by repeat (first | exact Mem.here | apply Mem.there)) ?_)) ?_
  rintro ⟨A13, c13⟩
  refine Jl.sealC (by repeat (first | exact Del.here | apply Del.there)) (fun hc13 => ?_)
  refine Jl.pv (PR.move rfl) ?_
  refine Jl.pv (PR.extract rfl (by rfl)) ?_
  refine Jl.pv (PR.extract rfl (by rfl)) ?_
  refine Jl.pv (PR.extract rfl (by rfl)) ?_
  refine Jl.pv (PR.assign rfl) ?_
  refine Jl.pv (PR.assign rfl) ?_
  refine Jl.pv (PR.assign rfl) ?_
  refine Jl.nil ?_
  refine Jq.thenN ?_
  refine Jc.seq ?_
  refine Jc.seq ?_
  refine Jc.region ?_
  refine Jl.pv (PR.move rfl) ?_
  refine Jl.pv (PR.neq _ rfl rfl rfl) ?_
  refine Jl.pv (PR.move rfl) ?_
  refine Jl.bsplit (fun g19 => ?_) (fun g19 => ?_)
  · try replace g19 := of_decide_eq_true g19
    refine Jl.off rfl rfl rfl rfl ?_
    refine Jl.off rfl rfl rfl rfl ?_
    refine Jl.pv (PR.pickT rfl rfl) ?_
    refine Jl.pv (PR.move rfl) ?_
    refine Jl.off rfl rfl rfl rfl ?_
    refine Jl.off rfl rfl rfl rfl ?_
    refine Jl.off rfl rfl rfl rfl ?_
    refine Jl.off rfl rfl rfl rfl ?_
    refine Jl.off rfl rfl rfl rfl ?_
    refine Jl.pv (PR.pickT rfl rfl) ?_
    refine Jl.nil ?_
    refine Jq.thenN ?_
    refine Jc.condT rfl ?_
    refine Jc.seq ?_
    refine Jc.region ?_
    refine Jl.pv (PR.assign rfl) ?_
    refine Jl.pv (PR.assign rfl) ?_
    refine Jl.pv (PR.assign rfl) ?_
    refine Jl.nil ?_
    refine Jq.thenN ?_
    refine Jc.ret ?_
    refine Jq.thenR ?_
    rw [hno (by rw [hcf, if_neg (by omega)])]
    refine Jq.nilRow 5 1 ?_
    refine Jq.nilRow 5 1 ?_
    exact Jq.fin ((none, 0), (none, 0)) (.inl rfl) rfl (RetVs.tmp rfl (RetVs.tmp rfl (RetVs.tmp rfl RetVs.nil))) rfl (by repeat (first | exact Take.nil | apply Take.cons (by repeat (first | exact Del.here | apply Del.there)))) (by repeat (first | exact trivial | refine And.intro (by repeat (first | exact Mem.here | apply Mem.there)) ?_))
  · try replace g19 := of_decide_eq_false g19
    refine Jl.on rfl rfl ?_
    refine Jl.pv (PR.move rfl) ?_
    refine Jl.on rfl rfl ?_
    refine Jl.pv (PR.gtr _ rfl rfl rfl) ?_
    refine Jl.pv (PR.pickF rfl rfl) ?_
    refine Jl.pv (PR.move rfl) ?_
    refine Jl.bsplit (fun g23 => ?_) (fun g23 => ?_)
    · try replace g23 := of_decide_eq_true g23
      refine Jl.off rfl rfl rfl rfl ?_
      refine Jl.off rfl rfl rfl rfl ?_
      refine Jl.off rfl rfl rfl rfl ?_
      refine Jl.off rfl rfl rfl rfl ?_
      refine Jl.off rfl rfl rfl rfl ?_
      refine Jl.pv (PR.pickT rfl rfl) ?_
      refine Jl.nil ?_
      refine Jq.thenN ?_
      refine Jc.condT rfl ?_
      refine Jc.seq ?_
      refine Jc.region ?_
      refine Jl.pv (PR.assign rfl) ?_
      refine Jl.pv (PR.assign rfl) ?_
      refine Jl.pv (PR.assign rfl) ?_
      refine Jl.nil ?_
      refine Jq.thenN ?_
      refine Jc.ret ?_
      refine Jq.thenR ?_
      rw [hno (by rw [hcf, if_neg (by omega)])]
      refine Jq.nilRow 5 1 ?_
      refine Jq.nilRow 5 1 ?_
      exact Jq.fin ((none, 0), (none, 0)) (.inl rfl) rfl (RetVs.tmp rfl (RetVs.tmp rfl (RetVs.tmp rfl RetVs.nil))) rfl (by repeat (first | exact Take.nil | apply Take.cons (by repeat (first | exact Del.here | apply Del.there)))) (by repeat (first | exact trivial | refine And.intro (by repeat (first | exact Mem.here | apply Mem.there)) ?_))
    · try replace g23 := of_decide_eq_false g23
      refine Jl.on rfl rfl ?_
      refine Jl.pv (PR.move rfl) ?_
      refine Jl.on rfl rfl ?_
      refine Jl.pv (PR.len rfl tsl22) ?_
      refine Jl.on rfl rfl ?_
      refine Jl.pv (PR.move rfl) ?_
      refine Jl.on rfl rfl ?_
      refine Jl.pv (PR.add ((n + 4 : Nat) : Int) rfl rfl (by rw [w64 (by omega) (by omega)]; rfl)) ?_
      refine Jl.on rfl rfl ?_
      refine Jl.pv (PR.lss _ rfl rfl rfl) ?_
      refine Jl.pv (PR.pickF rfl rfl) ?_
      refine Jl.nil ?_
      refine Jq.thenN ?_
      refine Jc.cond rfl (fun h0 => ?_) (fun h0 => ?_)
      · try replace h0 := of_decide_eq_true h0
        refine Jc.seq ?_
        refine Jc.region ?_
        refine Jl.pv (PR.assign rfl) ?_
        refine Jl.pv (PR.assign rfl) ?_
        refine Jl.pv (PR.assign rfl) ?_
        refine Jl.nil ?_
        refine Jq.thenN ?_
        refine Jc.ret ?_
        refine Jq.thenR ?_
        rw [hno (by rw [hcf, if_neg (by omega)])]
        refine Jq.nilRow 5 1 ?_
        refine Jq.nilRow 5 1 ?_
        exact Jq.fin ((none, 0), (none, 0)) (.inl rfl) rfl (RetVs.tmp rfl (RetVs.tmp rfl (RetVs.tmp rfl RetVs.nil))) rfl (by repeat (first | exact Take.nil | apply Take.cons (by repeat (first | exact Del.here | apply Del.there)))) (by repeat (first | exact trivial | refine And.intro (by repeat (first | exact Mem.here | apply Mem.there)) ?_))
      · try replace h0 := of_decide_eq_false h0
        obtain rfl : e0 = 0 := by omega
        have hn4 : n + 4 ≤ r0.length := by omega
        have hrt := ref_take ht hn4
        obtain ⟨u, hu⟩ : ∃ u, b.length - r0.length + n + 4 = u := ⟨_, rfl⟩
        rw [hu] at hrt
        have hpl : (r0.take n).length = n := by simp; omega
        refine Jc.skip ?_
        refine Jq.thenN ?_
        refine Jc.seq ?_
        refine Jc.region ?_
        refine Jl.pv (PR.move rfl) ?_
        refine Jl.pv (PR.move rfl) ?_
        refine Jl.slice 0 n n (u8s (r0.take n)) rfl tsl22 rfl rfl (by repeat (first | exact Mem.here | apply Mem.there)) (by omega) (by omega) hc13 rfl (sl_take r0 n) ?_
        intro A33 c33 hc33
        clear hc33
        refine Jl.call (rfput_at (p := r0.take n) hpl (by omega)) en10 (by rfl) (by repeat (first | exact Take.nil | apply Take.cons (by repeat (first | exact Del.here | apply Del.there)))) (by repeat (first | exact trivial | refine And.intro (by repeat (first | exact Mem.here | apply Mem.there)) ?_)) ?_
        rintro ⟨A34, c34⟩
        refine Jl.sealR (by repeat (first | exact Del.here | apply Del.there)) ?_
        refine Jl.pv (PR.move rfl) ?_
        refine Jl.pv (PR.extract rfl (by rfl)) ?_
        refine Jl.pv (PR.extract rfl (by rfl)) ?_
        refine Jl.pv (PR.assign rfl) ?_
        refine Jl.pv (PR.assign rfl) ?_
        refine Jl.nil ?_
        refine Jq.thenN ?_
        refine Jc.seq ?_
        refine Jc.region ?_
        refine Jl.pv (PR.move rfl) ?_
        refine Jl.pv (PR.len rfl tsl22) ?_
        refine Jl.pv (PR.move rfl) ?_
        refine Jl.pv (PR.len rfl tsl22) ?_
        refine Jl.pv (PR.sub ((b.length - r0.length : Nat) : Int) rfl rfl (by rw [w64 (by omega) (by omega)]; omega)) ?_
        refine Jl.pv (PR.move rfl) ?_
        refine Jl.pv (PR.add ((b.length - r0.length + n : Nat) : Int) rfl rfl (by rw [w64 (by omega) (by omega)]; omega)) ?_
        refine Jl.pv (PR.add ((u : Nat) : Int) rfl rfl (by rw [w64 (by omega) (by omega)]; omega)) ?_
        refine Jl.pv (PR.assign rfl) ?_
        refine Jl.nil ?_
        refine Jq.thenN ?_
        refine Jc.seq ?_
        refine Jc.seq ?_
        refine Jc.drawn [0, 1, 0, 0, 12, 28, 63] ([(0, false), (1, false), (2, false), (3, false), (4, false), (5, false), (6, false)], []) [] tmx (by kernel_rfl) ?_
        refine Dh.JH.nil ?_
        refine Dh.JB.pv rfl trivial (fun _ => PR.move rfl) ?_
        refine Dh.JB.pv rfl trivial (fun _ => PR.str rfl Try.underlying22 Try.underlying5 Try.underlying9 (by repeat (first | exact Mem.here | apply Mem.there)) rfl) ?_
        refine Dh.JB.pv rfl trivial (fun _ => PR.move rfl) ?_
        refine Dh.JB.pv rfl trivial (fun _ => PR.move rfl) ?_
        refine Dh.JB.slice 0 u u (u8s (b.take u)) rfl trivial rfl tsl22 rfl rfl (by repeat (first | exact Mem.here | apply Mem.there)) (by omega) (by omega) hc rfl (sl_take b u) ?_
        intro A49 c49 hc49
        clear hc49
        refine Dh.JB.pv rfl trivial (fun _ => PR.str rfl Try.underlying22 Try.underlying5 Try.underlying9 (by repeat (first | exact Mem.here | apply Mem.there)) (by simp; omega)) ?_
        refine Dh.JB.pv rfl trivial (fun _ => PR.sneq _ rfl rfl rfl) ?_
        refine Dh.JB.nil ?_
        refine Dh.JL.nil ?_
        refine Jq.thenN ?_
        refine Jc.cond rfl (fun h1 => ?_) (fun h1 => ?_)
        · try replace h1 := of_decide_eq_true h1
          refine Jc.seq ?_
          refine Jc.region ?_
          refine Jl.pv (PR.assign rfl) ?_
          refine Jl.pv (PR.assign rfl) ?_
          refine Jl.pv (PR.assign rfl) ?_
          refine Jl.nil ?_
          refine Jq.thenN ?_
          refine Jc.ret ?_
          refine Jq.thenR ?_
          rw [hno (by rw [hcf, if_neg (fun h => by have := hrt.1.2 h.2.2.2; simp [this] at h1)])]
          refine Jq.nilRow 5 1 ?_
          refine Jq.nilRow 5 1 ?_
          exact Jq.fin ((none, 0), (none, 0)) (.inl rfl) rfl (RetVs.tmp rfl (RetVs.tmp rfl (RetVs.tmp rfl RetVs.nil))) rfl (by repeat (first | exact Take.nil | apply Take.cons (by repeat (first | exact Del.here | apply Del.there)))) (by repeat (first | exact trivial | refine And.intro (by repeat (first | exact Mem.here | apply Mem.there)) ?_))
        · try replace h1 := of_decide_eq_false h1
          have hcs := hye _ _ (by rw [hcf, if_pos ⟨rfl, by omega, hn4, hrt.1.1 (by simpa using h1)⟩])
          have hdl : (r0.drop (n + 4)).length = b.length - u := by rw [← hrt.2.1]; simp
          refine Jc.skip ?_
          refine Jq.thenN ?_
          refine Jc.seq ?_
          refine Jc.drawn [0, 0, 0, 6, 15, 0, 0, 0, 192, 511, 1023, 2047, 4095] ([(10, false), (11, false), (12, false)], []) [⟨[(0, true), (1, false), (2, false), (3, false), (5, true), (6, false), (7, false), (8, false)], [0], 4⟩, ⟨[], [5], 9⟩] tmx (by kernel_rfl) ?_
          refine Dh.JH.cons ?_
          refine Dh.JB.buildSlice rfl trivial (by rfl) tsl22 tzr22_0 (by rfl) (by rfl) ?_
          refine Dh.JB.pv rfl trivial (fun _ => PR.move rfl) ?_
          refine Dh.JB.pv rfl trivial (fun _ => PR.move rfl) ?_
          refine Dh.JB.slice 0 n n (u8s (r0.take n)) rfl trivial rfl tsl22 rfl rfl (by repeat (first | exact Mem.here | apply Mem.there)) (by omega) (by omega) hc13 rfl (sl_take r0 n) ?_
          intro A55 c55 hc55
          clear hc55
          refine Dh.JB.buildSlice rfl trivial (by rfl) tsl22 tzr22_0 (by rfl) (by rfl) ?_
          refine Dh.JB.pv rfl trivial (fun _ => PR.move rfl) ?_
          refine Dh.JB.pv rfl trivial (fun _ => PR.move rfl) ?_
          refine Dh.JB.slice u b.length (b.length - u) (u8s (b.drop u)) rfl trivial rfl tsl22 rfl rfl (by repeat (first | exact Mem.here | apply Mem.there)) (by omega) (Nat.le_refl _) hc rfl (sl_end b u) ?_
          intro A60 c60 hc60
          clear hc60
          refine Dh.JB.nil ?_
          refine Dh.JL.sl rfl (by repeat (first | exact Dh.es_here | apply Dh.es_there)) (fun b52 => ?_)
          refine Dh.JL.nil ?_
          refine Dh.JE.mk rfl (fun _ h => by cases h) (fun C8_4 => ?_)
          refine Jl.toRow 1 0 (by repeat (first | exact Swap.here | apply Swap.there)) (by rfl) (by rfl) ?_
          refine Jl.append (r0.take n).length (u8s (r0.take n)) rfl rfl rfl tsl22 tze5 (by rfl) (by decide) tby5 (fun _ _ => (by repeat (first | exact Swap.here | apply Swap.there))) (by repeat (first | exact Mem.here | apply Mem.there)) (by omega) rfl (by simp [u8s]; omega) (u8s_one _) (by omega) (by decide) ?_
          intro A56 c56
          refine Jl.nil ?_
          refine Dh.Jq.segV (by repeat (first | exact Dh.FExt.refl | apply Dh.FExt.cons | apply Dh.FExt.app)) ?_ (by repeat (first | exact Dh.KeepL.nil | apply Dh.KeepL.anc (by rfl) | apply Dh.KeepL.keep (by repeat (first | exact Take.nil | apply Take.cons (by repeat (first | exact Del.here | apply Del.there))))))
          refine Dh.JH.cons ?_
          refine Dh.JB.nil ?_
          refine Dh.JL.sl rfl (by repeat (first | exact Dh.es_here | apply Dh.es_there)) (fun b57 => ?_)
          refine Dh.JL.nil ?_
          refine Dh.JE.mk rfl (fun _ h => by cases h) (fun C8_9 => ?_)
          refine Jl.toRow 1 0 (by repeat (first | exact Swap.here | apply Swap.there)) (by rfl) (by rfl) ?_
          refine Jl.append (b.drop u).length (u8s (b.drop u)) rfl rfl rfl tsl22 tze5 (by rfl) (by decide) tby5 (fun _ _ => (by repeat (first | exact Swap.here | apply Swap.there))) (by repeat (first | exact Mem.here | apply Mem.there)) (by simp) rfl (by simp [u8s]) (u8s_one _) (by simp; omega) (by decide) ?_
          intro A61 c61
          refine Jl.nil ?_
          refine Dh.Jq.segV (by repeat (first | exact Dh.FExt.refl | apply Dh.FExt.cons | apply Dh.FExt.app)) ?_ (by repeat (first | exact Dh.KeepL.nil | apply Dh.KeepL.anc (by rfl) | apply Dh.KeepL.keep (by repeat (first | exact Take.nil | apply Take.cons (by repeat (first | exact Del.here | apply Del.there))))))
          refine Dh.JH.nil ?_
          refine Dh.JB.pv rfl trivial (fun _ => PR.assign rfl) ?_
          refine Dh.JB.pv rfl trivial (fun _ => PR.assign rfl) ?_
          refine Dh.JB.pv rfl trivial (fun _ => PR.assign rfl) ?_
          refine Dh.JB.nil ?_
          refine Dh.JL.nil ?_
          refine Jq.thenN ?_
          refine Jc.ret ?_
          rw [hcs, ← hrt.2.1]
          exact Jq.fin ((A56, c56), (A61, c61)) (.inl rfl) rfl (RetVs.tmp rfl (RetVs.tmp rfl (RetVs.tmp rfl RetVs.nil))) rfl (by repeat (first | exact Take.nil | apply Take.cons (by repeat (first | exact Del.here | apply Del.there)))) (by repeat (first | exact trivial | refine And.intro (by repeat (first | exact Mem.here | apply Mem.there)) ?_))
structure RAS (b : List UInt8) where
  k : Nat
  zs : Zs
  A : Option Addr
  c : Nat
  at' : Nat
  hz : zs.map (·.2) = (allP b).take k
  hI : FrI b k (b.drop at')
  hu : at' = usedN b k
  hle : at' ≤ b.length
theorem rfall_ct (A : Option Addr) (c : Nat) (b : List UInt8) (hn : b.length ≤ 1000000) (hc : b.length ≤ c) :
    Ct Try.prog 14 [.slice A b.length c] [] [.rd A (u8s b)] (fun x : { zs : Zs // zs.map (·.2) = allP b } × OA => .tuple #[.slice x.2.1 (framesN b).length x.2.2, .int .i64 (allU b)])
      (fun x => [.row 22 1 (.slice x.2.1 (framesN b).length x.2.2) (framesN b).length (slv x.1.1)]) (fun x => [.rds x.1.1]) := by
  have hfl := framesN_len b
  refine Ct.of _ Try.func14 Try.ntmps14 rfl rfl (fun X W => ?_)
  refine Jc.seq ?_
  refine Jc.region ?_
  refine Jl.pv (PR.assign rfl) ?_
  refine Jl.pv (PR.assign rfl) ?_
  refine Jl.nil ?_
  refine Jq.thenN ?_
  refine Jc.seq ?_
  refine Jc.region ?_
  refine Jl.pv (PR.assign rfl) ?_
  refine Jl.nil ?_
  refine Jq.thenN ?_
  refine Jc.seq ?_
  refine Jc.region ?_
  refine Jl.pv (PR.assign rfl) ?_
  refine Jl.nil ?_
  refine Jq.thenN ?_
  refine Jc.block ?_
  refine Jc.nilRow 22 1 ?_
  refine Jc.fact0 (.rds []) (fun X W => by intro z hz; simp at hz) ?_
  refine Jc.loop (σ := RAS b) (fun s => [(0, .slice A b.length c), (4, .slice s.A s.k s.c), (5, .int .i64 (s.at' : Int))]) (fun s => [.row 22 1 (.slice s.A s.k s.c) s.k (slv s.zs)]) (fun s => [.rd A (u8s b), .rds s.zs]) (fun s => b.length - s.at') ⟨0, [], none, 0, 0, rfl, FrI.zero b, rfl, Nat.zero_le _⟩ (by exact ⟨rfl, rfl, rfl, trivial⟩) (by simp [slv]) (by exact ⟨(by repeat (first | exact Mem.here | apply Mem.there)), (by repeat (first | exact Mem.here | apply Mem.there)), trivial⟩) ?_
  rintro ⟨k, zs, A', c', u, hz, hI, hu, hle⟩
  have hkl := hI.kle
  have hzl : zs.length = k := AS.len ⟨k, zs, A', c', hz⟩ hkl
  obtain ⟨p, r', e, ht⟩ : ∃ p r' e, takeF (b.drop u) = (p, r', e) := ⟨_, _, _, rfl⟩
  have hct : ∀ A12 c12, b.length - u ≤ c12 → Ct Try.prog 12 [.slice A12 (b.length - u) c12] [] [.rd A12 (u8s (b.drop u))] (fun x : OA × OA => .tuple #[.slice x.1.1 p.length x.1.2, .slice x.2.1 r'.length x.2.2, .int .i64 e]) (rows2 p r') (fun _ => []) := fun A12 c12 hc12 => by
    have := rftake_ct A12 c12 (b.drop u) (by simp; omega) (by simpa using hc12)
    rw [ht, List.length_drop] at this
    exact this
  have hcase : (e ≠ 0 ∧ cutF (b.drop u) = none) ∨ (e = 0 ∧ cutF (b.drop u) = some (p, r')) := by
    unfold takeF at ht
    split at ht
    · rename_i p1 r1 h1; simp only [Prod.mk.injEq] at ht; obtain ⟨rfl, rfl, rfl⟩ := ht; exact .inr ⟨rfl, h1⟩
    · rename_i h1; simp only [Prod.mk.injEq] at ht; obtain ⟨rfl, rfl, rfl⟩ := ht; exact .inl ⟨by decide, h1⟩
  clear ht
  show Jc _ _ _ _ _ _ [(0, Value.slice A b.length c), (4, .slice A' k c'), (5, .int .i64 (u : Int))] [.row 22 1 (.slice A' k c') k (slv zs)] [.rd A (u8s b), .rds zs]
  refine Jc.block ?_
  refine Jc.seq ?_
  refine Jc.region ?_
  refine Jl.pv (PR.move rfl) ?_
  refine Jl.pv (PR.move rfl) ?_
  refine Jl.slice u b.length (b.length - u) (u8s (b.drop u)) rfl tsl22 rfl rfl (by repeat (first | exact Mem.here | apply Mem.there)) hle (Nat.le_refl _) hc rfl (sl_end b u) ?_
  intro A12 c12 hc12
  skip
  refine Jl.call (hct A12 c12 (by omega)) en12 (by rfl) (by repeat (first | exact Take.nil | apply Take.cons (by repeat (first | exact Del.here | apply Del.there)))) (by repeat (first | exact trivial | refine And.intro (by repeat (first | exact Mem.here | apply Mem.there)) ?_)) ?_
  rintro ⟨⟨A13, c13⟩, ⟨B13, d13⟩⟩
  refine Jl.sealR (by repeat (first | exact Del.here | apply Del.there)) ?_
  refine Jl.sealR (by repeat (first | exact Del.here | apply Del.there)) ?_
  refine Jl.pv (PR.move rfl) ?_
  refine Jl.pv (PR.extract rfl (by rfl)) ?_
  refine Jl.pv (PR.extract rfl (by rfl)) ?_
  refine Jl.pv (PR.extract rfl (by rfl)) ?_
  refine Jl.pv (PR.assign rfl) ?_
  refine Jl.pv (PR.assign rfl) ?_
  refine Jl.pv (PR.assign rfl) ?_
  refine Jl.nil ?_
  refine Jq.thenN ?_
  refine Jc.seq ?_
  refine Jc.seq ?_
  refine Jc.region ?_
  refine Jl.pv (PR.move rfl) ?_
  refine Jl.pv (PR.neq _ rfl rfl rfl) ?_
  refine Jl.nil ?_
  refine Jq.thenN ?_
  refine Jc.cond rfl (fun h0 => ?_) (fun h0 => ?_)
  · try replace h0 := of_decide_eq_true h0
    refine Jc.seq ?_
    refine Jc.region ?_
    refine Jl.pv (PR.move rfl) ?_
    refine Jl.pv (PR.move rfl) ?_
    refine Jl.pv (PR.assign rfl) ?_
    refine Jl.pv (PR.assign rfl) ?_
    refine Jl.nil ?_
    refine Jq.thenN ?_
    refine Jc.ret ?_
    refine Jq.thenR ?_
    refine Jq.blkR ?_
    refine Jq.thenR ?_
    refine Jq.blkR ?_
    have hcn : cutF (b.drop u) = none := hcase.elim (fun h => h.2) (fun h => absurd h.1 h0)
    obtain rfl := hI.stop hcn
    have hz' : zs.map (·.2) = allP b := by rw [hz, List.take_of_length_le (by simp [allP])]
    exact Jq.fin (⟨zs, hz'⟩, (A', c')) (.inl rfl) rfl (RetVs.tmp rfl (RetVs.tmp rfl RetVs.nil)) (by rw [hu]; rfl) (by repeat (first | exact Take.nil | apply Take.cons (by repeat (first | exact Del.here | apply Del.there)))) (by repeat (first | exact trivial | refine And.intro (by repeat (first | exact Mem.here | apply Mem.there)) ?_))
  · try replace h0 := of_decide_eq_false h0
    have hcs : cutF (b.drop u) = some (p, r') := hcase.elim (fun h => absurd (by omega) h.1) (fun h => h.2)
    obtain ⟨hkN, hfk, hI'⟩ := hI.next hcs
    have hfa : frameAt b k = (p, r') := frameAt_eq hfk
    obtain ⟨ho, hp4⟩ := cutF_only hcs
    have hlt := (cutF_len hcs).1
    rw [List.length_drop] at hlt
    have hrd : b.drop (b.length - r'.length) = r' := by
      have h1 : b = b.take u ++ (frameB p ++ r') := by rw [← ho, List.take_append_drop]
      have h2 : b.length - r'.length = (b.take u ++ frameB p).length := by have := congrArg List.length h1; simp only [List.length_append] at this ⊢; omega
      rw [h2]
      have h3 : (b.take u ++ frameB p) ++ r' = b := by rw [List.append_assoc]; exact h1.symm
      calc b.drop (b.take u ++ frameB p).length = ((b.take u ++ frameB p) ++ r').drop (b.take u ++ frameB p).length := by rw [h3]
        _ = r' := List.drop_left
    refine Jc.skip ?_
    refine Jq.thenN ?_
    refine Jc.seq ?_
    refine Jc.region ?_
    refine Jl.pv (PR.move rfl) ?_
    refine Jl.fact2 (.rds (zs ++ [((A13, c13), p)])) (φ := .rds zs) (ψ := .rd A13 (u8s p)) (by repeat (first | exact Mem.here | apply Mem.there)) (by repeat (first | exact Mem.here | apply Mem.there)) (fun X W h1 h2 => rds_snoc h1 h2) ?_
    refine Jl.pv (PR.move rfl) ?_
    refine Jl.buildSlice (by rfl) tsl29 tzr29_1 (by rfl) (by rfl) ?_
    intro b23
    refine Jl.seal (by repeat (first | exact Del.here | apply Del.there)) ?_
    refine Jl.append (k + 1) (slv (zs ++ [((A13, c13), p)])) rfl rfl rfl tsl29 tze22 (by rfl) (by decide) tby22 (fun _ _ => (by repeat (first | exact Swap.here | apply Swap.there))) (by repeat (first | exact Mem.here | apply Mem.there)) rfl (by simp [slv]) (by rfl) (by simp [Value.oneCell']) (by omega) (by decide) ?_
    intro A24 c24
    refine Jl.pv (PR.assign rfl) ?_
    refine Jl.nil ?_
    refine Jq.thenN ?_
    refine Jc.region ?_
    refine Jl.pv (PR.move rfl) ?_
    refine Jl.pv (PR.len rfl tsl22) ?_
    refine Jl.pv (PR.move rfl) ?_
    refine Jl.pv (PR.len rfl tsl22) ?_
    refine Jl.pv (PR.sub ((b.length - r'.length : Nat) : Int) rfl rfl (by rw [w64 (by omega) (by omega)]; omega)) ?_
    refine Jl.pv (PR.assign rfl) ?_
    refine Jl.nil ?_
    refine Jq.blkN ?_
    refine Jq.again ⟨k + 1, zs ++ [((A13, c13), p)], A24, c24, b.length - r'.length, by rw [allP_take hfa hkN, List.map_append, hz]; rfl, by rw [hrd]; exact hI', by rw [usedN_succ, hfa], by omega⟩ (by simp only; omega) (by exact ⟨rfl, rfl, rfl, trivial⟩) rfl (by exact ⟨(by repeat (first | exact Mem.here | apply Mem.there)), (by repeat (first | exact Mem.here | apply Mem.there)), trivial⟩)
theorem make8 {m : Nat} (hm : m ≤ 4000) (W : World) : (Instr.makeSlice 22 (.int .i64 (m : Int)) (.int .i64 (m : Int))).run Try.prog W = .ok (.slice (some ⟨W.heap.size, 0, none⟩) m m) (W.alloc (.cells (u8s (List.replicate m 0)).toArray 5)) := by
  obtain ⟨d, i, hu, hi, hs, _⟩ := tshape_spec tsh5
  obtain ⟨hus, _⟩ := tslice_spec tsl22
  have hz0 := tze5
  unfold tzero at hz0
  rw [hi] at hz0
  have hb := tby5
  unfold Program.bytesOf at hb
  rw [hi] at hb
  cases hz : i.zero with
  | none => simp [hz] at hz0
  | some z =>
    simp [hz] at hz0
    have hzc : z.cells = #[.int .u8 0] := by rw [← hz0]
    have h := run_make (P := Try.prog) W 22 5 i z hus hi hz .i64 .i64 m m (by omega) (Int.le_refl _) (by simp at hb; rw [hb]; omega) (by omega)
    rw [hs, hzc] at h
    simp only [Int.toNat_natCast, Nat.mul_one] at h
    rw [h]
    congr 3
    apply Array.toList_inj.1
    simp [madeCells, u8s, Nat.mod_one]
    exact List.eq_replicate_iff.2 ⟨by simp, by simp⟩
theorem rflong_ct (n : Int) : Ct Try.prog 20 [.int .i64 n] [] [] (fun _ : Unit => .int .i64 (longF n)) (fun _ => []) (fun _ => []) := by
  by_cases h1 : n < 0
  · rw [show longF n = -1 from if_pos (.inl h1)]
    refine Ct.of _ Try.func20 Try.ntmps20 rfl rfl (fun X W => ?_)
    refine Jc.seq ?_
    refine Jc.region ?_
    refine Jl.pv (PR.assign rfl) ?_
    refine Jl.nil ?_
    refine Jq.thenN ?_
    refine Jc.seq ?_
    refine Jc.seq ?_
    refine Jc.region ?_
    refine Jl.pv (PR.move rfl) ?_
    refine Jl.pv (PR.lss true rfl rfl (by simp; omega)) ?_
    refine Jl.pv (PR.move rfl) ?_
    refine Jl.off rfl rfl rfl rfl ?_
    refine Jl.off rfl rfl rfl rfl ?_
    refine Jl.pv (PR.pickT rfl rfl) ?_
    refine Jl.nil ?_
    refine Jq.thenN ?_
    refine Jc.condT rfl ?_
    refine Jc.seq ?_
    refine Jc.region ?_
    refine Jl.pv (PR.assign rfl) ?_
    refine Jl.nil ?_
    refine Jq.thenN ?_
    refine Jc.ret ?_
    refine Jq.thenR ?_
    exact Jq.fin () (.inl rfl) rfl (RetVs.tmp rfl RetVs.nil) rfl (by repeat (first | exact Take.nil | apply Take.cons (by repeat (first | exact Del.here | apply Del.there)))) (by repeat (first | exact trivial | refine And.intro (by repeat (first | exact Mem.here | apply Mem.there)) ?_))
  · by_cases h2 : 4000 < n
    · rw [show longF n = -1 from if_pos (.inr h2)]
      refine Ct.of _ Try.func20 Try.ntmps20 rfl rfl (fun X W => ?_)
      refine Jc.seq ?_
      refine Jc.region ?_
      refine Jl.pv (PR.assign rfl) ?_
      refine Jl.nil ?_
      refine Jq.thenN ?_
      refine Jc.seq ?_
      refine Jc.seq ?_
      refine Jc.region ?_
      refine Jl.pv (PR.move rfl) ?_
      refine Jl.pv (PR.lss false rfl rfl (by simp; omega)) ?_
      refine Jl.pv (PR.move rfl) ?_
      refine Jl.on rfl rfl ?_
      refine Jl.pv (PR.move rfl) ?_
      refine Jl.on rfl rfl ?_
      refine Jl.pv (PR.gtr true rfl rfl (by simp; omega)) ?_
      refine Jl.pv (PR.pickF rfl rfl) ?_
      refine Jl.nil ?_
      refine Jq.thenN ?_
      refine Jc.condT rfl ?_
      refine Jc.seq ?_
      refine Jc.region ?_
      refine Jl.pv (PR.assign rfl) ?_
      refine Jl.nil ?_
      refine Jq.thenN ?_
      refine Jc.ret ?_
      refine Jq.thenR ?_
      exact Jq.fin () (.inl rfl) rfl (RetVs.tmp rfl RetVs.nil) rfl (by repeat (first | exact Take.nil | apply Take.cons (by repeat (first | exact Del.here | apply Del.there)))) (by repeat (first | exact trivial | refine And.intro (by repeat (first | exact Mem.here | apply Mem.there)) ?_))
    · obtain ⟨m, rfl⟩ : ∃ m : Nat, n = m := ⟨n.toNat, by omega⟩
      have hfl : longF (m : Int) = (frameB (List.replicate m (0 : UInt8))).length := by
        rw [show longF (m : Int) = (putB m).length + m + 4 from if_neg (by omega)]
        simp [frameB, sumB]; omega
      rw [hfl]
      refine Ct.of _ Try.func20 Try.ntmps20 rfl rfl (fun X W => ?_)
      refine Jc.seq ?_
      refine Jc.region ?_
      refine Jl.pv (PR.assign rfl) ?_
      refine Jl.nil ?_
      refine Jq.thenN ?_
      refine Jc.seq ?_
      refine Jc.seq ?_
      refine Jc.region ?_
      refine Jl.pv (PR.move rfl) ?_
      refine Jl.pv (PR.lss false rfl rfl (by simp)) ?_
      refine Jl.pv (PR.move rfl) ?_
      refine Jl.on rfl rfl ?_
      refine Jl.pv (PR.move rfl) ?_
      refine Jl.on rfl rfl ?_
      refine Jl.pv (PR.gtr false rfl rfl (by simp; omega)) ?_
      refine Jl.pv (PR.pickF rfl rfl) ?_
      refine Jl.nil ?_
      refine Jq.thenN ?_
      refine Jc.condF rfl ?_
      refine Jc.skip ?_
      refine Jq.thenN ?_
      refine Jc.seq ?_
      refine Jc.region ?_
      refine Jl.pv (PR.move rfl) ?_
      refine Jl.makeSlice (fun W => make8 (by omega) W) rfl rfl ?_
      intro b13
      refine Jl.seal (by repeat (first | exact Del.here | apply Del.there)) ?_
      refine Jl.call (rfput_at (n := m) (p := List.replicate m 0) (by simp) (by omega)) en10 (by rfl) (by repeat (first | exact Take.nil | apply Take.cons (by repeat (first | exact Del.here | apply Del.there)))) (by repeat (first | exact trivial | refine And.intro (by repeat (first | exact Mem.here | apply Mem.there)) ?_)) ?_
      rintro ⟨A14, c14⟩
      refine Jl.pv (PR.move rfl) ?_
      refine Jl.pv (PR.extract rfl (by rfl)) ?_
      refine Jl.pv (PR.extract rfl (by rfl)) ?_
      refine Jl.pv (PR.assign rfl) ?_
      refine Jl.pv (PR.assign rfl) ?_
      refine Jl.nil ?_
      refine Jq.thenN ?_
      refine Jc.seq ?_
      refine Jc.region ?_
      refine Jl.pv (PR.move rfl) ?_
      refine Jl.pv (PR.len rfl tsl22) ?_
      refine Jl.pv (PR.assign rfl) ?_
      refine Jl.nil ?_
      refine Jq.thenN ?_
      refine Jc.ret ?_
      exact Jq.fin () (.inl rfl) rfl (RetVs.tmp rfl RetVs.nil) rfl (by repeat (first | exact Take.nil | apply Take.cons (by repeat (first | exact Del.here | apply Del.there)))) (by repeat (first | exact trivial | refine And.intro (by repeat (first | exact Mem.here | apply Mem.there)) ?_))
end Go.Proofs.Ytnkekjhijkfckaa
