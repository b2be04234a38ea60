/-
Contracts of pages: one behind the other; what the document says.
-/
import Derived.Test.YtoackajhekdckaaPgB
namespace Go.Proofs.Ytoackajhekdckaa
set_option linter.unusedVariables false
open Go.RowKit
attribute [local irreducible] Res.blk Res.row Fact.rd Res.mapI
theorem sgrow_ct (m : Nat) (hm : m ≤ 1000000) : Ct Try.prog 23 [.slice none 0 0, .int .i64 (m : Int)] [] [] (fun x : AdC => .slice x.1 0 x.2) (fun x => [.row 35 7 (.slice x.1 0 x.2) 0 []]) (fun _ => []) := by
  by_cases h0 : m = 0
  · subst h0
    refine Ct.of _ Try.func23 Try.ntmps23 rfl rfl (fun X W => ?_)
    refine Jc.seq ?_
    refine Jc.region ?_
    refine Jl.pv (PR.assign rfl) ?_
    refine Jl.nil ?_
    refine Jq.thenN ?_
    refine Jc.seq ?_
    refine Jc.seq ?_
    refine Jc.region ?_
    refine Jl.pv (PR.move rfl) ?_
    refine Jl.pv (PR.lss false rfl rfl rfl) ?_
    refine Jl.nil ?_
    refine Jq.thenN ?_
    refine Jc.condF rfl ?_
    refine Jc.skip ?_
    refine Jq.thenN ?_
    refine Jc.seq ?_
    refine Jc.seq ?_
    refine Jc.region ?_
    refine Jl.pv (PR.move rfl) ?_
    refine Jl.pv (PR.move rfl) ?_
    refine Jl.pv (PR.cap rfl tsl28) ?_
    refine Jl.pv (PR.move rfl) ?_
    refine Jl.pv (PR.len rfl tsl28) ?_
    refine Jl.pv (PR.sub 0 rfl rfl rfl) ?_
    refine Jl.pv (PR.sub 0 rfl rfl rfl) ?_
    refine Jl.pv (PR.assign rfl) ?_
    refine Jl.nil ?_
    refine Jq.thenN ?_
    refine Jc.seq ?_
    refine Jc.region ?_
    refine Jl.pv (PR.move rfl) ?_
    refine Jl.pv (PR.gtr false rfl rfl rfl) ?_
    refine Jl.nil ?_
    refine Jq.thenN ?_
    refine Jc.condF rfl ?_
    refine Jc.skip ?_
    refine Jq.thenN ?_
    refine Jc.seq ?_
    refine Jc.region ?_
    refine Jl.pv (PR.move rfl) ?_
    refine Jl.pv (PR.assign rfl) ?_
    refine Jl.nil ?_
    refine Jq.thenN ?_
    refine Jc.ret ?_
    refine Jq.nilRow 35 7 ?_
    exact Jq.fin (none, 0) (.inl rfl) rfl (RetVs.tmp rfl RetVs.nil) rfl (by repeat (first | exact Take.nil | apply Take.cons (by repeat (first | exact Del.here | apply Del.there)))) (by repeat (first | exact trivial | refine And.intro (by repeat (first | exact Mem.here | apply Mem.there)) ?_))
  · skip
    refine Ct.of _ Try.func23 Try.ntmps23 rfl rfl (fun X W => ?_)
    refine Jc.seq ?_
    refine Jc.region ?_
    refine Jl.pv (PR.assign rfl) ?_
    refine Jl.nil ?_
    refine Jq.thenN ?_
    refine Jc.seq ?_
    refine Jc.seq ?_
    refine Jc.region ?_
    refine Jl.pv (PR.move rfl) ?_
    refine Jl.pv (PR.lss false rfl rfl (by simp)) ?_
    refine Jl.nil ?_
    refine Jq.thenN ?_
    refine Jc.condF rfl ?_
    refine Jc.skip ?_
    refine Jq.thenN ?_
    refine Jc.seq ?_
    refine Jc.seq ?_
    refine Jc.region ?_
    refine Jl.pv (PR.move rfl) ?_
    refine Jl.pv (PR.move rfl) ?_
    refine Jl.pv (PR.cap rfl tsl28) ?_
    refine Jl.pv (PR.move rfl) ?_
    refine Jl.pv (PR.len rfl tsl28) ?_
    refine Jl.pv (PR.sub 0 rfl rfl rfl) ?_
    refine Jl.pv (PR.sub (m : Int) rfl rfl (by rw [w64 (by omega) (by omega)]; omega)) ?_
    refine Jl.pv (PR.assign rfl) ?_
    refine Jl.nil ?_
    refine Jq.thenN ?_
    refine Jc.seq ?_
    refine Jc.region ?_
    refine Jl.pv (PR.move rfl) ?_
    refine Jl.pv (PR.gtr true rfl rfl (by simp; omega)) ?_
    refine Jl.nil ?_
    refine Jq.thenN ?_
    refine Jc.condT rfl ?_
    refine Jc.region ?_
    refine Jl.pv (PR.move rfl) ?_
    refine Jl.pv (PR.move rfl) ?_
    refine Jl.pv (PR.cap rfl tsl28) ?_
    refine Jl.pv (PR.slice0 0 rfl tsl28 rfl (Nat.le_refl _) (Nat.le_refl _)) ?_
    refine Jl.pv (PR.move rfl) ?_
    refine Jl.growNil  rfl rfl tsl28 Try.underlying3 tze35 (by rfl) (by decide) tby35 (by omega) (by omega) (by decide) ?_
    intro A22 c22 hc22
    refine Jl.pv (PR.move rfl) ?_
    refine Jl.pv (PR.len rfl tsl28) ?_
    refine Jl.pv (PR.slice0 0 rfl tsl28 rfl (Nat.zero_le _) hc22) ?_
    refine Jl.pv (PR.assign rfl) ?_
    refine Jl.nil ?_
    refine Jq.thenN ?_
    refine Jc.seq ?_
    refine Jc.region ?_
    refine Jl.pv (PR.move rfl) ?_
    refine Jl.pv (PR.assign rfl) ?_
    refine Jl.nil ?_
    refine Jq.thenN ?_
    refine Jc.ret ?_
    exact Jq.fin (A22, c22) (.inl rfl) rfl (RetVs.tmp rfl RetVs.nil) rfl (by repeat (first | exact Take.nil | apply Take.cons (by repeat (first | exact Del.here | apply Del.there)))) (by repeat (first | exact trivial | refine And.intro (by repeat (first | exact Mem.here | apply Mem.there)) ?_))
theorem sconcat_ct (L : Option Addr) (cL : Nat) (zs : List Slc) (hn : zs.length ≤ 1000000) (hs : sumS zs ≤ 1000000) (hl : ∀ z ∈ zs, z.2.2.length = z.2.1 * 7) (hone : ∀ z ∈ zs, ∀ u ∈ z.2.2, u.oneCell' = true) :
    Ct Try.prog 20 [.slice L zs.length cL] [] [.rd L (slsV zs), .sls zs] (fun x : AdC => .slice x.1 (sumS zs) x.2) (fun x => [.row 35 7 (.slice x.1 (sumS zs) x.2) (sumS zs) (flatS zs)]) (fun _ => []) := by
  refine Ct.of _ Try.func20 Try.ntmps20 rfl rfl (fun X W => ?_)
  refine Jc.seq ?_
  refine Jc.region ?_
  refine Jl.pv (PR.assign rfl) ?_
  refine Jl.nil ?_
  refine Jq.thenN ?_
  refine Jc.seq ?_
  refine Jc.region ?_
  refine Jl.pv (PR.assign rfl) ?_
  refine Jl.nil ?_
  refine Jq.thenN ?_
  refine Jc.seq ?_
  refine Jc.seq ?_
  refine Jc.region ?_
  refine Jl.pv (PR.move rfl) ?_
  refine Jl.pv (PR.len rfl tsl27) ?_
  refine Jl.pv (PR.move rfl) ?_
  refine Jl.nil ?_
  refine Jq.thenN ?_
  refine Jc.block ?_
  refine Jc.loop (σ := { k : Nat // k ≤ zs.length }) (fun s => [(11, .int .i64 (s.1 : Int)), (3, .int .i64 (sumS (zs.take s.1) : Nat)), (10, .int .i64 (zs.length : Int)), (9, .slice L zs.length cL), (0, .slice L zs.length cL)]) (fun _ => []) (fun _ => [.rd L (slsV zs), .sls zs]) (fun s => zs.length - s.1) ⟨0, Nat.zero_le _⟩ (by repeat (first | exact trivial | refine And.intro rfl ?_)) rfl (by repeat (first | exact trivial | refine And.intro (by repeat (first | exact Mem.here | apply Mem.there)) ?_)) ?_
  rintro ⟨k, hk⟩
  show Jc _ _ _ _ _ _ [(11, Value.int .i64 (k : Int)), (3, .int .i64 (sumS (zs.take k) : Nat)), (10, .int .i64 (zs.length : Int)), (9, .slice L zs.length cL), (0, .slice L zs.length cL)] [] [.rd L (slsV zs), .sls zs]
  refine Jc.seq ?_
  refine Jc.region ?_
  refine Jl.pv (PR.lss _ rfl rfl rfl) ?_
  refine Jl.nil ?_
  refine Jq.thenN ?_
  refine Jc.seq ?_
  refine Jc.cond rfl (fun hlt => ?_) (fun hlt => ?_)
  · try replace hlt := of_decide_eq_true hlt
    have hlt' : k < zs.length := by omega
    have hst := sumS_take hlt'
    have hle := sumS_le zs (k + 1)
    refine Jc.skip ?_
    refine Jq.thenN ?_
    refine Jc.seq ?_
    refine Jc.block ?_
    refine Jc.seq ?_
    refine Jc.region ?_
    refine Jl.pv (PR.idx1 k rfl rfl tsl27 (by repeat (first | exact Mem.here | apply Mem.there)) (by simp [slsV]) rfl hlt') ?_
    refine Jl.pv (PR.loadR rfl tsh28 (by repeat (first | exact Mem.here | apply Mem.there)) (getsls hlt')) ?_
    refine Jl.pv (PR.assign rfl) ?_
    refine Jl.nil ?_
    refine Jq.thenN ?_
    refine Jc.seq ?_
    refine Jc.region ?_
    refine Jl.pv (PR.move rfl) ?_
    refine Jl.pv (PR.move rfl) ?_
    refine Jl.pv (PR.len rfl tsl28) ?_
    refine Jl.pv (PR.add ((sumS (zs.take (k + 1)) : Nat) : Int) rfl rfl (by rw [w64 (by omega) (by omega)]; omega)) ?_
    refine Jl.pv (PR.assign rfl) ?_
    refine Jl.nil ?_
    refine Jq.thenN ?_
    refine Jc.seq ?_
    refine Jc.region ?_
    refine Jl.pv (PR.move rfl) ?_
    refine Jl.pv (PR.lss false rfl rfl (by simp)) ?_
    refine Jl.nil ?_
    refine Jq.thenN ?_
    refine Jc.condF rfl ?_
    refine Jc.skip ?_
    refine Jq.blkN ?_
    refine Jq.thenN ?_
    refine Jc.region ?_
    refine Jl.pv (PR.add ((k + 1 : Nat) : Int) rfl rfl (by rw [w64 (by omega) (by omega)]; rfl)) ?_
    refine Jl.pv (PR.move rfl) ?_
    refine Jl.nil ?_
    refine Jq.again ⟨k + 1, hlt'⟩ (by simp only; omega) (by repeat (first | exact trivial | refine And.intro rfl ?_)) rfl (by repeat (first | exact trivial | refine And.intro (by repeat (first | exact Mem.here | apply Mem.there)) ?_))
  · try replace hlt := of_decide_eq_false hlt
    have hke : zs.take k = zs := List.take_of_length_le (by omega)
    rw [hke]
    refine Jc.exit ?_
    refine Jq.thenX ?_
    refine Jq.thenX ?_
    refine Jq.blkX ?_
    refine Jq.thenN ?_
    refine Jc.seq ?_
    refine Jc.region ?_
    refine Jl.pv (PR.move rfl) ?_
    refine Jl.call (sgrow_ct (sumS zs) hs) en23 (by rfl) (by repeat (first | exact Take.nil | apply Take.cons (by repeat (first | exact Del.here | apply Del.there)))) (by repeat (first | exact trivial | refine And.intro (by repeat (first | exact Mem.here | apply Mem.there)) ?_)) ?_
    rintro ⟨A24, c24⟩
    refine Jl.pv (PR.assign rfl) ?_
    refine Jl.nil ?_
    refine Jq.thenN ?_
    refine Jc.seq ?_
    refine Jc.seq ?_
    refine Jc.region ?_
    refine Jl.pv (PR.move rfl) ?_
    refine Jl.pv (PR.len rfl tsl27) ?_
    refine Jl.pv (PR.move rfl) ?_
    refine Jl.nil ?_
    refine Jq.thenN ?_
    refine Jc.block ?_
    refine Jc.loop (σ := { k : Nat // k ≤ zs.length } × AdC) (fun s => [(27, .int .i64 (s.1.1 : Int)), (6, .slice s.2.1 (sumS (zs.take s.1.1)) s.2.2), (26, .int .i64 (zs.length : Int)), (25, .slice L zs.length cL)]) (fun s => [.row 35 7 (.slice s.2.1 (sumS (zs.take s.1.1)) s.2.2) (sumS (zs.take s.1.1)) (flatS (zs.take s.1.1))]) (fun _ => [.rd L (slsV zs), .sls zs]) (fun s => zs.length - s.1.1) ⟨⟨0, Nat.zero_le _⟩, A24, c24⟩ (by repeat (first | exact trivial | refine And.intro rfl ?_)) rfl (by repeat (first | exact trivial | refine And.intro (by repeat (first | exact Mem.here | apply Mem.there)) ?_)) ?_
    rintro ⟨⟨j, hj⟩, A', c'⟩
    show Jc _ _ _ _ _ _ [(27, Value.int .i64 (j : Int)), (6, .slice A' (sumS (zs.take j)) c'), (26, .int .i64 (zs.length : Int)), (25, .slice L zs.length cL)] [.row 35 7 (.slice A' (sumS (zs.take j)) c') (sumS (zs.take j)) (flatS (zs.take j))] [.rd L (slsV zs), .sls zs]
    refine Jc.seq ?_
    refine Jc.region ?_
    refine Jl.pv (PR.lss _ rfl rfl rfl) ?_
    refine Jl.nil ?_
    refine Jq.thenN ?_
    refine Jc.seq ?_
    refine Jc.cond rfl (fun hlt2 => ?_) (fun hlt2 => ?_)
    · try replace hlt2 := of_decide_eq_true hlt2
      have hlt' : j < zs.length := by omega
      have hst := sumS_take hlt'
      have hle := sumS_le zs (j + 1)
      refine Jc.slAt j hlt' (by repeat (first | exact Mem.here | apply Mem.there)) ?_
      refine Jc.skip ?_
      refine Jq.thenN ?_
      refine Jc.seq ?_
      refine Jc.block ?_
      refine Jc.seq ?_
      refine Jc.region ?_
      refine Jl.pv (PR.idx1 j rfl rfl tsl27 (by repeat (first | exact Mem.here | apply Mem.there)) (by simp [slsV]) rfl hlt') ?_
      refine Jl.pv (PR.loadR rfl tsh28 (by repeat (first | exact Mem.here | apply Mem.there)) (getsls hlt')) ?_
      refine Jl.pv (PR.assign rfl) ?_
      refine Jl.nil ?_
      refine Jq.thenN ?_
      refine Jc.region ?_
      refine Jl.pv (PR.move rfl) ?_
      refine Jl.pv (PR.move rfl) ?_
      refine Jl.append (sumS (zs.take (j + 1))) (flatS (zs.take (j + 1))) rfl rfl rfl tsl28 tze35 (by rfl) (by decide) tby35 (fun _ _ => (by repeat (first | exact Swap.here | apply Swap.there))) (by repeat (first | exact Mem.here | apply Mem.there)) (by omega) (by rw [flatS_take hlt']) (hl _ (List.getElem_mem _)) (hone _ (List.getElem_mem _)) (by omega) (by decide) ?_
      intro A33 c33
      refine Jl.pv (PR.assign rfl) ?_
      refine Jl.nil ?_
      refine Jq.blkN ?_
      refine Jq.thenN ?_
      refine Jc.region ?_
      refine Jl.pv (PR.add ((j + 1 : Nat) : Int) rfl rfl (by rw [w64 (by omega) (by omega)]; rfl)) ?_
      refine Jl.pv (PR.move rfl) ?_
      refine Jl.nil ?_
      refine Jq.again ⟨⟨j + 1, hlt'⟩, A33, c33⟩ (by simp only; omega) (by repeat (first | exact trivial | refine And.intro rfl ?_)) rfl (by repeat (first | exact trivial | refine And.intro (by repeat (first | exact Mem.here | apply Mem.there)) ?_))
    · try replace hlt2 := of_decide_eq_false hlt2
      have hke2 : zs.take j = zs := List.take_of_length_le (by omega)
      rw [hke2]
      refine Jc.exit ?_
      refine Jq.thenX ?_
      refine Jq.thenX ?_
      refine Jq.blkX ?_
      refine Jq.thenN ?_
      refine Jc.seq ?_
      refine Jc.region ?_
      refine Jl.pv (PR.move rfl) ?_
      refine Jl.pv (PR.assign rfl) ?_
      refine Jl.nil ?_
      refine Jq.thenN ?_
      refine Jc.ret ?_
      exact Jq.fin (A', c') (.inl rfl) rfl (RetVs.tmp rfl RetVs.nil) rfl (by repeat (first | exact Take.nil | apply Take.cons (by repeat (first | exact Del.here | apply Del.there)))) (by repeat (first | exact trivial | refine And.intro (by repeat (first | exact Mem.here | apply Mem.there)) ?_))
end Go.Proofs.Ytoackajhekdckaa
