/-
Contract of slices.Equal at rows of numbers.
-/
import Derived.Test.YtljgaglbgkejhaaDoorTy
import Derived.Test.YtljgaglbgkejhaaDoorSlP
namespace Go.Proofs.YtljgaglbgkejhaaDoor
set_option linter.unusedVariables false
open Go.RowKit
attribute [local irreducible] Res.blk Res.row Fact.rd
theorem iequal_ct (A B : Option Addr) (c d : Nat) (l l' : List Int) (hn : l.length ≤ 1000000) : Ct Tryd.prog 32 [.slice A l.length c, .slice B l'.length d] [] [.rd A (i64s l), .rd B (i64s l')] (fun _ : Unit => .bool (decide (l = l'))) (fun _ => []) (fun _ => []) := by
  refine Ct.of _ Tryd.func32 Tryd.ntmps32 rfl rfl (fun X W => ?_)
  refine Jc.seq ?_
  refine Jc.region ?_
  refine Jl.pv (PR.assign rfl) ?_
  refine Jl.nil ?_
  refine Jq.thenN ?_
  refine Jc.seq ?_
  refine Jc.seq ?_
  refine Jc.region ?_
  refine Jl.pv (PR.move rfl) ?_
  refine Jl.pv (PR.len rfl tsl22) ?_
  refine Jl.pv (PR.move rfl) ?_
  refine Jl.pv (PR.len rfl tsl22) ?_
  refine Jl.pv (PR.neq _ rfl rfl rfl) ?_
  refine Jl.nil ?_
  refine Jq.thenN ?_
  refine Jc.cond rfl (fun h0 => ?_) (fun h0 => ?_)
  · try replace h0 := of_decide_eq_true h0
    refine Jc.seq ?_
    refine Jc.region ?_
    refine Jl.pv (PR.assign rfl) ?_
    refine Jl.nil ?_
    refine Jq.thenN ?_
    refine Jc.ret ?_
    refine Jq.thenR ?_
    have hne : l ≠ l' := fun h => h0 (by rw [h])
    exact Jq.fin () (.inl rfl) rfl (RetVs.tmp rfl RetVs.nil) (by rw [decide_eq_false hne]; rfl) (by repeat (first | exact Take.nil | apply Take.cons (by repeat (first | exact Del.here | apply Del.there)))) (by repeat (first | exact trivial | refine And.intro (by repeat (first | exact Mem.here | apply Mem.there)) ?_))
  · try replace h0 := of_decide_eq_false h0
    have hll : l.length = l'.length := by omega
    refine Jc.skip ?_
    refine Jq.thenN ?_
    refine Jc.seq ?_
    refine Jc.seq ?_
    refine Jc.region ?_
    refine Jl.pv (PR.move rfl) ?_
    refine Jl.pv (PR.len rfl tsl22) ?_
    refine Jl.pv (PR.move rfl) ?_
    refine Jl.nil ?_
    refine Jq.thenN ?_
    refine Jc.block ?_
    refine Jc.loop (σ := { k : Nat // k ≤ l.length ∧ ∀ j, j < k → l[j]? = l'[j]? }) (fun s => [(13, .int .i64 (s.1 : Int)), (12, .int .i64 (l.length : Int)), (0, .slice A l.length c), (1, .slice B l'.length d)]) (fun _ => []) (fun _ => [.rd A (i64s l), .rd B (i64s l')]) (fun s => l.length - s.1) ⟨0, Nat.zero_le _, fun _ h => by omega⟩ (by repeat (first | exact trivial | refine And.intro rfl ?_)) rfl (by repeat (first | exact trivial | refine And.intro (by repeat (first | exact Mem.here | apply Mem.there)) ?_)) ?_
    rintro ⟨k, hk, hq⟩
    show Jc _ _ _ _ _ _ [(13, Value.int .i64 (k : Int)), (12, .int .i64 (l.length : Int)), (0, .slice A l.length c), (1, .slice B l'.length d)] [] [.rd A (i64s l), .rd B (i64s l')]
    refine Jc.seq ?_
    refine Jc.region ?_
    refine Jl.pv (PR.lss _ rfl rfl rfl) ?_
    refine Jl.nil ?_
    refine Jq.thenN ?_
    refine Jc.seq ?_
    refine Jc.cond rfl (fun hlt => ?_) (fun hlt => ?_)
    · try replace hlt := of_decide_eq_true hlt
      have hlt' : k < l.length := by omega
      have hlt2 : k < l'.length := by omega
      refine Jc.skip ?_
      refine Jq.thenN ?_
      refine Jc.seq ?_
      refine Jc.block ?_
      refine Jc.seq ?_
      refine Jc.region ?_
      refine Jl.pv (PR.move rfl) ?_
      refine Jl.pv (PR.assign rfl) ?_
      refine Jl.nil ?_
      refine Jq.thenN ?_
      refine Jc.seq ?_
      refine Jc.drawn [0, 0, 3, 7, 0, 0, 48, 112, 255] ([(0, false), (1, false), (2, false), (3, false), (4, false), (5, false), (6, false), (7, false), (8, false)], []) [] tmx (by kernel_rfl) ?_
      refine Dh.JH.nil ?_
      refine Dh.JB.pv rfl trivial (fun _ => PR.move rfl) ?_
      refine Dh.JB.pv rfl trivial (fun _ => PR.move rfl) ?_
      refine Dh.JB.pv rfl trivial (fun _ => PR.idx1 k rfl rfl tsl22 (by repeat (first | exact Mem.here | apply Mem.there)) (by simp) rfl hlt') ?_
      refine Dh.JB.pv rfl trivial (fun _ => PR.loadR rfl tsh3 (by repeat (first | exact Mem.here | apply Mem.there)) (getm hlt')) ?_
      refine Dh.JB.pv rfl trivial (fun _ => PR.move rfl) ?_
      refine Dh.JB.pv rfl trivial (fun _ => PR.move rfl) ?_
      refine Dh.JB.pv rfl trivial (fun _ => PR.idx1 k rfl rfl tsl22 (by repeat (first | exact Mem.here | apply Mem.there)) (by simp) rfl hlt2) ?_
      refine Dh.JB.pv rfl trivial (fun _ => PR.loadR rfl tsh3 (by repeat (first | exact Mem.here | apply Mem.there)) (getm hlt2)) ?_
      refine Dh.JB.pv rfl trivial (fun _ => PR.neq _ rfl rfl rfl) ?_
      refine Dh.JB.nil ?_
      refine Dh.JL.nil ?_
      refine Jq.thenN ?_
      refine Jc.cond rfl (fun h2 => ?_) (fun h2 => ?_)
      · try replace h2 := of_decide_eq_true h2
        refine Jc.seq ?_
        refine Jc.region ?_
        refine Jl.pv (PR.assign rfl) ?_
        refine Jl.nil ?_
        refine Jq.thenN ?_
        refine Jc.ret ?_
        refine Jq.blkR ?_
        refine Jq.thenR ?_
        refine Jq.thenR ?_
        refine Jq.blkR ?_
        refine Jq.thenR ?_
        have hne : l ≠ l' := fun h => h2 (by subst h; rfl)
        exact Jq.fin () (.inl rfl) rfl (RetVs.tmp rfl RetVs.nil) (by rw [decide_eq_false hne]; rfl) (by repeat (first | exact Take.nil | apply Take.cons (by repeat (first | exact Del.here | apply Del.there)))) (by repeat (first | exact trivial | refine And.intro (by repeat (first | exact Mem.here | apply Mem.there)) ?_))
      · try replace h2 := of_decide_eq_false h2
        refine Jc.skip ?_
        refine Jq.blkN ?_
        refine Jq.thenN ?_
        refine Jc.region ?_
        refine Jl.pv (PR.add ((k + 1 : Nat) : Int) rfl rfl (by rw [w64 (by omega) (by omega)]; rfl)) ?_
        refine Jl.pv (PR.move rfl) ?_
        refine Jl.nil ?_
        refine Jq.again ⟨k + 1, hlt', fun j h => ?_⟩ (by simp only; omega) (by repeat (first | exact trivial | refine And.intro rfl ?_)) rfl (by repeat (first | exact trivial | refine And.intro (by repeat (first | exact Mem.here | apply Mem.there)) ?_))
        rcases Nat.lt_or_ge j k with h1 | h1
        · exact hq j h1
        · obtain rfl : j = k := by omega
          rw [List.getElem?_eq_getElem hlt', List.getElem?_eq_getElem hlt2, Decidable.of_not_not h2]
    · try replace hlt := of_decide_eq_false hlt
      refine Jc.exit ?_
      refine Jq.thenX ?_
      refine Jq.thenX ?_
      refine Jq.blkX ?_
      refine Jq.thenN ?_
      refine Jc.seq ?_
      refine Jc.region ?_
      refine Jl.pv (PR.assign rfl) ?_
      refine Jl.nil ?_
      refine Jq.thenN ?_
      refine Jc.ret ?_
      have heq : l = l' := List.ext_getElem? fun j => by
        rcases Nat.lt_or_ge j k with h1 | h1
        · exact hq j h1
        · rw [List.getElem?_eq_none (by omega), List.getElem?_eq_none (by omega)]
      exact Jq.fin () (.inl rfl) rfl (RetVs.tmp rfl RetVs.nil) (by rw [decide_eq_true heq]; rfl) (by repeat (first | exact Take.nil | apply Take.cons (by repeat (first | exact Del.here | apply Del.there)))) (by repeat (first | exact trivial | refine And.intro (by repeat (first | exact Mem.here | apply Mem.there)) ?_))
end Go.Proofs.YtljgaglbgkejhaaDoor
