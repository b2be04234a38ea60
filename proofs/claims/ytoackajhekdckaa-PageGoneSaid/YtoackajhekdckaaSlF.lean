/-
Contracts of slices.IndexFunc and slices.ContainsFunc at rows of numbers.
-/
import Derived.Test.YtoackajhekdckaaTy
import Derived.Test.YtoackajhekdckaaJg
namespace Go.Proofs.Ytoackajhekdckaa
set_option linter.unusedVariables false
open Go.RowKit
attribute [local irreducible] Res.blk Res.row Fact.rd
/-- What a function that is asked of each number answers. -/
theorem sindex_ct (q : Int → Bool) (A : Option Addr) (c : Nat) (l : List Int) (hn : l.length ≤ 1000000) (g : FuncId) (hg : ∀ n, Ct Try.prog g [.int .i64 n] [] [] (fun _ : Unit => .bool (q n)) (fun _ => []) (fun _ => [])) (hen : ∀ args w, (callFunc g args).run Try.prog w = .ok (.enter g args) w) :
    Ct Try.prog 27 [.slice A l.length c, .func (.func g) #[] #[]] [] [.rd A (l.map (Value.int .i64))] (fun _ : Unit => .int .i64 (if l.any q then (l.findIdx q : Int) else -1)) (fun _ => []) (fun _ => []) := by
  refine Ct.of _ Try.func27 Try.ntmps27 rfl rfl (fun X W => ?_)
  refine Jc.seq ?_
  refine Jc.region ?_
  refine Jl.pv (PR.assign rfl) ?_
  refine Jl.nil ?_
  refine Jq.thenN ?_
  refine Jc.seq ?_
  refine Jc.seq ?_
  refine Jc.region ?_
  refine Jl.pv (PR.move rfl) ?_
  refine Jl.pv (PR.len rfl tsl57) ?_
  refine Jl.pv (PR.move rfl) ?_
  refine Jl.nil ?_
  refine Jq.thenN ?_
  refine Jc.block ?_
  refine Jc.loop (σ := { k : Nat // k ≤ l.length ∧ ∀ j, (h : j < k) → (h' : j < l.length) → q l[j] = false }) (fun s => [(8, .int .i64 (s.1 : Int)), (7, .int .i64 (l.length : Int)), (0, .slice A l.length c), (1, .func (.func g) #[] #[])]) (fun _ => []) (fun _ => [.rd A (l.map (Value.int .i64))]) (fun s => l.length - s.1) ⟨0, Nat.zero_le _, fun _ h => by omega⟩ (by exact ⟨rfl, rfl, rfl, rfl, trivial⟩) rfl (by exact ⟨Mem.here, trivial⟩) ?_
  rintro ⟨k, hk, hq⟩
  show Jc _ _ _ _ _ _ [(8, Value.int .i64 (k : Int)), (7, Value.int .i64 (l.length : Int)), (0, .slice A l.length c), (1, .func (.func g) #[] #[])] [] [.rd A (l.map (Value.int .i64))]
  refine Jc.seq ?_
  refine Jc.region ?_
  refine Jl.pv (PR.lss _ rfl rfl rfl) ?_
  refine Jl.nil ?_
  refine Jq.thenN ?_
  refine Jc.seq ?_
  refine Jc.cond rfl (fun hlt => ?_) (fun hlt => ?_)
  · try replace hlt := of_decide_eq_true hlt
    have hlt' : k < l.length := by omega
    refine Jc.skip ?_
    refine Jq.thenN ?_
    refine Jc.seq ?_
    refine Jc.block ?_
    refine Jc.seq ?_
    refine Jc.region ?_
    refine Jl.pv (PR.move rfl) ?_
    refine Jl.pv (PR.assign rfl) ?_
    refine Jl.nil ?_
    refine Jq.thenN ?_
    refine Jc.seq ?_
    refine Jc.region ?_
    refine Jl.pv (PR.move rfl) ?_
    refine Jl.pv (PR.move rfl) ?_
    refine Jl.pv (PR.move rfl) ?_
    refine Jl.pv (PR.idx1 k rfl rfl tsl57 (by repeat (first | exact Mem.here | apply Mem.there)) (by simp) rfl hlt') ?_
    refine Jl.pv (PR.loadR rfl tsh3 (by repeat (first | exact Mem.here | apply Mem.there)) (getm hlt')) ?_
    refine Jl.callv (hg _) hen rfl (by rfl) (by rfl) (by repeat (first | exact Take.nil | apply Take.cons (by repeat (first | exact Del.here | apply Del.there)))) (by repeat (first | exact trivial | refine And.intro (by repeat (first | exact Mem.here | apply Mem.there)) ?_)) ?_
    rintro ⟨⟩
    refine Jl.nil ?_
    refine Jq.thenN ?_
    refine Jc.cond rfl (fun hqk => ?_) (fun hqk => ?_)
    · try replace hqk := of_decide_eq_true hqk
      refine Jc.seq ?_
      refine Jc.region ?_
      refine Jl.pv (PR.move rfl) ?_
      refine Jl.pv (PR.assign rfl) ?_
      refine Jl.nil ?_
      refine Jq.thenN ?_
      refine Jc.ret ?_
      refine Jq.blkR ?_
      refine Jq.thenR ?_
      refine Jq.thenR ?_
      refine Jq.blkR ?_
      refine Jq.thenR ?_
      have ha : l.any q = true := List.any_eq_true.2 ⟨l[k], List.getElem_mem _, hqk⟩
      have hi : l.findIdx q = k := by rw [List.findIdx_eq hlt']; exact ⟨hqk, fun j hj => hq j hj (by omega)⟩
      exact Jq.fin () (.inl rfl) rfl (RetVs.tmp rfl RetVs.nil) (by rw [if_pos ha, hi]; rfl) (by repeat (first | exact Take.nil | apply Take.cons (by repeat (first | exact Del.here | apply Del.there)))) (by repeat (first | exact trivial | refine And.intro (by repeat (first | exact Mem.here | apply Mem.there)) ?_))
    · try replace hqk := of_decide_eq_false hqk
      refine Jc.skip ?_
      refine Jq.blkN ?_
      refine Jq.thenN ?_
      refine Jc.region ?_
      refine Jl.pv (PR.add ((k + 1 : Nat) : Int) rfl rfl (by rw [w64 (by omega) (by omega)]; rfl)) ?_
      refine Jl.pv (PR.move rfl) ?_
      refine Jl.nil ?_
      refine Jq.again ⟨k + 1, hlt', fun j h h' => ?_⟩ (by simp only; omega) (by exact ⟨rfl, rfl, rfl, rfl, trivial⟩) rfl (by exact ⟨Mem.here, trivial⟩)
      rcases Nat.lt_or_ge j k with h1 | h1
      · exact hq j h1 h'
      · obtain rfl : j = k := by omega
        exact hqk
  · try replace hlt := of_decide_eq_false hlt
    refine Jc.exit ?_
    refine Jq.thenX ?_
    refine Jq.thenX ?_
    refine Jq.blkX ?_
    refine Jq.thenN ?_
    refine Jc.seq ?_
    refine Jc.region ?_
    refine Jl.pv (PR.assign rfl) ?_
    refine Jl.nil ?_
    refine Jq.thenN ?_
    refine Jc.ret ?_
    have ha : ¬ l.any q = true := fun h => by
      obtain ⟨x, hx, hxq⟩ := List.any_eq_true.1 h
      obtain ⟨j, hj, rfl⟩ := List.mem_iff_getElem.1 hx
      rw [hq j (by omega) hj] at hxq; cases hxq
    exact Jq.fin () (.inl rfl) rfl (RetVs.tmp rfl RetVs.nil) (by rw [if_neg ha]; rfl) (by repeat (first | exact Take.nil | apply Take.cons (by repeat (first | exact Del.here | apply Del.there)))) (by repeat (first | exact trivial | refine And.intro (by repeat (first | exact Mem.here | apply Mem.there)) ?_))

theorem scontains_ct (q : Int → Bool) (A : Option Addr) (c : Nat) (l : List Int) (hn : l.length ≤ 1000000) (g : FuncId) (hg : ∀ n, Ct Try.prog g [.int .i64 n] [] [] (fun _ : Unit => .bool (q n)) (fun _ => []) (fun _ => [])) (hen : ∀ args w, (callFunc g args).run Try.prog w = .ok (.enter g args) w) :
    Ct Try.prog 25 [.slice A l.length c, .func (.func g) #[] #[]] [] [.rd A (l.map (Value.int .i64))] (fun _ : Unit => .bool (l.any q)) (fun _ => []) (fun _ => []) := by
  refine Ct.of _ Try.func25 Try.ntmps25 rfl rfl (fun X W => ?_)
  refine Jc.seq ?_
  refine Jc.region ?_
  refine Jl.pv (PR.assign rfl) ?_
  refine Jl.nil ?_
  refine Jq.thenN ?_
  refine Jc.seq ?_
  refine Jc.region ?_
  refine Jl.pv (PR.move rfl) ?_
  refine Jl.pv (PR.move rfl) ?_
  refine Jl.call (sindex_ct q A c l hn g hg hen) en27 (by rfl) (by repeat (first | exact Take.nil | apply Take.cons (by repeat (first | exact Del.here | apply Del.there)))) (by repeat (first | exact trivial | refine And.intro (by repeat (first | exact Mem.here | apply Mem.there)) ?_)) ?_
  rintro ⟨⟩
  refine Jl.pv (PR.geq (l.any q) rfl rfl (by split <;> rename_i h <;> simp [h])) ?_
  refine Jl.pv (PR.assign rfl) ?_
  refine Jl.nil ?_
  refine Jq.thenN ?_
  refine Jc.ret ?_
  exact Jq.fin () (.inl rfl) rfl (RetVs.tmp rfl RetVs.nil) rfl (by repeat (first | exact Take.nil | apply Take.cons (by repeat (first | exact Del.here | apply Del.there)))) (by repeat (first | exact trivial | refine And.intro (by repeat (first | exact Mem.here | apply Mem.there)) ?_))

end Go.Proofs.Ytoackajhekdckaa
