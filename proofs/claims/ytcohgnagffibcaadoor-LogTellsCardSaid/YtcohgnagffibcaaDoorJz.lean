/-
The logic of walks: contracts whose rows are young.
Conditions: none; no program in sight.
-/
import Derived.Test.YtcohgnagffibcaaDoorJy
namespace Go.Proofs.YtcohgnagffibcaaDoor
set_option linter.unusedVariables false
open Go.RowKit
/-- A row of one's own: its element type, how many cells that has, where it lies, how many there are, the cells. -/
abbrev RwT := TypeId × Nat × (Option Addr × Nat) × Nat × List Value
def RwT.res (r : RwT) : Res := .row r.1 r.2.1 (.slice r.2.2.1.1 r.2.2.2.1 r.2.2.1.2) r.2.2.2.1 r.2.2.2.2
theorem del_of_mem {q : Res} : ∀ {l : List Res}, q ∈ l → ∃ R', Del q l R'
  | x :: l, h => by
    rcases List.mem_cons.1 h with rfl | h
    · exact ⟨_, Del.here⟩
    · obtain ⟨R', h⟩ := del_of_mem h
      exact ⟨_, Del.there h⟩
theorem Ct.young {P : Program} {f : FuncId} {args : List Value} {pre : List Fact} {α : Type} {res : α → Value} {Rout : α → List Res} {post : α → List Fact} (rw : α → List RwT) (h : Ct P f args [] pre res Rout post) (hr : ∀ x, Rout x = (rw x).map RwT.res) (q : α → Prop) (hq : ∀ x, (∀ r ∈ rw x, r.2.2.2.1 ≤ r.2.2.1.2) → q x) :
    CtY P f args [] pre res (fun _ => []) (fun x => [.is (q x)]) (fun x => (rw x).map fun r => .rd r.2.2.1.1 r.2.2.2.2) := fun X W hX hs hp => by
  refine Calls.mono (h X W hX hs hp) ?_
  rintro e W' ⟨x, h1, h2, h3, h4, _⟩
  have key : ∀ r ∈ rw x, (RwT.res r).says W' ∧ ∀ b, (RwT.res r).own b → W.heap.size ≤ b := fun r hr' => by
    obtain ⟨R', hd⟩ := del_of_mem (l := Rout x) (q := RwT.res r) (by rw [hr]; exact List.mem_map.2 ⟨r, hr', rfl⟩)
    exact ⟨(hd.sep h3).1, fun b hb => (h4 b ((hd.own b).2 (.inl hb))).resolve_left fun h => h⟩
  refine ⟨x, h1, h2, trivial, fun b hb => hb.elim, fun φ hφ => ?_, fun φ hφ => ?_⟩
  · rw [List.mem_singleton.1 hφ]
    show q x
    refine hq x fun w hw => ?_
    exact row_cap (A := w.2.2.1.1) (cap := w.2.2.1.2) (m := w.2.2.2.1) (xs := w.2.2.2.2) (s := w.2.1) (e := w.1) (key w hw).1
  · obtain ⟨w, hw⟩ := List.mem_map.1 hφ
    have h6 := key w hw.1
    rw [← hw.2]
    refine rd_of_row h6.1 fun b hb hX' => ?_
    have := h6.2 b hb
    rcases hX' with hX' | hX'
    · omega
    · exact hX'.elim
theorem Mem.app {φ : Fact} {l : List Fact} (h : Mem φ l) : ∀ k : List Fact, Mem φ (k ++ l)
  | [] => h
  | _ :: k => Mem.there (Mem.app h k)
theorem Jl.fact2' {P : Program} {r : Option Nat} {C : Cx} {n : Nat × List Nat} {ops : Array Oper} {Q : Exit → Act → World → Prop} {rest : List Oper} {env : List (Nat × Value)} {R : List Res} {Φ : List Fact} {φ ψ : Fact} (χ : Fact) (hm : Mem φ Φ) (hm2 : Mem ψ Φ) (h : ∀ X W, φ.p X W → ψ.p X W → χ.p X W) (k : Jl P r C n ops Q rest env R (χ :: Φ)) : Jl P r C n ops Q rest env R Φ := fun a W h1 h2 => k a W h1 (h2.add (h _ _ (h2.fact hm) (h2.fact hm2)))
end Go.Proofs.YtcohgnagffibcaaDoor
