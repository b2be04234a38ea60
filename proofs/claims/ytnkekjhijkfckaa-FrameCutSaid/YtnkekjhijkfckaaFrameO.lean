/-
Rows of bytes that come in.
-/
import Derived.Test.YtnkekjhijkfckaaOpenG
import Derived.Test.YtnkekjhijkfckaaFrameC
namespace Go.Proofs.Ytnkekjhijkfckaa
open Go.RowKit Go.ChangeShapes
theorem open_rows {H : Type} {enc : TypeId × Value → H} {w : World} {r : Reach} {b0 : Nat} {v : Value} {y : DataW H} {p : List MemPlace} (hv : Value.okWide Try.prog w r b0 29 v) (h : DataW.Trod enc Try.prog w 0 (fun _ => true) true 29 v y p) :
    ∃ (A : Option Addr) (c : Nat) (zs : Zs), v = .slice A zs.length c ∧ (Fact.rd A (slv zs)).p (fun _ => False) w ∧ (Fact.rds zs).p (fun _ => False) w ∧ zs.length ≤ c := by
  obtain ⟨⟨⟨A, c⟩, zs⟩, h1, h2, h3, h4, h5⟩ := open_slice' Try.underlying29 (Opens.slice Try.underlying29 1 (by kernel_rfl) (Opens.bytes Try.underlying22 Try.underlying5 (by kernel_rfl)) (fun _ => rfl)) hv h
  simp only [List.cons.injEq, and_true] at h1
  refine ⟨A, c, zs, h1, ?_, fun z hz => ?_, h4⟩
  · have := h2 _ (List.mem_cons_self ..)
    rw [flatMap_one] at this
    exact this
  · refine h2 _ (List.mem_cons_of_mem _ (List.mem_flatMap.2 ⟨z, hz, by simp⟩))
end Go.Proofs.Ytnkekjhijkfckaa
