/-
Disks that come in.
-/
import Derived.Test.YthlmleemapeohaaOpenG
import Derived.Test.YthlmleemapeohaaDkP
import Derived.Test.YthlmleemapeohaaTy
namespace Go.Proofs.Ythlmleemapeohaa
set_option linter.unusedVariables false
open Go.RowKit Go.ChangeShapes
theorem opens_disk : Opens Try.prog 24 (fun z : OAd × Dk => z.2.cs z.1) (fun z => [.rd z.1.1 (u8s z.2.b)]) (fun z => z.2.b.length ≤ z.1.2) :=
  (Opens.struct Try.underlying24 (by kernel_rfl) (OpensF.cons (s := 1) (by kernel_rfl) rfl (Opens.bytes Try.underlying22 Try.underlying5 (by kernel_rfl))
    (OpensF.cons (s := 1) (by kernel_rfl) rfl (Opens.int Try.underlying3) (OpensF.cons (s := 1) (by kernel_rfl) rfl (Opens.int Try.underlying3) OpensF.nil)))).map
    (fun d => (d.1.1, ⟨d.1.2, d.2.1, d.2.2.1⟩)) (fun _ _ => rfl) (fun _ _ _ h => by simpa using h) (fun _ h => h.1.2)
theorem open_dk {H : Type} {enc : TypeId × Value → H} {w : World} {r : Reach} {b0 : Nat} {v : Value} {y : DataW H} {p : List MemPlace} (hv : Value.okWide Try.prog w r b0 24 v) (h : DataW.Trod enc Try.prog w 0 (fun _ => true) true 24 v y p) :
    ∃ (A : Option Addr) (c : Nat) (d : Dk), v = d.v (A, c) ∧ (Fact.rd A (u8s d.b)).p (fun _ => False) w ∧ d.b.length ≤ c := by
  obtain ⟨⟨⟨A, c⟩, d⟩, h1, h2, h3⟩ := open_struct Try.underlying24 opens_disk hv h
  exact ⟨A, c, d, h1, h2 _ (List.mem_cons_self ..), h3⟩
theorem open_ps {H : Type} {enc : TypeId × Value → H} {w : World} {r : Reach} {b0 : Nat} {v : Value} {y : DataW H} {p : List MemPlace} (hv : Value.okWide Try.prog w r b0 25 v) (h : DataW.Trod enc Try.prog w 0 (fun _ => true) true 25 v y p) :
    ∃ (A : Option Addr) (c : Nat) (zs : Ps), v = .slice A zs.length c ∧ (Fact.rd A (psv zs)).p (fun _ => False) w ∧ (Fact.ps zs).p (fun _ => False) w ∧ zs.length ≤ c := by
  obtain ⟨⟨⟨A, c⟩, zs⟩, h1, h2, h3, h4, h5⟩ := open_slice' Try.underlying25 (Opens.slice Try.underlying25 1 (by kernel_rfl) (Opens.bytes Try.underlying22 Try.underlying5 (by kernel_rfl)) (fun _ => rfl)) hv h
  simp only [List.cons.injEq, and_true] at h1
  refine ⟨A, c, zs, h1, ?_, fun z hz => ?_, h4⟩
  · have := h2 _ (List.mem_cons_self ..)
    rw [flatMap_one] at this
    exact this
  · exact h2 _ (List.mem_cons_of_mem _ (List.mem_flatMap.2 ⟨z, hz, by simp⟩))
end Go.Proofs.Ythlmleemapeohaa
