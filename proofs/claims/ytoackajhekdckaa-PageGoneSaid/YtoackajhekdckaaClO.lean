/-
Clouds that come in.
-/
import Derived.Test.YtoackajhekdckaaOpenG
import Derived.Test.YtoackajhekdckaaClB
namespace Go.Proofs.Ytoackajhekdckaa
set_option linter.unusedVariables false
open Go.RowKit Go.ChangeShapes
theorem opens_box : Opens Try.prog 33 (fun b : Bx => b.cs) (fun _ => []) (fun b => (Lit.int .i64 b.tok).wf = true) :=
  have i := Opens.int Try.underlying3
  have q := Opens.bool Try.underlying4
  (Opens.struct Try.underlying33 (by kernel_rfl) (OpensF.cons (s := 1) (by kernel_rfl) rfl i (OpensF.cons (s := 1) (by kernel_rfl) rfl i (OpensF.cons (s := 1) (by kernel_rfl) rfl i (OpensF.cons (s := 1) (by kernel_rfl) rfl i
    (OpensF.cons (s := 1) (by kernel_rfl) rfl q (OpensF.cons (s := 1) (by kernel_rfl) rfl q (OpensF.cons (s := 1) (by kernel_rfl) rfl q (OpensF.cons (s := 1) (by kernel_rfl) rfl q
    (OpensF.cons (s := 1) (by kernel_rfl) rfl (Opens.u8 Try.underlying5) (OpensF.cons (s := 1) (by kernel_rfl) rfl i (OpensF.cons (s := 1) (by kernel_rfl) rfl i OpensF.nil)))))))))))).map
    (fun (d : Int × Int × Int × Int × Bool × Bool × Bool × Bool × UInt8 × Int × Int × Unit) => (⟨d.1, d.2.1, d.2.2.1, d.2.2.2.1, d.2.2.2.2.1, d.2.2.2.2.2.1, d.2.2.2.2.2.2.1, d.2.2.2.2.2.2.2.1, d.2.2.2.2.2.2.2.2.1, d.2.2.2.2.2.2.2.2.2.1, d.2.2.2.2.2.2.2.2.2.2.1⟩ : Bx))
    (fun _ _ => rfl) (fun _ _ _ _ ψ h => by simp at h) (fun _ h => h.2.1)
theorem opens_cloud : Opens Try.prog 24 (fun z : AdC × Cl => z.2.cs z.1) (fun z => [.rd z.1.1 (bxsV z.2.bs)]) (fun z => z.2.Wf ∧ z.2.bs.length ≤ z.1.2) :=
  have i := Opens.int Try.underlying3
  (Opens.struct Try.underlying24 (by kernel_rfl) (OpensF.cons (s := 1) (by kernel_rfl) rfl (Opens.slice Try.underlying22 11 (by kernel_rfl) opens_box (fun _ => rfl)) (OpensF.cons (s := 1) (by kernel_rfl) rfl i (OpensF.cons (s := 1) (by kernel_rfl) rfl i (OpensF.cons (s := 1) (by kernel_rfl) rfl i
    (OpensF.cons (s := 1) (by kernel_rfl) rfl (Opens.bool Try.underlying4) OpensF.nil)))))).map
    (fun (d : (AdC × List Bx) × Int × Int × Int × Bool × Unit) => (d.1.1, (⟨d.1.2, d.2.1, d.2.2.1, d.2.2.2.1, d.2.2.2.2.1⟩ : Cl)))
    (fun _ _ => rfl) (fun d w _ h ψ hψ => by
      obtain rfl : ψ = _ := by simpa using hψ
      exact h _ (by simp [bxsV])) (fun d h => ⟨h.1.2.2, h.1.2.1⟩)
theorem open_cloud {H : Type} {enc : TypeId × Value → H} {w : World} {r : Reach} {b0 : Nat} {v : Value} {y : DataW H} {p : List MemPlace} (hv : Value.okWide Try.prog w r b0 24 v) (h : DataW.Trod enc Try.prog w 0 (fun _ => true) true 24 v y p) :
    ∃ (x : AdC) (c : Cl), v = c.v x ∧ (Fact.rd x.1 (bxsV c.bs)).p (fun _ => False) w ∧ c.Wf := by
  obtain ⟨⟨x, c⟩, h1, h2, h3⟩ := open_struct Try.underlying24 opens_cloud hv h
  exact ⟨x, c, h1, h2 _ (List.mem_cons_self ..), h3.1⟩
end Go.Proofs.Ytoackajhekdckaa
