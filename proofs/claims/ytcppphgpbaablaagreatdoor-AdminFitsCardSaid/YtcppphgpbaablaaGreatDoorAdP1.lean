/-
Orders that come in.
-/
import Derived.Test.YtcppphgpbaablaaGreatDoorAdO
namespace Go.Proofs.YtcppphgpbaablaaGreatDoor
set_option linter.unusedVariables false
set_option maxRecDepth 100000
open Go.RowKit Go.ChangeShapes
theorem wf64_of {n : Int} (h : (Lit.int .i64 n).wf = true) : -9223372036854775808 ≤ n ∧ n ≤ 9223372036854775807 := by
  simp only [Lit.wf, Bool.and_eq_true, decide_eq_true_eq] at h
  exact h
theorem opens_ord : Opens Tryz.prog 32 (fun z : AdC × Rc => z.2.cs z.1) (fun z => [.rd z.1.1 (i64s z.2.l)]) (fun z => z.2.l.length ≤ z.1.2 ∧ i64in z.2.l) :=
  (Opens.struct Tryz.underlying32 (by kernel_rfl) (OpensF.cons (s := 1) (by kernel_rfl) rfl (Opens.u8 Tryz.underlying5) (OpensF.cons (s := 1) (by kernel_rfl) rfl (Opens.ints Tryz.underlying22 Tryz.underlying3 (by kernel_rfl)) OpensF.nil))).map
    (fun (d : UInt8 × (AdC × List Int) × Unit) => (d.2.1.1, ⟨d.1, d.2.1.2⟩)) (fun _ _ => rfl) (fun _ _ _ h => by simpa using h) (fun _ h => ⟨h.2.1.2.1, fun n hn => wf64_of (h.2.1.2.2 n hn)⟩)
theorem open_ord {H : Type} {enc : TypeId × Value → H} {w : World} {r : Reach} {b0 : Nat} {v : Value} {y : DataW H} {p : List MemPlace} (hv : Value.okWide Tryz.prog w r b0 32 v) (h : DataW.Trod enc Tryz.prog w 0 (fun _ => true) true 32 v y p) :
    ∃ (x : AdC) (c : Rc), v = c.v x ∧ (Fact.rd x.1 (i64s c.l)).p (fun _ => False) w ∧ c.l.length ≤ x.2 ∧ i64in c.l := by
  obtain ⟨⟨x, c⟩, h1, h2, h3⟩ := open_struct Tryz.underlying32 opens_ord hv h
  exact ⟨x, c, h1, h2 _ (List.mem_cons_self ..), h3⟩
end Go.Proofs.YtcppphgpbaablaaGreatDoor
