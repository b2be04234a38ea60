/-
Brains that come in.
-/
import Derived.Test.YtiebgcahdnaekaaDoorCfO
import Derived.Test.YtiebgcahdnaekaaDoorBrP
namespace Go.Proofs.YtiebgcahdnaekaaDoor
set_option linter.unusedVariables false
open Go.RowKit Go.ChangeShapes
theorem opens_it : Opens Tryd.prog 43 (fun x : It1 => x.cs) (fun _ => []) (fun _ => True) :=
  have i := Opens.int Tryd.underlying3
  have q := Opens.bool Tryd.underlying4
  (Opens.struct Tryd.underlying43 (by kernel_rfl) (OpensF.cons (s := 1) (by kernel_rfl) rfl i (OpensF.cons (s := 1) (by kernel_rfl) rfl i (OpensF.cons (s := 1) (by kernel_rfl) rfl i (OpensF.cons (s := 1) (by kernel_rfl) rfl q OpensF.nil))))).map
    (fun (d : Int × Int × Int × Bool × Unit) => (⟨d.1, d.2.1, d.2.2.1, d.2.2.2.1⟩ : It1)) (fun _ _ => rfl) (fun _ _ _ _ ψ h => by simp at h) (fun _ _ => trivial)
theorem opens_kp : Opens Tryd.prog 38 (fun x : Kp => x.cs) (fun _ => []) (fun _ => True) :=
  have i := Opens.int Tryd.underlying3
  have q := Opens.bool Tryd.underlying4
  (Opens.struct Tryd.underlying38 (by kernel_rfl) (OpensF.cons (s := 1) (by kernel_rfl) rfl i (OpensF.cons (s := 1) (by kernel_rfl) rfl i (OpensF.cons (s := 1) (by kernel_rfl) rfl i (OpensF.cons (s := 1) (by kernel_rfl) rfl i (OpensF.cons (s := 1) (by kernel_rfl) rfl (Opens.u8 Tryd.underlying5) (OpensF.cons (s := 1) (by kernel_rfl) rfl i (OpensF.cons (s := 1) (by kernel_rfl) rfl q (OpensF.cons (s := 1) (by kernel_rfl) rfl q OpensF.nil))))))))).map
    (fun (d : Int × Int × Int × Int × UInt8 × Int × Bool × Bool × Unit) => (⟨d.1, d.2.1, d.2.2.1, d.2.2.2.1, d.2.2.2.2.1, d.2.2.2.2.2.1, d.2.2.2.2.2.2.1, d.2.2.2.2.2.2.2.1⟩ : Kp)) (fun _ _ => rfl) (fun _ _ _ _ ψ h => by simp at h) (fun _ _ => trivial)
theorem opens_rf : Opens Tryd.prog 28 (fun x : Rf => x.cs) (fun _ => []) (fun _ => True) :=
  have i := Opens.int Tryd.underlying3
  have q := Opens.bool Tryd.underlying4
  (Opens.struct Tryd.underlying28 (by kernel_rfl) (OpensF.cons (s := 1) (by kernel_rfl) rfl (Opens.u8 Tryd.underlying5) (OpensF.cons (s := 1) (by kernel_rfl) rfl i (OpensF.cons (s := 1) (by kernel_rfl) rfl i (OpensF.cons (s := 1) (by kernel_rfl) rfl i (OpensF.cons (s := 1) (by kernel_rfl) rfl q (OpensF.cons (s := 1) (by kernel_rfl) rfl i (OpensF.cons (s := 1) (by kernel_rfl) rfl i OpensF.nil)))))))).map
    (fun (d : UInt8 × Int × Int × Int × Bool × Int × Int × Unit) => (⟨d.1, d.2.1, d.2.2.1, d.2.2.2.1, d.2.2.2.2.1, d.2.2.2.2.2.1, d.2.2.2.2.2.2.1⟩ : Rf)) (fun _ _ => rfl) (fun _ _ _ _ ψ h => by simp at h) (fun _ _ => trivial)
theorem opens_br : Opens Tryd.prog 30 (fun z : BrA × Br => z.2.cs z.1) (fun z => z.2.rd z.1) (fun z => z.2.cf.ms.length ≤ z.1.1.2 ∧ z.2.its.length ≤ z.1.2.1.2 ∧ z.2.kps.length ≤ z.1.2.2.2) :=
  have i := Opens.int Tryd.underlying3
  have q := Opens.bool Tryd.underlying4
  (Opens.struct Tryd.underlying30 (by kernel_rfl) (OpensF.cons (s := 1) (by kernel_rfl) rfl i (OpensF.cons (s := 1) (by kernel_rfl) rfl i (OpensF.cons (s := 1) (by kernel_rfl) rfl q (OpensF.cons (s := 15) (by kernel_rfl) rfl opens_conf (OpensF.cons (s := 1) (by kernel_rfl) rfl (Opens.slice Tryd.underlying25 4 (by kernel_rfl) opens_it (fun _ => rfl)) (OpensF.cons (s := 1) (by kernel_rfl) rfl (Opens.slice Tryd.underlying26 8 (by kernel_rfl) opens_kp (fun _ => rfl)) (OpensF.cons (s := 7) (by kernel_rfl) rfl opens_rf OpensF.nil)))))))).map
    (fun (d : Int × Int × Bool × (AdC × Cf) × (AdC × List It1) × (AdC × List Kp) × Rf × Unit) => ((d.2.2.2.1.1, d.2.2.2.2.1.1, d.2.2.2.2.2.1.1), (⟨d.1, d.2.1, d.2.2.1, d.2.2.2.1.2, d.2.2.2.2.1.2, d.2.2.2.2.2.1.2, d.2.2.2.2.2.2.1⟩ : Br)))
    (fun _ _ => rfl) (fun d w _ h ψ hψ => by
      simp only [List.mem_cons, List.not_mem_nil, or_false] at hψ
      rcases hψ with rfl | rfl | rfl
      · exact h _ (by simp)
      · exact h _ (by simp [itsV])
      · exact h _ (by simp [kpsV])) (fun d h => ⟨h.2.2.2.1, h.2.2.2.2.1.2.1, h.2.2.2.2.2.1.2.1⟩)
theorem open_br {H : Type} {enc : TypeId × Value → H} {w : World} {r : Reach} {b0 : Nat} {v : Value} {y : DataW H} {p : List MemPlace} (hv : Value.okWide Tryd.prog w r b0 30 v) (h : DataW.Trod enc Tryd.prog w 0 (fun _ => true) true 30 v y p) :
    ∃ (x : BrA) (b : Br), v = b.v x ∧ (Fact.rd x.1.1 (i64s b.cf.ms)).p (fun _ => False) w ∧ (Fact.rd x.2.1.1 (itsV b.its)).p (fun _ => False) w ∧ (Fact.rd x.2.2.1 (kpsV b.kps)).p (fun _ => False) w ∧ b.cf.ms.length ≤ x.1.2 ∧ b.its.length ≤ x.2.1.2 ∧ b.kps.length ≤ x.2.2.2 := by
  obtain ⟨⟨x, b⟩, h1, h2, h3⟩ := open_struct Tryd.underlying30 opens_br hv h
  exact ⟨x, b, h1, h2 _ (by simp), h2 _ (by simp), h2 _ (by simp), h3⟩
theorem open_kp {H : Type} {enc : TypeId × Value → H} {w : World} {r : Reach} {b0 : Nat} {v : Value} {y : DataW H} {p : List MemPlace} (hv : Value.okWide Tryd.prog w r b0 38 v) (h : DataW.Trod enc Tryd.prog w 0 (fun _ => true) true 38 v y p) : ∃ k : Kp, v = k.v := by
  obtain ⟨e, h1, _⟩ := open_struct Tryd.underlying38 opens_kp hv h
  exact ⟨e, h1⟩
end Go.Proofs.YtiebgcahdnaekaaDoor
