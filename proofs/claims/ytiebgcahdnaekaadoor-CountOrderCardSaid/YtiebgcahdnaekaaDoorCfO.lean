/-
Groups that come in; what the package-level variable holds.
-/
import Derived.Test.YtiebgcahdnaekaaDoorOpenX
import Derived.Test.YtiebgcahdnaekaaDoorCfA
import Derived.Test.YtiebgcahdnaekaaDoorRows
namespace Go.Proofs.YtiebgcahdnaekaaDoor
set_option linter.unusedVariables false
open Go.RowKit Go.ChangeShapes
theorem opens_conf : Opens Tryd.prog 24 (fun z : AdC × Cf => z.2.cs z.1) (fun z => [.rd z.1.1 (i64s z.2.ms)]) (fun z => z.2.ms.length ≤ z.1.2) :=
  have i := Opens.int Tryd.underlying3
  (Opens.struct Tryd.underlying24 (by kernel_rfl) (OpensF.cons (s := 1) (by kernel_rfl) rfl i (OpensF.cons (s := 1) (by kernel_rfl) rfl i (OpensF.cons (s := 1) (by kernel_rfl) rfl i (OpensF.cons (s := 1) (by kernel_rfl) rfl i
    (OpensF.cons (s := 1) (by kernel_rfl) rfl i (OpensF.cons (s := 1) (by kernel_rfl) rfl i (OpensF.cons (s := 1) (by kernel_rfl) rfl i (OpensF.cons (s := 1) (by kernel_rfl) rfl i (OpensF.cons (s := 1) (by kernel_rfl) rfl i
    (OpensF.cons (s := 1) (by kernel_rfl) rfl i (OpensF.cons (s := 1) (by kernel_rfl) rfl i (OpensF.cons (s := 1) (by kernel_rfl) rfl i (OpensF.cons (s := 1) (by kernel_rfl) rfl i (OpensF.cons (s := 1) (by kernel_rfl) rfl (Opens.bool Tryd.underlying4)
    (OpensF.cons (s := 1) (by kernel_rfl) rfl (Opens.ints Tryd.underlying22 Tryd.underlying3 (by kernel_rfl)) OpensF.nil)))))))))))))))).map
    (fun (d : Int × Int × Int × Int × Int × Int × Int × Int × Int × Int × Int × Int × Int × Bool × (AdC × List Int) × Unit) => (d.2.2.2.2.2.2.2.2.2.2.2.2.2.2.1.1,
      ⟨d.1, d.2.1, d.2.2.1, d.2.2.2.1, d.2.2.2.2.1, d.2.2.2.2.2.1, d.2.2.2.2.2.2.1, d.2.2.2.2.2.2.2.1, d.2.2.2.2.2.2.2.2.1, d.2.2.2.2.2.2.2.2.2.1, d.2.2.2.2.2.2.2.2.2.2.1, d.2.2.2.2.2.2.2.2.2.2.2.1, d.2.2.2.2.2.2.2.2.2.2.2.2.1, d.2.2.2.2.2.2.2.2.2.2.2.2.2.1, d.2.2.2.2.2.2.2.2.2.2.2.2.2.2.1.2⟩))
    (fun _ _ => rfl) (fun _ _ _ h => by simpa using h) (fun _ h => h.2.2.2.2.2.2.2.2.2.2.2.2.2.2.1.2.1)
theorem open_conf {H : Type} {enc : TypeId × Value → H} {w : World} {r : Reach} {b0 : Nat} {v : Value} {y : DataW H} {p : List MemPlace} (hv : Value.okWide Tryd.prog w r b0 24 v) (h : DataW.Trod enc Tryd.prog w 0 (fun _ => true) true 24 v y p) :
    ∃ (x : AdC) (c : Cf), v = c.v x ∧ (Fact.rd x.1 (i64s c.ms)).p (fun _ => False) w ∧ c.ms.length ≤ x.2 := by
  obtain ⟨⟨x, c⟩, h1, h2, h3⟩ := open_struct Tryd.underlying24 opens_conf hv h
  exact ⟨x, c, h1, h2 _ (List.mem_cons_self ..), h3⟩
theorem lim_pair {y : Int × Int × Unit} {a b : Int} (h : ∃ Ds, (DataW.agg [.lit (.int .i64 a), .lit (.int .i64 b)] : DataW Unit) = .agg Ds ∧ ∃ D Ds', Ds = D :: Ds' ∧ D = .lit (.int .i64 y.1) ∧ ∃ D2 Ds2, Ds' = D2 :: Ds2 ∧ D2 = .lit (.int .i64 y.2.1) ∧ Ds2 = []) : y = (a, b, ()) := by
  obtain ⟨y1, y2, ⟨⟩⟩ := y
  obtain ⟨_, h1, _, _, rfl, rfl, _, _, rfl, rfl, rfl⟩ := h
  simp only [DataW.agg.injEq, List.cons.injEq, DataW.lit.injEq, Lit.int.injEq, true_and, and_true] at h1
  rw [h1.1, h1.2]
theorem lim_laid {W : World} (h : laidMetH Tryd.prog [("herd/conf.limits", Rows.laid_herd_conf_limits)] W) : Fact.lim.p (fun _ => False) W := by
  rw [MakeChecks.laidMetH_plain _ _ _ (by kernel_rfl)] at h
  obtain ⟨ps, hv, _, _⟩ := h
  have opens_lim := OpensX.array (n := 13) (s := 2) Tryd.underlying80 (by kernel_rfl) (by kernel_rfl) (OpensX.struct Tryd.underlying79 (by kernel_rfl)
      (OpensXF.cons (s := 1) (by kernel_rfl) rfl (OpensX.int Tryd.underlying3) (OpensXF.cons (s := 1) (by kernel_rfl) rfl (OpensX.int Tryd.underlying3) OpensXF.nil))) (fun _ => rfl)
  obtain ⟨⟨y, ⟨hn, Ds, hD, hA⟩, h1, _⟩, _⟩ := laid_rd hv (show Tryd.prog.globalNamed "herd/conf.limits" = some 0 by kernel_rfl) (show (Tryd.prog.globals[0]?).map (·.type) = some 80 by kernel_rfl) opens_lim
  unfold Rows.laid_herd_conf_limits at hD
  injection hD with hD
  subst hD
  match y, hn with
  | [y0, y1, y2, y3, y4, y5, y6, y7, y8, y9, y10, y11, y12], _ =>
    obtain ⟨p0, hA⟩ := hA.head; obtain ⟨p1, hA⟩ := hA.head; obtain ⟨p2, hA⟩ := hA.head; obtain ⟨p3, hA⟩ := hA.head; obtain ⟨p4, hA⟩ := hA.head; obtain ⟨p5, hA⟩ := hA.head; obtain ⟨p6, hA⟩ := hA.head
    obtain ⟨p7, hA⟩ := hA.head; obtain ⟨p8, hA⟩ := hA.head; obtain ⟨p9, hA⟩ := hA.head; obtain ⟨p10, hA⟩ := hA.head; obtain ⟨p11, hA⟩ := hA.head; obtain ⟨p12, _⟩ := hA.head
    obtain rfl := lim_pair p0; obtain rfl := lim_pair p1; obtain rfl := lim_pair p2; obtain rfl := lim_pair p3; obtain rfl := lim_pair p4; obtain rfl := lim_pair p5; obtain rfl := lim_pair p6
    obtain rfl := lim_pair p7; obtain rfl := lim_pair p8; obtain rfl := lim_pair p9; obtain rfl := lim_pair p10; obtain rfl := lim_pair p11; obtain rfl := lim_pair p12
    exact h1
theorem open_irow {H : Type} {enc : TypeId × Value → H} {w : World} {r : Reach} {b0 : Nat} {v : Value} {y : DataW H} {p : List MemPlace} (hv : Value.okWide Tryd.prog w r b0 22 v) (h : DataW.Trod enc Tryd.prog w 0 (fun _ => true) true 22 v y p) :
    ∃ (x : AdC) (l : List Int), v = .slice x.1 l.length x.2 ∧ (Fact.rd x.1 (i64s l)).p (fun _ => False) w ∧ l.length ≤ x.2 := by
  obtain ⟨A, c, l, rfl, h1, _, h3, _⟩ := open_row Tryd.underlying22 Tryd.underlying3 (by kernel_rfl) hv h
  exact ⟨(A, c), l, rfl, h1, h3⟩
end Go.Proofs.YtiebgcahdnaekaaDoor
