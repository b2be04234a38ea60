/-
Brains, groups and orders that come in; what the package-level variables of orders hold.
-/
import Derived.Test.YtcppphgpbaablaaDoorOpenY
import Derived.Test.YtcppphgpbaablaaDoorOpenG
import Derived.Test.YtcppphgpbaablaaDoorRows
import Derived.Test.YtcppphgpbaablaaDoorAdW
namespace Go.Proofs.YtcppphgpbaablaaDoor
set_option linter.unusedVariables false
set_option maxRecDepth 100000
open Go.RowKit Go.ChangeShapes
theorem opens_conf : Opens Tryd.prog 24 (fun z : AdC × Cf => z.2.cs z.1) (fun z => [.rd z.1.1 (i64s z.2.ms)]) (fun z => z.2.ms.length ≤ z.1.2) :=
  have i := Opens.int Tryd.underlying3
  (Opens.struct Tryd.underlying24 (by kernel_rfl) (OpensF.cons (s := 1) (by kernel_rfl) rfl i (OpensF.cons (s := 1) (by kernel_rfl) rfl i (OpensF.cons (s := 1) (by kernel_rfl) rfl i (OpensF.cons (s := 1) (by kernel_rfl) rfl i
    (OpensF.cons (s := 1) (by kernel_rfl) rfl i (OpensF.cons (s := 1) (by kernel_rfl) rfl i (OpensF.cons (s := 1) (by kernel_rfl) rfl i (OpensF.cons (s := 1) (by kernel_rfl) rfl i (OpensF.cons (s := 1) (by kernel_rfl) rfl i
    (OpensF.cons (s := 1) (by kernel_rfl) rfl i (OpensF.cons (s := 1) (by kernel_rfl) rfl i (OpensF.cons (s := 1) (by kernel_rfl) rfl i (OpensF.cons (s := 1) (by kernel_rfl) rfl i (OpensF.cons (s := 1) (by kernel_rfl) rfl (Opens.bool Tryd.underlying4)
    (OpensF.cons (s := 1) (by kernel_rfl) rfl (Opens.ints Tryd.underlying22 Tryd.underlying3 (by kernel_rfl)) OpensF.nil)))))))))))))))).map
    (fun (d : Int × Int × Int × Int × Int × Int × Int × Int × Int × Int × Int × Int × Int × Bool × (AdC × List Int) × Unit) => (d.2.2.2.2.2.2.2.2.2.2.2.2.2.2.1.1,
      ⟨d.1, d.2.1, d.2.2.1, d.2.2.2.1, d.2.2.2.2.1, d.2.2.2.2.2.1, d.2.2.2.2.2.2.1, d.2.2.2.2.2.2.2.1, d.2.2.2.2.2.2.2.2.1, d.2.2.2.2.2.2.2.2.2.1, d.2.2.2.2.2.2.2.2.2.2.1, d.2.2.2.2.2.2.2.2.2.2.2.1, d.2.2.2.2.2.2.2.2.2.2.2.2.1, d.2.2.2.2.2.2.2.2.2.2.2.2.2.1, d.2.2.2.2.2.2.2.2.2.2.2.2.2.2.1.2⟩))
    (fun _ _ => rfl) (fun _ _ _ h => by simpa using h) (fun _ h => h.2.2.2.2.2.2.2.2.2.2.2.2.2.2.1.2.1)
theorem open_conf {H : Type} {enc : TypeId × Value → H} {w : World} {r : Reach} {b0 : Nat} {v : Value} {y : DataW H} {p : List MemPlace} (hv : Value.okWide Tryd.prog w r b0 24 v) (h : DataW.Trod enc Tryd.prog w 0 (fun _ => true) true 24 v y p) :
    ∃ (x : AdC) (c : Cf), v = c.v x ∧ (Fact.rd x.1 (i64s c.ms)).p (fun _ => False) w ∧ c.ms.length ≤ x.2 := by
  obtain ⟨⟨x, c⟩, h1, h2, h3⟩ := open_struct Tryd.underlying24 opens_conf hv h
  exact ⟨x, c, h1, h2 _ (List.mem_cons_self ..), h3⟩
theorem lim_pair {y : Int × Int × Unit} {a b : Int} (h : ∃ Ds, (DataW.agg [.lit (.int .i64 a), .lit (.int .i64 b)] : DataW Unit) = .agg Ds ∧ ∃ D Ds', Ds = D :: Ds' ∧ D = .lit (.int .i64 y.1) ∧ ∃ D2 Ds2, Ds' = D2 :: Ds2 ∧ D2 = .lit (.int .i64 y.2.1) ∧ Ds2 = []) : y = (a, b, ()) := by
  obtain ⟨y1, y2, ⟨⟩⟩ := y
  obtain ⟨_, h1, _, _, rfl, rfl, _, _, rfl, rfl, rfl⟩ := h
  simp only [DataW.agg.injEq, List.cons.injEq, DataW.lit.injEq, Lit.int.injEq, true_and, and_true] at h1
  rw [h1.1, h1.2]
theorem opens_it : Opens Tryd.prog 48 (fun x : It1 => x.cs) (fun _ => []) (fun _ => True) :=
  have i := Opens.int Tryd.underlying3
  have q := Opens.bool Tryd.underlying4
  (Opens.struct Tryd.underlying48 (by kernel_rfl) (OpensF.cons (s := 1) (by kernel_rfl) rfl i (OpensF.cons (s := 1) (by kernel_rfl) rfl i (OpensF.cons (s := 1) (by kernel_rfl) rfl i (OpensF.cons (s := 1) (by kernel_rfl) rfl q OpensF.nil))))).map
    (fun (d : Int × Int × Int × Bool × Unit) => (⟨d.1, d.2.1, d.2.2.1, d.2.2.2.1⟩ : It1)) (fun _ _ => rfl) (fun _ _ _ _ ψ h => by simp at h) (fun _ _ => trivial)
theorem opens_kp : Opens Tryd.prog 46 (fun x : Kp => x.cs) (fun _ => []) (fun _ => True) :=
  have i := Opens.int Tryd.underlying3
  have q := Opens.bool Tryd.underlying4
  (Opens.struct Tryd.underlying46 (by kernel_rfl) (OpensF.cons (s := 1) (by kernel_rfl) rfl i (OpensF.cons (s := 1) (by kernel_rfl) rfl i (OpensF.cons (s := 1) (by kernel_rfl) rfl i (OpensF.cons (s := 1) (by kernel_rfl) rfl i (OpensF.cons (s := 1) (by kernel_rfl) rfl (Opens.u8 Tryd.underlying5) (OpensF.cons (s := 1) (by kernel_rfl) rfl i (OpensF.cons (s := 1) (by kernel_rfl) rfl q (OpensF.cons (s := 1) (by kernel_rfl) rfl q OpensF.nil))))))))).map
    (fun (d : Int × Int × Int × Int × UInt8 × Int × Bool × Bool × Unit) => (⟨d.1, d.2.1, d.2.2.1, d.2.2.2.1, d.2.2.2.2.1, d.2.2.2.2.2.1, d.2.2.2.2.2.2.1, d.2.2.2.2.2.2.2.1⟩ : Kp)) (fun _ _ => rfl) (fun _ _ _ _ ψ h => by simp at h) (fun _ _ => trivial)
theorem opens_rf : Opens Tryd.prog 28 (fun x : Rf => x.cs) (fun _ => []) (fun _ => True) :=
  have i := Opens.int Tryd.underlying3
  have q := Opens.bool Tryd.underlying4
  (Opens.struct Tryd.underlying28 (by kernel_rfl) (OpensF.cons (s := 1) (by kernel_rfl) rfl (Opens.u8 Tryd.underlying5) (OpensF.cons (s := 1) (by kernel_rfl) rfl i (OpensF.cons (s := 1) (by kernel_rfl) rfl i (OpensF.cons (s := 1) (by kernel_rfl) rfl i (OpensF.cons (s := 1) (by kernel_rfl) rfl q (OpensF.cons (s := 1) (by kernel_rfl) rfl i (OpensF.cons (s := 1) (by kernel_rfl) rfl i OpensF.nil)))))))).map
    (fun (d : UInt8 × Int × Int × Int × Bool × Int × Int × Unit) => (⟨d.1, d.2.1, d.2.2.1, d.2.2.2.1, d.2.2.2.2.1, d.2.2.2.2.2.1, d.2.2.2.2.2.2.1⟩ : Rf)) (fun _ _ => rfl) (fun _ _ _ _ ψ h => by simp at h) (fun _ _ => trivial)
theorem opens_br : Opens Tryd.prog 30 (fun z : BrA × Br => z.2.cs z.1) (fun z => z.2.rd z.1) (fun z => z.2.cf.ms.length ≤ z.1.1.2 ∧ z.2.its.length ≤ z.1.2.1.2 ∧ z.2.kps.length ≤ z.1.2.2.2) :=
  have i := Opens.int Tryd.underlying3
  have q := Opens.bool Tryd.underlying4
  (Opens.struct Tryd.underlying30 (by kernel_rfl) (OpensF.cons (s := 1) (by kernel_rfl) rfl i (OpensF.cons (s := 1) (by kernel_rfl) rfl i (OpensF.cons (s := 1) (by kernel_rfl) rfl q (OpensF.cons (s := 15) (by kernel_rfl) rfl opens_conf (OpensF.cons (s := 1) (by kernel_rfl) rfl (Opens.slice Tryd.underlying25 4 (by kernel_rfl) opens_it (fun _ => rfl)) (OpensF.cons (s := 1) (by kernel_rfl) rfl (Opens.slice Tryd.underlying26 8 (by kernel_rfl) opens_kp (fun _ => rfl)) (OpensF.cons (s := 7) (by kernel_rfl) rfl opens_rf OpensF.nil)))))))).map
    (fun (d : Int × Int × Bool × (AdC × Cf) × (AdC × List It1) × (AdC × List Kp) × Rf × Unit) => ((d.2.2.2.1.1, d.2.2.2.2.1.1, d.2.2.2.2.2.1.1), (⟨d.1, d.2.1, d.2.2.1, d.2.2.2.1.2, d.2.2.2.2.1.2, d.2.2.2.2.2.1.2, d.2.2.2.2.2.2.1⟩ : Br)))
    (fun _ _ => rfl) (fun d w _ h ψ hψ => by
      simp only [List.mem_cons, List.not_mem_nil, or_false] at hψ
      rcases hψ with rfl | rfl | rfl
      · exact h _ (by simp)
      · exact h _ (by simp [itsV])
      · exact h _ (by simp [kpsV])) (fun d h => ⟨h.2.2.2.1, h.2.2.2.2.1.2.1, h.2.2.2.2.2.1.2.1⟩)
theorem open_br {H : Type} {enc : TypeId × Value → H} {w : World} {r : Reach} {b0 : Nat} {v : Value} {y : DataW H} {p : List MemPlace} (hv : Value.okWide Tryd.prog w r b0 30 v) (h : DataW.Trod enc Tryd.prog w 0 (fun _ => true) true 30 v y p) :
    ∃ (x : BrA) (b : Br), v = b.v x ∧ (Fact.rd x.1.1 (i64s b.cf.ms)).p (fun _ => False) w ∧ (Fact.rd x.2.1.1 (itsV b.its)).p (fun _ => False) w ∧ (Fact.rd x.2.2.1 (kpsV b.kps)).p (fun _ => False) w ∧ b.cf.ms.length ≤ x.1.2 ∧ b.its.length ≤ x.2.1.2 ∧ b.kps.length ≤ x.2.2.2 := by
  obtain ⟨⟨x, b⟩, h1, h2, h3⟩ := open_struct Tryd.underlying30 opens_br hv h
  exact ⟨x, b, h1, h2 _ (by simp), h2 _ (by simp), h2 _ (by simp), h3⟩
theorem OpensX.str {P : Program} {t : TypeId} (ht : P.underlying t = some .string) : OpensX P t (fun l : List UInt8 => [astr l]) (fun _ => []) (fun l D => D = .lit (.string l)) := fun w fuel l x h => by
  obtain ⟨s, rfl, hx, _⟩ := DataW.trod_string ht h
  exact ⟨s.data.toList, by simp [astr], by simp, by rw [hx]⟩
theorem str_of {l m : List UInt8} (h : (DataW.lit (.string m) : DataW Unit) = .lit (.string l)) : l = m := by
  simp only [DataW.lit.injEq, Lit.string.injEq] at h
  exact h.symm
theorem ad_laid {W : World} (h : laidMetH Tryd.prog [("herd/conf.limits", Rows.laid_herd_conf_limits), ("herd/brain.changes", Rows.laid_herd_brain_changes), ("herd/admin.names", Rows.laid_herd_admin_names)] W) : Fact.lim.p (fun _ => False) W ∧ Fact.anames.p (fun _ => False) W := by
  rw [MakeChecks.laidMetH_plain _ _ _ (by kernel_rfl)] at h
  obtain ⟨ps, hv, _, _⟩ := h
  have opens_lim := OpensX.array (n := 13) (s := 2) Tryd.underlying99 (by kernel_rfl) (by kernel_rfl) (OpensX.struct Tryd.underlying98 (by kernel_rfl)
      (OpensXF.cons (s := 1) (by kernel_rfl) rfl (OpensX.int Tryd.underlying3) (OpensXF.cons (s := 1) (by kernel_rfl) rfl (OpensX.int Tryd.underlying3) OpensXF.nil))) (fun _ => rfl)
  obtain ⟨⟨y, ⟨hn, Ds, hD, hA⟩, h1, _⟩, q, hv2⟩ := laid_rd hv (show Tryd.prog.globalNamed "herd/conf.limits" = some 1 by kernel_rfl) (show (Tryd.prog.globals[1]?).map (·.type) = some 99 by kernel_rfl) opens_lim
  unfold Rows.laid_herd_conf_limits at hD
  injection hD with hD
  subst hD
  match y, hn with
  | [y0, y1, y2, y3, y4, y5, y6, y7, y8, y9, y10, y11, y12], _ =>
    obtain ⟨p0, hA⟩ := hA.head; obtain ⟨p1, hA⟩ := hA.head; obtain ⟨p2, hA⟩ := hA.head; obtain ⟨p3, hA⟩ := hA.head; obtain ⟨p4, hA⟩ := hA.head; obtain ⟨p5, hA⟩ := hA.head; obtain ⟨p6, hA⟩ := hA.head
    obtain ⟨p7, hA⟩ := hA.head; obtain ⟨p8, hA⟩ := hA.head; obtain ⟨p9, hA⟩ := hA.head; obtain ⟨p10, hA⟩ := hA.head; obtain ⟨p11, hA⟩ := hA.head; obtain ⟨p12, _⟩ := hA.head
    obtain rfl := lim_pair p0; obtain rfl := lim_pair p1; obtain rfl := lim_pair p2; obtain rfl := lim_pair p3; obtain rfl := lim_pair p4; obtain rfl := lim_pair p5; obtain rfl := lim_pair p6
    obtain rfl := lim_pair p7; obtain rfl := lim_pair p8; obtain rfl := lim_pair p9; obtain rfl := lim_pair p10; obtain rfl := lim_pair p11; obtain rfl := lim_pair p12
    refine ⟨h1, ?_⟩
    have oc := OpensX.array (n := 11) (s := 1) Tryd.underlying132 (by kernel_rfl) (by kernel_rfl) (OpensX.slice Tryd.underlying131 1 (by kernel_rfl) (OpensX.int Tryd.underlying5) (fun _ => rfl)) (fun _ => rfl)
    obtain ⟨_, q2, hv3⟩ := laid_rd hv2 (show Tryd.prog.globalNamed "herd/brain.changes" = some 2 by kernel_rfl) (show (Tryd.prog.globals[2]?).map (·.type) = some 132 by kernel_rfl) oc
    have on := OpensX.array (n := 8) (s := 1) Tryd.underlying68 (by kernel_rfl) (by kernel_rfl) (OpensX.str Tryd.underlying9) (fun _ => rfl)
    obtain ⟨⟨z, ⟨hn2, Ds2, hD2, hA2⟩, g1, _⟩, _⟩ := laid_rd hv3 (show Tryd.prog.globalNamed "herd/admin.names" = some 0 by kernel_rfl) (show (Tryd.prog.globals[0]?).map (·.type) = some 68 by kernel_rfl) on
    unfold Rows.laid_herd_admin_names at hD2
    injection hD2 with hD2
    subst hD2
    match z, hn2 with
    | [z0, z1, z2, z3, z4, z5, z6, z7], _ =>
      obtain ⟨p0, hA2⟩ := hA2.head; obtain ⟨p1, hA2⟩ := hA2.head; obtain ⟨p2, hA2⟩ := hA2.head; obtain ⟨p3, hA2⟩ := hA2.head; obtain ⟨p4, hA2⟩ := hA2.head; obtain ⟨p5, hA2⟩ := hA2.head; obtain ⟨p6, hA2⟩ := hA2.head; obtain ⟨p7, _⟩ := hA2.head
      obtain rfl := str_of p0; obtain rfl := str_of p1; obtain rfl := str_of p2; obtain rfl := str_of p3; obtain rfl := str_of p4; obtain rfl := str_of p5; obtain rfl := str_of p6; obtain rfl := str_of p7
      exact g1
end Go.Proofs.YtcppphgpbaablaaDoor
