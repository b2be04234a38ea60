/-
Records that come in; what the package-level variables hold.
-/
import Derived.Test.YtljgaglbgkejhaaDoorOpenY
import Derived.Test.YtljgaglbgkejhaaDoorRcB
import Derived.Test.YtljgaglbgkejhaaDoorRows
namespace Go.Proofs.YtljgaglbgkejhaaDoor
set_option linter.unusedVariables false
open Go.RowKit Go.ChangeShapes
theorem opens_rec : Opens Tryd.prog 24 (fun z : AdC × Rc => z.2.cs z.1) (fun z => [.rd z.1.1 (i64s z.2.l)]) (fun z => z.2.l.length ≤ z.1.2) :=
  (Opens.struct Tryd.underlying24 (by kernel_rfl) (OpensF.cons (s := 1) (by kernel_rfl) rfl (Opens.u8 Tryd.underlying5) (OpensF.cons (s := 1) (by kernel_rfl) rfl (Opens.ints Tryd.underlying22 Tryd.underlying3 (by kernel_rfl)) OpensF.nil))).map
    (fun (d : UInt8 × (AdC × List Int) × Unit) => (d.2.1.1, ⟨d.1, d.2.1.2⟩)) (fun _ _ => rfl) (fun _ _ _ h => by simpa using h) (fun _ h => h.2.1.2.1)
theorem open_rec {H : Type} {enc : TypeId × Value → H} {w : World} {r : Reach} {b0 : Nat} {v : Value} {y : DataW H} {p : List MemPlace} (hv : Value.okWide Tryd.prog w r b0 24 v) (h : DataW.Trod enc Tryd.prog w 0 (fun _ => true) true 24 v y p) :
    ∃ (x : AdC) (c : Rc), v = c.v x ∧ (Fact.rd x.1 (i64s c.l)).p (fun _ => False) w ∧ c.l.length ≤ x.2 := by
  obtain ⟨⟨x, c⟩, h1, h2, h3⟩ := open_struct Tryd.underlying24 opens_rec hv h
  exact ⟨x, c, h1, h2 _ (List.mem_cons_self ..), h3⟩
theorem opens_recs : Opens Tryd.prog 25 (fun z : AdC × Rcs => [.slice z.1.1 z.2.length z.1.2]) (fun z => [.rd z.1.1 (rcsV z.2), .rcs z.2]) (fun z => z.2.length ≤ z.1.2) :=
  (Opens.slice Tryd.underlying25 2 (by kernel_rfl) opens_rec (fun _ => rfl)).map id (fun _ _ => rfl) (fun d w _ h ψ hψ => by
    simp only [List.mem_cons, List.not_mem_nil, or_false] at hψ
    rcases hψ with rfl | rfl
    · exact h _ (List.mem_cons_self ..)
    · intro z hz
      exact h _ (List.mem_cons_of_mem _ (List.mem_flatMap.2 ⟨z, hz, List.mem_cons_self ..⟩))) (fun _ h => h.2.1)
theorem open_recs {H : Type} {enc : TypeId × Value → H} {w : World} {r : Reach} {b0 : Nat} {v : Value} {y : DataW H} {p : List MemPlace} (hv : Value.okWide Tryd.prog w r b0 25 v) (h : DataW.Trod enc Tryd.prog w 0 (fun _ => true) true 25 v y p) :
    ∃ (x : AdC) (l : Rcs), v = .slice x.1 l.length x.2 ∧ (Fact.rd x.1 (rcsV l)).p (fun _ => False) w ∧ (Fact.rcs l).p (fun _ => False) w := by
  obtain ⟨⟨x, l⟩, h1, h2, h3⟩ := open_slice' Tryd.underlying25 opens_recs hv h
  exact ⟨x, l, (List.cons.inj h1).1, h2 _ (List.mem_cons_self ..), h2 _ (List.mem_cons_of_mem _ (List.mem_cons_self ..))⟩
theorem open_bytes {H : Type} {enc : TypeId × Value → H} {w : World} {r : Reach} {b0 : Nat} {v : Value} {y : DataW H} {p : List MemPlace} (hv : Value.okWide Tryd.prog w r b0 26 v) (h : DataW.Trod enc Tryd.prog w 0 (fun _ => true) true 26 v y p) :
    ∃ (x : AdC) (l : List UInt8), v = .slice x.1 l.length x.2 ∧ (Fact.rd x.1 (u8s l)).p (fun _ => False) w ∧ l.length ≤ x.2 := by
  obtain ⟨⟨x, l⟩, h1, h2, h3⟩ := open_slice' Tryd.underlying26 (Opens.bytes Tryd.underlying26 Tryd.underlying5 (by kernel_rfl)) hv h
  exact ⟨x, l, (List.cons.inj h1).1, h2 _ (List.mem_cons_self ..), h3.2⟩
theorem open_nums {H : Type} {enc : TypeId × Value → H} {w : World} {r : Reach} {b0 : Nat} {v : Value} {y : DataW H} {p : List MemPlace} (hv : Value.okWide Tryd.prog w r b0 22 v) (h : DataW.Trod enc Tryd.prog w 0 (fun _ => true) true 22 v y p) :
    ∃ (x : AdC) (l : List Int), v = .slice x.1 l.length x.2 ∧ (Fact.rd x.1 (i64s l)).p (fun _ => False) w := by
  obtain ⟨⟨x, l⟩, h1, h2, h3⟩ := open_slice' Tryd.underlying22 (Opens.ints Tryd.underlying22 Tryd.underlying3 (by kernel_rfl)) hv h
  exact ⟨x, l, (List.cons.inj h1).1, h2 _ (List.mem_cons_self ..)⟩
theorem pair_of {z : AdC × List Int} {a b : Int} (h : ((DataW.slice [.lit (.int .i64 a), .lit (.int .i64 b)] [] : DataW Unit) = .nil ∧ z = ((none, 0), [])) ∨ ∃ Ds E, (DataW.slice [.lit (.int .i64 a), .lit (.int .i64 b)] [] : DataW Unit) = .slice Ds E ∧ All2 (fun n D => D = .lit (.int .i64 n)) z.2 Ds ∧ z.1.1.isNone = false) : z.2 = [a, b] := by
  rcases h with ⟨h, _⟩ | ⟨Ds, E, h, hA, _⟩
  · cases h
  · simp only [DataW.slice.injEq] at h
    obtain ⟨rfl, _⟩ := h
    obtain ⟨x, l⟩ := z
    match l, hA with
    | [], hA => exact absurd hA.1 (by simp)
    | [p], hA => exact absurd hA.1 (by simp)
    | [p, q], hA =>
      obtain ⟨h1, hA⟩ := hA.head
      obtain ⟨h2, _⟩ := hA.head
      simp only [DataW.lit.injEq, Lit.int.injEq, true_and] at h1 h2
      rw [h1, h2]
    | p :: q :: s :: l, hA => exact absurd hA.1 (by simp)
theorem manyD_at : ∀ {i : Nat}, 1 ≤ i → i < 17 → ∀ Ds : List (DataW Unit), (Rows.laid_herd_record_many : DataW Unit) = .agg Ds → Ds[i]? = some (.slice [.lit (.int .i64 (((bndAt i).1 : Nat) : Int)), .lit (.int .i64 (((bndAt i).2 : Nat) : Int))] []) := by
  intro i h1 h2 Ds h
  unfold Rows.laid_herd_record_many at h
  injection h with h
  subst h
  match i, h1, h2 with
  | 1, _, _ => rfl | 2, _, _ => rfl | 3, _, _ => rfl | 4, _, _ => rfl | 5, _, _ => rfl | 6, _, _ => rfl | 7, _, _ => rfl | 8, _, _ => rfl | 9, _, _ => rfl | 10, _, _ => rfl | 11, _, _ => rfl | 12, _, _ => rfl | 13, _, _ => rfl
  | 14, _, _ => rfl | 15, _, _ => rfl | 16, _, _ => rfl | i + 17, _, h => exact absurd h (by omega)
theorem names_far (j : Nat) (l : List (Lit × DataW Unit)) (hl : (l.all fun p => match p.1 with | .int .u8 a => decide (a < 17) | _ => false) = true) : (DataW.map l).atKey (.int .u8 ((j + 17 : Nat) : Int)) (.lit (.string [])) = .lit (.string []) := by
  have hf : l.find? (fun p => p.1.sameKey (.int .u8 ((j + 17 : Nat) : Int))) = none := by
    rw [List.find?_eq_none]
    intro p hp
    have := List.all_eq_true.1 hl p hp
    obtain ⟨k, v⟩ := p
    split at this
    · rename_i a e
      have e' : k = .int .u8 a := e
      subst e'
      have := of_decide_eq_true this
      simp [Lit.sameKey]; omega
    · cases this
  simp only [DataW.atKey, hf]
theorem namesD_at : ∀ (k : UInt8), (Rows.laid_herd_record_names : DataW Unit).atKey (.int .u8 k.toNat) (.lit (.string [])) = .lit (.string (nameOf k.toNat)) := by
  intro k
  obtain ⟨j, hj⟩ : ∃ j, j = k.toNat := ⟨_, rfl⟩
  rw [← hj]
  match j with
  | 0 => rfl | 1 => rfl | 2 => rfl | 3 => rfl | 4 => rfl | 5 => rfl | 6 => rfl | 7 => rfl | 8 => rfl | 9 => rfl | 10 => rfl | 11 => rfl | 12 => rfl | 13 => rfl | 14 => rfl | 15 => rfl | 16 => rfl
  | j + 17 =>
    have hn : nameOf (j + 17) = [] := by rw [nameOf, List.getD_eq_getElem?_getD, List.getElem?_eq_none (by simp [nameL])]; rfl
    rw [hn]
    exact names_far j _ rfl
theorem rc_laid {W : World} (h : laidMetH Tryd.prog [("herd/record.many", Rows.laid_herd_record_many), ("herd/record.names", Rows.laid_herd_record_names)] W) : (∃ m, (Fact.many m).p (fun _ => False) W) ∧ ∃ bn, (Fact.names bn).p (fun _ => False) W := by
  rw [MakeChecks.laidMetH_plain _ _ _ (by kernel_rfl)] at h
  obtain ⟨ps, hv, _, _⟩ := h
  have om := OpensX.array (n := 17) (s := 1) Tryd.underlying47 (by kernel_rfl) (by kernel_rfl) (OpensX.slice Tryd.underlying22 1 (by kernel_rfl) (OpensX.int Tryd.underlying3) (fun _ => rfl)) (fun _ => rfl)
  obtain ⟨⟨y, ⟨hn, Ds, hD, hA⟩, h1, h2⟩, q, hv2⟩ := laid_rd hv (show Tryd.prog.globalNamed "herd/record.many" = some 0 by kernel_rfl) (show (Tryd.prog.globals[0]?).map (·.type) = some 47 by kernel_rfl) om
  have os := OpensX.mapS (P := Tryd.prog) Tryd.underlying53 Tryd.underlying9
  obtain ⟨⟨z, hz, g1, g2⟩, _⟩ := laid_rd hv2 (show Tryd.prog.globalNamed "herd/record.names" = some 1 by kernel_rfl) (show (Tryd.prog.globals[1]?).map (·.type) = some 53 by kernel_rfl) os
  constructor
  · have hd : ∀ i, 1 ≤ i → (h : i < 17) → (y[i]'(by omega)).2 = [(((bndAt i).1 : Nat) : Int), (((bndAt i).2 : Nat) : Int)] := fun i hi h => pair_of (hA.2 i _ _ (List.getElem?_eq_getElem (by omega)) (manyD_at hi h Ds hD))
    have h0 : y[0]'(by omega) = ((none, 0), []) := by
      have hD0 : Ds[0]? = some .nil := by
        unfold Rows.laid_herd_record_many at hD
        injection hD with hD
        subst hD; rfl
      rcases hA.2 0 _ _ (List.getElem?_eq_getElem (by omega)) hD0 with ⟨_, h⟩ | ⟨_, _, h, _⟩
      · exact h
      · cases h
    have hy : ∀ i, (h : i < 17) → (y.getD i ((none, 0), [])) = y[i]'(by omega) := fun i h => by rw [List.getD_eq_getElem?_getD, List.getElem?_eq_getElem (by omega)]; rfl
    refine ⟨fun i => (y.getD i ((none, 0), [])).1, ?_, fun i hi hi2 => ?_⟩
    · have e : y.flatMap (fun z => [Value.slice z.1.1 z.2.length z.1.2]) = manyV fun i => (y.getD i ((none, 0), [])).1 := by
        rw [flatMap_one]
        refine List.ext_getElem (by simp [manyV, hn]) fun i g1 g2 => ?_
        have hi : i < 17 := by simp [manyV] at g2; exact g2
        simp only [manyV, List.getElem_map, List.getElem_range]
        split
        · rename_i e; subst e; rw [h0]; rfl
        · rw [hy i hi, hd i (by omega) hi]; rfl
      rw [← e]; exact h1
    · have := h2 (.rd (y[i]'(by omega)).1.1 ((y[i]'(by omega)).2.flatMap fun n => [Value.int .i64 n])) (List.mem_flatMap.2 ⟨y[i]'(by omega), List.getElem_mem _, List.mem_cons_self ..⟩)
      show (Fact.rd (y.getD i ((none, 0), [])).1.1 (bndV i)).p (fun _ => False) W
      rw [hy i hi2]
      rw [hd i hi hi2] at this
      exact this
  · cases z with
    | none => unfold Rows.laid_herd_record_names at hz; cases hz
    | some z =>
      obtain ⟨b, D⟩ := z
      have hz' : D = Rows.laid_herd_record_names := hz
      subst hz'
      obtain ⟨⟨q1, q2⟩, n, es, clock, q3, q4⟩ := g2 _ (List.mem_cons_self ..)
      refine ⟨b, g1, ⟨q1, q2⟩, _, q3, fun W' hW k => ?_⟩
      exact mapD_look Tryd.underlying53 Tryd.underlying5 Tryd.underlying9 (fun w => by kernel_rfl) ⟨es, clock, hW, q4⟩ (by have := k.toNat_lt; simp [Lit.wf, IntKind.min, IntKind.max, IntKind.signed, IntKind.bits]; omega) _ (namesD_at k)
end Go.Proofs.YtljgaglbgkejhaaDoor
