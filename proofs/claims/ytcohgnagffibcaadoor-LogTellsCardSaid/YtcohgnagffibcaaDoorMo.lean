/-
Texts of other layers, in one: LRo, LDo, LgO.
-/
import Derived.Test.YtcohgnagffibcaaDoorOpenY
import Derived.Test.YtcohgnagffibcaaDoorMr
import Derived.Test.YtcohgnagffibcaaDoorRows
import Derived.Test.YtcohgnagffibcaaDoorOpenG
import Derived.Test.YtcohgnagffibcaaDoorMd
import Derived.Test.YtcohgnagffibcaaDoorTy
namespace Go.Proofs.YtcohgnagffibcaaDoor
set_option linter.unusedVariables false
set_option maxRecDepth 100000
open Go.RowKit Go.ChangeShapes
theorem opens_rec : Opens Tryd.prog 43 (fun z : AdC × Rc => z.2.cs z.1) (fun z => [.rd z.1.1 (i64s z.2.l)]) (fun z => z.2.l.length ≤ z.1.2) :=
  (Opens.struct Tryd.underlying43 (by kernel_rfl) (OpensF.cons (s := 1) (by kernel_rfl) rfl (Opens.u8 Tryd.underlying5) (OpensF.cons (s := 1) (by kernel_rfl) rfl (Opens.ints Tryd.underlying41 Tryd.underlying3 (by kernel_rfl)) OpensF.nil))).map
    (fun (d : UInt8 × (AdC × List Int) × Unit) => (d.2.1.1, ⟨d.1, d.2.1.2⟩)) (fun _ _ => rfl) (fun _ _ _ h => by simpa using h) (fun _ h => h.2.1.2.1)
theorem open_rec {H : Type} {enc : TypeId × Value → H} {w : World} {r : Reach} {b0 : Nat} {v : Value} {y : DataW H} {p : List MemPlace} (hv : Value.okWide Tryd.prog w r b0 43 v) (h : DataW.Trod enc Tryd.prog w 0 (fun _ => true) true 43 v y p) :
    ∃ (x : AdC) (c : Rc), v = c.v x ∧ (Fact.rd x.1 (i64s c.l)).p (fun _ => False) w ∧ c.l.length ≤ x.2 := by
  obtain ⟨⟨x, c⟩, h1, h2, h3⟩ := open_struct Tryd.underlying43 opens_rec hv h
  exact ⟨x, c, h1, h2 _ (List.mem_cons_self ..), h3⟩
theorem opens_recs : Opens Tryd.prog 25 (fun z : AdC × Rcs => [.slice z.1.1 z.2.length z.1.2]) (fun z => [.rd z.1.1 (rcsV z.2), .rcs z.2]) (fun z => z.2.length ≤ z.1.2) :=
  (Opens.slice Tryd.underlying25 2 (by kernel_rfl) opens_rec (fun _ => rfl)).map id (fun _ _ => rfl) (fun d w _ h ψ hψ => by
    simp only [List.mem_cons, List.not_mem_nil, or_false] at hψ
    rcases hψ with rfl | rfl
    · exact h _ (List.mem_cons_self ..)
    · intro z hz
      exact h _ (List.mem_cons_of_mem _ (List.mem_flatMap.2 ⟨z, hz, List.mem_cons_self ..⟩))) (fun _ h => h.2.1)
theorem open_recs {H : Type} {enc : TypeId × Value → H} {w : World} {r : Reach} {b0 : Nat} {v : Value} {y : DataW H} {p : List MemPlace} (hv : Value.okWide Tryd.prog w r b0 25 v) (h : DataW.Trod enc Tryd.prog w 0 (fun _ => true) true 25 v y p) :
    ∃ (x : AdC) (l : Rcs), v = .slice x.1 l.length x.2 ∧ (Fact.rd x.1 (rcsV l)).p (fun _ => False) w ∧ (Fact.rcs l).p (fun _ => False) w := by
  obtain ⟨⟨x, l⟩, h1, h2, h3⟩ := open_slice' Tryd.underlying25 opens_recs hv h
  exact ⟨x, l, (List.cons.inj h1).1, h2 _ (List.mem_cons_self ..), h2 _ (List.mem_cons_of_mem _ (List.mem_cons_self ..))⟩
theorem open_bytes {H : Type} {enc : TypeId × Value → H} {w : World} {r : Reach} {b0 : Nat} {v : Value} {y : DataW H} {p : List MemPlace} (hv : Value.okWide Tryd.prog w r b0 22 v) (h : DataW.Trod enc Tryd.prog w 0 (fun _ => true) true 22 v y p) :
    ∃ (x : AdC) (l : List UInt8), v = .slice x.1 l.length x.2 ∧ (Fact.rd x.1 (u8s l)).p (fun _ => False) w ∧ l.length ≤ x.2 := by
  obtain ⟨⟨x, l⟩, h1, h2, h3⟩ := open_slice' Tryd.underlying22 (Opens.bytes Tryd.underlying22 Tryd.underlying5 (by kernel_rfl)) hv h
  exact ⟨x, l, (List.cons.inj h1).1, h2 _ (List.mem_cons_self ..), h3.2⟩
theorem open_nums {H : Type} {enc : TypeId × Value → H} {w : World} {r : Reach} {b0 : Nat} {v : Value} {y : DataW H} {p : List MemPlace} (hv : Value.okWide Tryd.prog w r b0 41 v) (h : DataW.Trod enc Tryd.prog w 0 (fun _ => true) true 41 v y p) :
    ∃ (x : AdC) (l : List Int), v = .slice x.1 l.length x.2 ∧ (Fact.rd x.1 (i64s l)).p (fun _ => False) w := by
  obtain ⟨⟨x, l⟩, h1, h2, h3⟩ := open_slice' Tryd.underlying41 (Opens.ints Tryd.underlying41 Tryd.underlying3 (by kernel_rfl)) hv h
  exact ⟨x, l, (List.cons.inj h1).1, h2 _ (List.mem_cons_self ..)⟩
theorem pair_of {z : AdC × List Int} {a b : Int} (h : ((DataW.slice [.lit (.int .i64 a), .lit (.int .i64 b)] [] : DataW Unit) = .nil ∧ z = ((none, 0), [])) ∨ ∃ Ds E, (DataW.slice [.lit (.int .i64 a), .lit (.int .i64 b)] [] : DataW Unit) = .slice Ds E ∧ All2 (fun n D => D = .lit (.int .i64 n)) z.2 Ds ∧ z.1.1.isNone = false) : z.2 = [a, b] := by
  rcases h with ⟨h, _⟩ | ⟨Ds, E, h, hA, _⟩
  · cases h
  · simp only [DataW.slice.injEq] at h
    obtain ⟨rfl, _⟩ := h
    obtain ⟨x, l⟩ := z
    match l, hA with
    | [], hA => exact absurd hA.1 (by simp)
    | [p], hA => exact absurd hA.1 (by simp)
    | [p, q], hA =>
      obtain ⟨h1, hA⟩ := hA.head
      obtain ⟨h2, _⟩ := hA.head
      simp only [DataW.lit.injEq, Lit.int.injEq, true_and] at h1 h2
      rw [h1, h2]
    | p :: q :: s :: l, hA => exact absurd hA.1 (by simp)
theorem manyD_at : ∀ {i : Nat}, 1 ≤ i → i < 17 → ∀ Ds : List (DataW Unit), (Rows.laid_herd_record_many : DataW Unit) = .agg Ds → Ds[i]? = some (.slice [.lit (.int .i64 (((bndAt i).1 : Nat) : Int)), .lit (.int .i64 (((bndAt i).2 : Nat) : Int))] []) := by
  intro i h1 h2 Ds h
  unfold Rows.laid_herd_record_many at h
  injection h with h
  subst h
  match i, h1, h2 with
  | 1, _, _ => rfl | 2, _, _ => rfl | 3, _, _ => rfl | 4, _, _ => rfl | 5, _, _ => rfl | 6, _, _ => rfl | 7, _, _ => rfl | 8, _, _ => rfl | 9, _, _ => rfl | 10, _, _ => rfl | 11, _, _ => rfl | 12, _, _ => rfl | 13, _, _ => rfl
  | 14, _, _ => rfl | 15, _, _ => rfl | 16, _, _ => rfl | i + 17, _, h => exact absurd h (by omega)
end Go.Proofs.YtcohgnagffibcaaDoor
namespace Go.Proofs.YtcohgnagffibcaaDoor
set_option linter.unusedVariables false
set_option maxRecDepth 100000
open Go.RowKit Go.ChangeShapes
theorem opens_disk : Opens Tryd.prog 24 (fun z : OAd × Dk => z.2.cs z.1) (fun z => [.rd z.1.1 (u8s z.2.b)]) (fun z => z.2.b.length ≤ z.1.2) :=
  (Opens.struct Tryd.underlying24 (by kernel_rfl) (OpensF.cons (s := 1) (by kernel_rfl) rfl (Opens.bytes Tryd.underlying22 Tryd.underlying5 (by kernel_rfl))
    (OpensF.cons (s := 1) (by kernel_rfl) rfl (Opens.int Tryd.underlying3) (OpensF.cons (s := 1) (by kernel_rfl) rfl (Opens.int Tryd.underlying3) OpensF.nil)))).map
    (fun d => (d.1.1, ⟨d.1.2, d.2.1, d.2.2.1⟩)) (fun _ _ => rfl) (fun _ _ _ h => by simpa using h) (fun _ h => h.1.2)
theorem open_dk {H : Type} {enc : TypeId × Value → H} {w : World} {r : Reach} {b0 : Nat} {v : Value} {y : DataW H} {p : List MemPlace} (hv : Value.okWide Tryd.prog w r b0 24 v) (h : DataW.Trod enc Tryd.prog w 0 (fun _ => true) true 24 v y p) :
    ∃ (A : Option Addr) (c : Nat) (d : Dk), v = d.v (A, c) ∧ (Fact.rd A (u8s d.b)).p (fun _ => False) w ∧ d.b.length ≤ c := by
  obtain ⟨⟨⟨A, c⟩, d⟩, h1, h2, h3⟩ := open_struct Tryd.underlying24 opens_disk hv h
  exact ⟨A, c, d, h1, h2 _ (List.mem_cons_self ..), h3⟩
end Go.Proofs.YtcohgnagffibcaaDoor
namespace Go.Proofs.YtcohgnagffibcaaDoor
set_option linter.unusedVariables false
set_option maxRecDepth 100000
open Go.RowKit Go.ChangeShapes
theorem many_laid {W : World} (h : laidMetH Tryd.prog [("herd/record.many", Rows.laid_herd_record_many)] W) : ∃ m, (Fact.many m).p (fun _ => False) W := by
  rw [MakeChecks.laidMetH_plain _ _ _ (by kernel_rfl)] at h
  obtain ⟨ps, hv, _, _⟩ := h
  have om := OpensX.array (n := 17) (s := 1) Tryd.underlying91 (by kernel_rfl) (by kernel_rfl) (OpensX.slice Tryd.underlying41 1 (by kernel_rfl) (OpensX.int Tryd.underlying3) (fun _ => rfl)) (fun _ => rfl)
  obtain ⟨⟨y, ⟨hn, Ds, hD, hA⟩, h1, h2⟩, _⟩ := laid_rd hv (show Tryd.prog.globalNamed "herd/record.many" = some 0 by kernel_rfl) (show (Tryd.prog.globals[0]?).map (·.type) = some 91 by kernel_rfl) om
  have hd : ∀ i, 1 ≤ i → (h : i < 17) → (y[i]'(by omega)).2 = [(((bndAt i).1 : Nat) : Int), (((bndAt i).2 : Nat) : Int)] := fun i hi h => pair_of (hA.2 i _ _ (List.getElem?_eq_getElem (by omega)) (manyD_at hi h Ds hD))
  have h0 : y[0]'(by omega) = ((none, 0), []) := by
    have hD0 : Ds[0]? = some .nil := by
      unfold Rows.laid_herd_record_many at hD
      injection hD with hD
      subst hD; rfl
    rcases hA.2 0 _ _ (List.getElem?_eq_getElem (by omega)) hD0 with ⟨_, h⟩ | ⟨_, _, h, _⟩
    · exact h
    · cases h
  have hy : ∀ i, (h : i < 17) → (y.getD i ((none, 0), [])) = y[i]'(by omega) := fun i h => by rw [List.getD_eq_getElem?_getD, List.getElem?_eq_getElem (by omega)]; rfl
  refine ⟨fun i => (y.getD i ((none, 0), [])).1, ?_, fun i hi hi2 => ?_⟩
  · have e : y.flatMap (fun z => [Value.slice z.1.1 z.2.length z.1.2]) = manyV fun i => (y.getD i ((none, 0), [])).1 := by
      rw [flatMap_one]
      refine List.ext_getElem (by simp [manyV, hn]) fun i g1 g2 => ?_
      have hi : i < 17 := by simp [manyV] at g2; exact g2
      simp only [manyV, List.getElem_map, List.getElem_range]
      split
      · rename_i e; subst e; rw [h0]; rfl
      · rw [hy i hi, hd i (by omega) hi]; rfl
    rw [← e]; exact h1
  · have := h2 (.rd (y[i]'(by omega)).1.1 ((y[i]'(by omega)).2.flatMap fun n => [Value.int .i64 n])) (List.mem_flatMap.2 ⟨y[i]'(by omega), List.getElem_mem _, List.mem_cons_self ..⟩)
    show (Fact.rd (y.getD i ((none, 0), [])).1.1 (bndV i)).p (fun _ => False) W
    rw [hy i hi2]
    rw [hd i hi hi2] at this
    exact this
theorem open_disk {H : Type} {enc : TypeId × Value → H} {w : World} {r : Reach} {b0 : Nat} {v : Value} {y : DataW H} {p : List MemPlace} (hv : Value.okWide Tryd.prog w r b0 24 v) (h : DataW.Trod enc Tryd.prog w 0 (fun _ => true) true 24 v y p) :
    ∃ (x : AdC) (d : Dk), v = d.v x ∧ (Fact.rd x.1 (u8s d.b)).p (fun _ => False) w ∧ d.b.length ≤ x.2 := by
  obtain ⟨⟨x, d⟩, h1, h2, h3⟩ := open_struct Tryd.underlying24 opens_disk hv h
  exact ⟨x, d, h1, h2 _ (List.mem_cons_self ..), h3⟩
theorem open_recsC {H : Type} {enc : TypeId × Value → H} {w : World} {r : Reach} {b0 : Nat} {v : Value} {y : DataW H} {p : List MemPlace} (hv : Value.okWide Tryd.prog w r b0 25 v) (h : DataW.Trod enc Tryd.prog w 0 (fun _ => true) true 25 v y p) :
    ∃ (x : AdC) (l : Rcs), v = .slice x.1 l.length x.2 ∧ (Fact.rd x.1 (rcsV l)).p (fun _ => False) w ∧ (Fact.rcs l).p (fun _ => False) w ∧ l.length ≤ x.2 := by
  obtain ⟨⟨x, l⟩, h1, h2, h3⟩ := open_slice' Tryd.underlying25 opens_recs hv h
  exact ⟨x, l, (List.cons.inj h1).1, h2 _ (List.mem_cons_self ..), h2 _ (List.mem_cons_of_mem _ (List.mem_cons_self ..)), h3⟩
theorem open_u32 {H : Type} {enc : TypeId × Value → H} {w : World} {r : Reach} {b0 : Nat} {v : Value} {y : DataW H} {p : List MemPlace} (hv : Value.okWide Tryd.prog w r b0 40 v) (h : DataW.Trod enc Tryd.prog w 0 (fun _ => true) true 40 v y p) :
    ∃ n : Int, v = .int .u32 n := by
  obtain ⟨n, h1, _⟩ := open_int Tryd.underlying40 hv h
  exact ⟨n, h1⟩
end Go.Proofs.YtcohgnagffibcaaDoor
