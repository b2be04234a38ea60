/-
What package-level variables hold, by the datum that they read as: slices, maps of strings.
-/
import Derived.Test.YtcppphgpbaablaaDoorOpenX
import Derived.Maps.StringElems
import Derived.Maps.OwnSet
import Derived.Deep.Slices
namespace Go.Proofs.YtcppphgpbaablaaDoor
set_option linter.unusedVariables false
open Go.RowKit Go.ChangeShapes Go.WideShapes Go.Joins
section
variable {P : Program} {t e : TypeId} {α β : Type} {cs : α → List Value} {φ : α → List Fact} {dt : α → DataW Unit → Prop}
theorem oflat_take {cs : α → List Value} {s : Nat} (hl : ∀ d, (cs d).length = s) (ds : List α) : (ds.flatMap cs).length = ds.length * s := by
  induction ds with
  | nil => simp
  | cons y ds ih => simp only [List.flatMap_cons, List.length_append, List.length_cons, hl, ih, Nat.add_mul]; omega
theorem OpensX.slice (ht : P.underlying t = some (.slice e)) (s : Nat) (hs : P.cellsOf e = s) (h : OpensX P e cs φ dt) (hl : ∀ d, (cs d).length = s) :
    OpensX P t (fun z : (Option Addr × Nat) × List α => [.slice z.1.1 z.2.length z.1.2]) (fun z => .rd z.1.1 (z.2.flatMap cs) :: z.2.flatMap φ)
      (fun z D => (D = .nil ∧ z = ((none, 0), [])) ∨ ∃ Ds E, D = .slice Ds E ∧ All2 dt z.2 Ds ∧ z.1.1.isNone = false) := fun w fuel l x hx => by
  rcases Go.Deep.open_slice ht hx with ⟨rfl, rfl⟩ | ⟨a, len, cap, m, n, D, Pl, rfl, _, hlc, hm, hmm, rfl, hel⟩
  · exact ⟨((none, 0), []), rfl, fun ψ hψ => by
      obtain rfl : ψ = _ := by simpa using hψ
      exact Fact.rd_nil _ _ _, .inl ⟨rfl, rfl⟩⟩
  · have hmc : m = cap := by simpa using hmm
    subst hmc
    have key : ∀ k, k ≤ len → ∃ ds : List α, ds.length = k ∧ (Fact.rd (some a) (ds.flatMap cs)).p (fun _ => False) w ∧ (∀ ψ ∈ ds.flatMap φ, ψ.p (fun _ => False) w) ∧ ∀ (i : Nat) d, ds[i]? = some d → dt d (D i) := by
      intro k
      induction k with
      | zero => exact fun _ => ⟨[], rfl, Fact.rd_nil _ _ _, by simp, by simp⟩
      | succ k ih =>
        intro hk
        obtain ⟨ds, h1, h2, h3, h4⟩ := ih (by omega)
        obtain ⟨cs', g1, g2⟩ := hel k (by omega)
        obtain ⟨d, rfl, g3, g4⟩ := h w n cs' _ g2
        rw [hs] at g1
        obtain ⟨g5, g6⟩ := cells_at g1
        refine ⟨ds ++ [d], by simp [h1], fun j u hu => ?_, fun ψ hψ => ?_, fun i d' hd => ?_⟩
        · have hfl : (ds.flatMap cs).length = k * s := by rw [oflat_take hl, h1]
          rw [List.flatMap_append, List.flatMap_cons, List.flatMap_nil, List.append_nil] at hu
          by_cases hj : j < (ds.flatMap cs).length
          · rw [List.getElem?_append_left hj] at hu
            exact h2 j u hu
          · rw [List.getElem?_append_right (by omega), hfl] at hu
            have := g6 _ u hu
            rw [add_add, show k * s + (j - k * s) = j by omega] at this
            have hb := cell_lt this
            rw [add_block] at hb
            exact ⟨a, rfl, hb, id, this⟩
        · rw [List.flatMap_append] at hψ
          rcases List.mem_append.1 hψ with hψ | hψ
          · exact h3 ψ hψ
          · exact g3 ψ (by simpa using hψ)
        · by_cases hi : i < ds.length
          · rw [List.getElem?_append_left hi] at hd
            exact h4 i d' hd
          · rw [List.getElem?_append_right (by omega)] at hd
            have hi0 : i = k := by
              have := (List.getElem?_eq_some_iff.1 hd).1
              simp at this; omega
            subst hi0
            rw [h1, Nat.sub_self] at hd
            simp only [List.getElem?_cons_zero, Option.some.injEq] at hd
            subst hd
            exact g4
    obtain ⟨ds, h1, h2, h3, h4⟩ := key len (Nat.le_refl _)
    refine ⟨((some a, m), ds), by simp [h1], fun ψ hψ => ?_, .inr ⟨_, _, rfl, ⟨by simp [h1], fun i d D' hd hD => ?_⟩, rfl⟩⟩
    · rcases List.mem_cons.1 hψ with rfl | hψ
      · exact h2
      · exact h3 ψ hψ
    · rw [List.getElem?_map] at hD
      have hlt : i < len := by rw [← h1]; exact (List.getElem?_eq_some_iff.1 hd).1
      rw [List.getElem?_range hlt] at hD
      simp only [Option.map_some, Option.some.injEq] at hD
      subst hD
      exact h4 i d hd
/-- A map that reads as a datum. -/
def Fact.mapD (P : Program) (k e : TypeId) (b : Nat) (D : DataW Unit) : Fact := ⟨fun X W => (b < W.heap.size ∧ ¬ X b) ∧ ∃ n, W.ownsMap P k (plainElem P e) b n D,
  fun X X' W W' h hf hx => ⟨⟨Nat.lt_of_lt_of_le h.1.1 hf.size, fun hb => (hx _ hb).elim h.1.2 fun h5 => by have := h.1.1; omega⟩, by
    obtain ⟨n, es, clock, h1, h2⟩ := h.2
    exact ⟨n, es, clock, (hf.block b h.1.1 h.1.2).trans h1, h2⟩⟩⟩
theorem OpensX.mapS {k : TypeId} (ht : P.underlying t = some (.map k e)) (he : P.underlying e = some .string) :
    OpensX P t (fun z : Option (Nat × DataW Unit) => [.map (z.map (·.1))]) (fun z => match z with | none => [] | some z => [.mapD P k e z.1 z.2]) (fun z D => match z with | none => D = .nil | some z => z.2 = D) := fun w fuel l x hx => by
  rcases Go.WideElems.open_map ht hx with ⟨rfl, rfl⟩ | ⟨b, es, clock, n, rfl, rfl, hb, _, F, rfl⟩
  · exact ⟨none, rfl, by simp, rfl⟩
  · refine ⟨some (b, _), rfl, fun ψ hψ => ?_, rfl⟩
    obtain rfl : ψ = _ := by simpa using hψ
    exact ⟨⟨(Array.getElem?_eq_some_iff.1 hb).1, id⟩, es.size, World.ownsMap_of_fit hb F fun y _ z hz => Go.elemAt_plainElem_string he hz⟩
/-- What is looked up in it. -/
theorem mapD_look {k : TypeId} {q : IntKind} {b : Nat} {D : DataW Unit} {w : World} (ht : P.underlying t = some (.map k e)) (hk : P.underlying k = some (.int q)) (he : P.underlying e = some .string) (hz : ∀ w, (zeroValue e).run P w = .ok (.string ⟨#[]⟩) w) {n : Nat} (h : w.ownsMap P k (plainElem P e) b n D) {a : Int}
    (hw : (Lit.int q a).wf = true) (s : List UInt8) (hs : D.atKey (.int q a) (.lit (.string [])) = .lit (.string s)) : (Instr.lookup t (.map (some b)) (.int q a) false).run P w = .ok (.string ⟨s.toArray⟩) w := by
  obtain ⟨v, ps, hrun, hv⟩ := h.lookup (Go.Maps.int_keyed hk) ht (hz w) (plainElem_string he (by decide)) (Go.Maps.keyOf_int_mk hk hw)
  obtain ⟨s', rfl, h2, _⟩ := Go.plainElem_string_inv he hv
  rw [hrun]
  have h3 : D.atKey (.int q a) (.lit (.string [])) = .lit (.string s'.data.toList) := (Prod.mk.inj h2).1
  rw [hs] at h3
  simp only [DataW.lit.injEq, Lit.string.injEq] at h3
  rw [h3]
end
end Go.Proofs.YtcppphgpbaablaaDoor
