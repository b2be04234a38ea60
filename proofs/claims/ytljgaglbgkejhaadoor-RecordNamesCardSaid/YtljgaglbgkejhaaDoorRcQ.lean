/-
Plain laws of records.
-/
import Derived.Test.YtljgaglbgkejhaaDoorRcP
namespace Go.Proofs.YtljgaglbgkejhaaDoor
set_option linter.unusedVariables false
open Go.RowKit
theorem rc_fine {r : Rc} (h : r.ok = true) : ∀ n ∈ r.nums, fineN n = true := (rowOk_fine (rc_rowOk h)).2
theorem rc_raw {r : Rc} (h : r.ok = true) : rcRaw (r.nums.map Int.toNat) = r := by
  have h1 := rc_fine h
  obtain ⟨k, l⟩ := r
  simp only [Rc.nums, List.map_cons, rcRaw, List.getD_cons_zero, List.drop_one, List.tail_cons, List.map_map]
  congr 1
  · simp
  · conv => rhs; rw [← List.map_id l]
    refine List.map_congr_left fun n hn => ?_
    have := h1 n (List.mem_cons_of_mem _ hn)
    simp only [fineN, decide_eq_true_eq] at this
    simp; omega
theorem rc_take {r : Rc} (h : r.ok = true) (b : List UInt8) : takeRowN (r.bytes ++ b) = (r.nums.map Int.toNat, b, 0) := by
  rw [Rc.bytes, if_pos h]
  exact takeRow_put (rc_rowOk h) b
theorem rc_take0 {r : Rc} (h : r.ok = true) : takeRowN r.bytes = (r.nums.map Int.toNat, [], 0) := by
  have := rc_take h []
  rwa [List.append_nil] at this
theorem rc_head {r : Rc} (h : r.ok = true) : (r.nums.map Int.toNat).getD 0 0 < 17 := by
  have := Rc.ok_len h
  simp [Rc.nums]; omega
theorem rcOf_bytes {r : Rc} (h : r.ok = true) : rcOf r.bytes = r ∧ rcE r.bytes = 0 := by
  have hg : rcGood (takeRowN r.bytes) = true := by
    rw [rc_take0 h]
    simp only [rcGood, rc_raw h, h]
    have := rc_head h
    simp only [List.length_map, Bool.and_true, Bool.and_eq_true, decide_eq_true_eq, List.length_nil, and_self, true_and]
    exact ⟨by simp [Rc.nums], this⟩
  refine ⟨?_, if_pos hg⟩
  rw [rcOf, if_pos hg, rc_take0 h]
  exact rc_raw h
theorem rcE_more {r : Rc} (h : r.ok = true) (y : UInt8) : rcE (r.bytes ++ [y]) = 11 := by
  refine if_neg ?_
  rw [rc_take h]
  simp [rcGood]
theorem rcE_cut {r : Rc} (h : r.ok = true) : rcE r.bytes.dropLast = 11 := by
  refine if_neg ?_
  have := takeRow_cut (rc_rowOk h)
  rw [Rc.bytes, if_pos h]
  simp [rcGood, this]
theorem putB_pos (n : Int) : 0 < (putB n).length := List.length_pos_iff.2 (putB_ne n)
theorem bytes_two {r : Rc} (h : r.ok = true) : 2 ≤ r.bytes.length := by
  rw [Rc.bytes, if_pos h, rowsB, Rc.nums, List.flatMap_cons, List.length_append, List.length_append]
  have h1 := putB_pos (((r.k.toNat : Int) :: r.l).length)
  have h2 := putB_pos (r.k.toNat : Int)
  omega
theorem bytes_le {r : Rc} : r.bytes.length ≤ 1000 := by
  by_cases h : r.ok = true
  · have hl := Rc.ok_len h
    rw [Rc.bytes, if_pos h, rowsB, List.length_append]
    have h1 := putB_len (r.nums.length)
    have h2 := flat_len r.nums
    have h3 : r.nums.length = r.l.length + 1 := rfl
    omega
  · rw [Rc.bytes, if_neg h]; simp
theorem rc_good {b : List UInt8} (h : rcE b = 0) : rcGood (takeRowN b) = true := by
  unfold rcE at h
  split at h
  · assumption
  · simp at h
theorem rcE_or (b : List UInt8) : rcE b = 0 ∨ (rcE b = 11 ∧ rcOf b = Rc.zero) := by
  unfold rcE rcOf
  split
  · exact .inl rfl
  · exact .inr ⟨rfl, rfl⟩
theorem rc_only {b : List UInt8} (h : rcE b = 0) : (rcOf b).ok = true ∧ (rcOf b).bytes = b := by
  have hg := rc_good h
  have hof : rcOf b = rcRaw (takeRowN b).1 := if_pos hg
  simp only [rcGood, Bool.and_eq_true, decide_eq_true_eq] at hg
  obtain ⟨⟨h0, h1⟩, ⟨h2, h3⟩, h4⟩ := hg
  rw [hof]
  refine ⟨h4, ?_⟩
  have h5 := takeRow_only (b := b) (l := (takeRowN b).1) (r := (takeRowN b).2.1) (by rw [← h0])
  rw [List.eq_nil_of_length_eq_zero h1, List.append_nil] at h5
  have hn : (rcRaw (takeRowN b).1).nums = (takeRowN b).1.map Int.ofNat := by
    cases hl : (takeRowN b).1 with
    | nil => rw [hl] at h2; simp at h2
    | cons x l =>
      rw [hl] at h3
      simp only [List.getD_cons_zero] at h3
      have := u8_of (x := x) (by omega)
      simp only [Rc.nums, rcRaw, List.getD_cons_zero, this, List.drop_one, List.tail_cons, List.map_cons]
      rfl
  rw [Rc.bytes, if_pos h4, hn]
  exact h5.2
theorem take_app {α : Type} {x y : List α} (h : x.take (min x.length y.length) = y.take (min x.length y.length)) : (∃ z, y = x ++ z) ∨ ∃ z, x = y ++ z := by
  rcases Nat.le_total x.length y.length with hl | hl
  · rw [Nat.min_eq_left hl, List.take_length] at h
    exact .inl ⟨y.drop x.length, by conv => lhs; rw [← List.take_append_drop x.length y, ← h]⟩
  · rw [Nat.min_eq_right hl, List.take_length] at h
    exact .inr ⟨x.drop y.length, by conv => lhs; rw [← List.take_append_drop y.length x, h]⟩
theorem rc_pre {r s : Rc} (hr : r.ok = true) (hs : s.ok = true) {z : List UInt8} (h : s.bytes = r.bytes ++ z) : r = s := by
  have h1 := rc_take0 hs
  rw [h, rc_take hr] at h1
  rw [← rc_raw hr, ← rc_raw hs, (Prod.mk.inj h1).1]
theorem rc_apart {r s : Rc} (hr : r.ok = true) (hs : s.ok = true) : r.bytes.take (min r.bytes.length s.bytes.length) = s.bytes.take (min r.bytes.length s.bytes.length) ↔ r = s := by
  refine ⟨fun h => ?_, fun h => by rw [h]⟩
  rcases take_app h with ⟨z, hz⟩ | ⟨z, hz⟩
  · exact rc_pre hr hs hz
  · exact (rc_pre hs hr hz).symm
theorem bnd_same : ∀ {k : Nat}, k ≠ 2 → (bndAt k).1 = (bndAt k).2
  | 0, _ => rfl | 1, _ => rfl | 2, h => (h rfl).elim | 3, _ => rfl | 4, _ => rfl | 5, _ => rfl | 6, _ => rfl | 7, _ => rfl | 8, _ => rfl | 9, _ => rfl | 10, _ => rfl | 11, _ => rfl | 12, _ => rfl | 13, _ => rfl | 14, _ => rfl | 15, _ => rfl | 16, _ => rfl
  | k + 17, _ => rfl
theorem rc_no_len {k : UInt8} {l : List Int} (h : okLen k.toNat l.length = false) : (⟨k, l⟩ : Rc).ok = false := by rw [Rc.ok, h]; rfl
theorem rc_len_no {r : Rc} (h : r.ok = true) (h2 : r.k.toNat ≠ 2) {l : List Int} (hl : l.length ≠ r.l.length) : (⟨r.k, l⟩ : Rc).ok = false := by
  refine rc_no_len ?_
  rw [Bool.eq_false_iff, ne_eq, okLen_iff]
  have h1 := okLen_iff.1 (Rc.ok_iff.1 h).1
  have := bnd_same h2
  omega
theorem rc_k0_no (l : List Int) : (⟨0, l⟩ : Rc).ok = false := rc_no_len (by rw [Bool.eq_false_iff, ne_eq, okLen_iff]; simp)
theorem rc_k17_no (l : List Int) : (⟨17, l⟩ : Rc).ok = false := rc_no_len (by rw [Bool.eq_false_iff, ne_eq, okLen_iff]; simp)
theorem rc_set_no {k : UInt8} {l : List Int} {i : Nat} {n : Int} (hi : i < l.length) (hn : fineN n = false) : (⟨k, l.set i n⟩ : Rc).ok = false := by
  rw [Bool.eq_false_iff]
  intro h
  have := (Rc.ok_iff.1 h).2 n (List.mem_set hi n)
  rw [hn] at this; cases this
theorem name_pos : ∀ {k : Nat}, 1 ≤ k → k < 17 → nameOf k ≠ []
  | 0, h, _ => by omega | 1, _, _ => by decide | 2, _, _ => by decide | 3, _, _ => by decide | 4, _, _ => by decide | 5, _, _ => by decide | 6, _, _ => by decide | 7, _, _ => by decide | 8, _, _ => by decide | 9, _, _ => by decide | 10, _, _ => by decide
  | 11, _, _ => by decide | 12, _, _ => by decide | 13, _, _ => by decide | 14, _, _ => by decide | 15, _, _ => by decide | 16, _, _ => by decide
  | k + 17, _, h => by omega
theorem name_none {k : Nat} (h : ¬ (1 ≤ k ∧ k < 17)) : nameOf k = [] := by
  by_cases h0 : k = 0
  · subst h0; rfl
  · rw [nameOf, List.getD_eq_getElem?_getD, List.getElem?_eq_none (by simp [nameL]; omega)]; rfl
theorem name_inj16 : ∀ a, a < 17 → ∀ b, b < 17 → 1 ≤ a → nameOf a = nameOf b → a = b := by decide
theorem name_inj {a b : Nat} (h : 1 ≤ a ∧ a < 17) : nameOf a = nameOf b ↔ a = b := by
  refine ⟨fun hn => ?_, fun h => by rw [h]⟩
  by_cases hb : b < 17
  · exact name_inj16 a h.2 b hb h.1 hn
  · rw [name_none (k := b) (by omega)] at hn
    exact absurd hn (name_pos h.1 h.2)
end Go.Proofs.YtljgaglbgkejhaaDoor
