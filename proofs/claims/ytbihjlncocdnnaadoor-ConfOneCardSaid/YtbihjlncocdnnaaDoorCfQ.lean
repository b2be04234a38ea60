/-
Groups and their rows, plainly.
-/
import Derived.Test.YtbihjlncocdnnaaDoorCfP
namespace Go.Proofs.YtbihjlncocdnnaaDoor
set_option linter.unusedVariables false
theorem row_len {c : Cf} (h : c.ok = true) : c.rowN.length = 14 + c.ms.length := by rw [Cf.rowN, if_pos h]; simp [Cf.nums]; omega
theorem row_no {c : Cf} (h : ¬ c.ok = true) : c.rowN = [] := if_neg h
theorem raw_row {c : Cf} (h : c.ok = true) : cfRaw c.rowN = c := by
  rw [Cf.rowN, if_pos h]
  obtain ⟨a1, a2, a3, a4, a5, a6, a7, a8, a9, a10, a11, a12, a13, a14, a15⟩ := c
  cases a14 <;> simp [cfRaw, Cf.nums, Cf.skN]
theorem row_raw {c : Cf} (h : c.ok = true) : rawOk c.rowN = true := by
  have h1 := row_len h
  have h2 := raw_row h
  simp only [rawOk, Bool.and_eq_true, decide_eq_true_eq, h2]
  refine ⟨by omega, ?_, h⟩
  rw [Cf.rowN, if_pos h]
  obtain ⟨a1, a2, a3, a4, a5, a6, a7, a8, a9, a10, a11, a12, a13, a14, a15⟩ := c
  cases a14 <;> simp [Cf.nums, Cf.skN, inB]
theorem of_row {c : Cf} (h : c.ok = true) : cfOf c.rowN = c := by rw [cfOf, if_pos (row_raw h), raw_row h]
theorem ofE_row {c : Cf} (h : c.ok = true) : cfE c.rowN = 0 := if_pos (row_raw h)
theorem raw_ok {l : List Int} (h : rawOk l = true) : 13 < l.length ∧ inB (l.getD 13 0) (0, 1) = true ∧ (cfRaw l).ok = true := by
  simpa only [rawOk, Bool.and_eq_true, decide_eq_true_eq] using h
theorem row_of {l : List Int} (h : rawOk l = true) : (cfOf l).rowN = l := by
  obtain ⟨h1, h2, h3⟩ := raw_ok h
  rw [cfOf, if_pos h, Cf.rowN, if_pos h3]
  have h4 := inB_iff.1 h2
  match l, h1 with
  | a0 :: a1 :: a2 :: a3 :: a4 :: a5 :: a6 :: a7 :: a8 :: a9 :: a10 :: a11 :: a12 :: a13 :: r, _ =>
    have h5 : a13 = 0 ∨ a13 = 1 := by
      have : (a0 :: a1 :: a2 :: a3 :: a4 :: a5 :: a6 :: a7 :: a8 :: a9 :: a10 :: a11 :: a12 :: a13 :: r).getD 13 0 = a13 := rfl
      rw [this] at h4
      simp only at h4
      omega
    rcases h5 with rfl | rfl <;> simp [cfRaw, Cf.nums, Cf.skN]
theorem of_ok {l : List Int} (h : rawOk l = true) : (cfOf l).ok = true := by rw [cfOf, if_pos h]; exact (raw_ok h).2.2
theorem of_no {l : List Int} (h : ¬ rawOk l = true) : cfOf l = Cf.zero := if_neg h
theorem ofE_0 {l : List Int} (h : cfE l = 0) : rawOk l = true := by
  unfold cfE at h
  split at h
  · assumption
  · cases h
theorem ofE_70 {l : List Int} (h : cfE l ≠ 0) : ¬ rawOk l = true := fun h1 => h (if_pos h1)
theorem cfOf_ms (l : List Int) : (cfOf l).ms.length ≤ l.length := by
  unfold cfOf
  split
  · simp [cfRaw]
  · simp [Cf.zero]
theorem row_inj {c d : Cf} (hc : c.ok = true) (hd : d.ok = true) : c.rowN = d.rowN ↔ c = d := by
  constructor
  · intro h
    rw [← of_row hc, ← of_row hd, h]
  · rintro rfl; rfl
theorem chk_0 {c : Cf} (h : c.chk = 0) : c.ok = true := by
  by_cases h1 : c.ok = true
  · exact h1
  · rw [c.chk_no h1] at h; cases h
theorem chk_70 {c : Cf} (h : c.chk ≠ 0) : ¬ c.ok = true := fun h1 => h (c.chk_ok h1)
theorem fl_facts {c : Cf} (h : c.ok = true) : c.d * c.mn ≤ 100 * c.fl ∧ 100 * (c.fl - 1) < c.d * c.mn ∧ 0 ≤ c.fl ∧ c.fl ≤ c.d ∧ c.fl ≤ 6 ∧ 0 ≤ c.d * c.mn ∧ c.d * c.mn ≤ 600 := by
  have h1 := Cf.in_d (Cf.ok_f h)
  have h2 := Cf.in_mn (Cf.ok_f h)
  have h3 := dm_le h1 h2
  have h4 : c.d * c.mn ≤ c.d * 100 := Int.mul_le_mul_of_nonneg_left h2.2 h1.1
  unfold Cf.fl
  omega
end Go.Proofs.YtbihjlncocdnnaaDoor
