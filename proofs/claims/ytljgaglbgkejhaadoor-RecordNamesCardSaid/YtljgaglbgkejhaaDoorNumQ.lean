/-
Plain laws of numbers put in bytes: what is put is taken; what is taken was put.
Conditions: none; no program in sight.
-/
import Derived.Test.YtljgaglbgkejhaaDoorNumP
namespace Go.Proofs.YtljgaglbgkejhaaDoor
set_option linter.unusedVariables false

theorem digs_fuel : ∀ f g n, n < 128 ^ f → n < 128 ^ g → 0 < f → 0 < g → digs f n = digs g n
  | 0, g, n, h, h', h1, h2 => by omega
  | f + 1, 0, n, h, h', h1, h2 => by omega
  | f + 1, g + 1, n, h, h', h1, h2 => by
    unfold digs
    split
    · rfl
    · rename_i hn
      have a1 : n / 128 < 128 ^ f := by rw [Nat.div_lt_iff_lt_mul (by omega)]; rw [Nat.pow_succ] at h; exact h
      have a2 : n / 128 < 128 ^ g := by rw [Nat.div_lt_iff_lt_mul (by omega)]; rw [Nat.pow_succ] at h'; exact h'
      have a3 : 0 < f := by
        rcases Nat.eq_zero_or_pos f with e | e
        · subst e; simp at a1; omega
        · exact e
      have a4 : 0 < g := by
        rcases Nat.eq_zero_or_pos g with e | e
        · subst e; simp at a2; omega
        · exact e
      rw [digs_fuel f g _ a1 a2 a3 a4]
theorem u8_of {x : Nat} (h : x < 256) : (UInt8.ofNat x).toNat = x := by rw [UInt8.toNat_ofNat']; omega

theorem split128 (q i : Nat) : q % 128 * 128 ^ i + q / 128 * 128 ^ (i + 1) = q * 128 ^ i := by
  rw [Nat.pow_succ, Nat.mul_comm (128 ^ i), ← Nat.mul_assoc, ← Nat.add_mul]
  congr 1
  omega
theorem take_put : ∀ (f i acc q : Nat) (b : List UInt8), q < 128 ^ f → 0 < f → i + dlen f q ≤ 6 → (0 < i → 0 < q) → acc + q * 128 ^ i ≤ 1099511627776 → takeZ i acc (digs f q ++ b) = (acc + q * 128 ^ i, b, 0)
  | 0, _, _, _, _, _, h, _, _, _ => by omega
  | f + 1, i, acc, q, b, h, _, hl, hi, hm => by
    by_cases h1 : q < 128
    · have e : digs (f + 1) q = [UInt8.ofNat q] := by unfold digs; rw [if_pos h1]
      rw [e, List.singleton_append]
      simp only [takeZ, u8_of (show q < 256 by omega), Nat.mod_eq_of_lt h1]
      rw [if_neg (by omega), if_neg (by omega)]
    · have e : digs (f + 1) q = UInt8.ofNat (q % 128 + 128) :: digs f (q / 128) := by
        conv => lhs; unfold digs
        rw [if_neg h1]
      have e2 : dlen (f + 1) q = 1 + dlen f (q / 128) := by
        conv => lhs; unfold dlen
        rw [if_neg h1]
      have a1 : q / 128 < 128 ^ f := by rw [Nat.div_lt_iff_lt_mul (by omega)]; rw [Nat.pow_succ] at h; exact h
      have a3 : 0 < f := by
        rcases Nat.eq_zero_or_pos f with e | e
        · subst e; simp at a1; omega
        · exact e
      have hd : 0 < dlen f (q / 128) := by
        obtain ⟨g, rfl⟩ : ∃ g, f = g + 1 := ⟨f - 1, by omega⟩
        exact dlen_pos g _
      have hb : q % 128 + 128 < 256 := by have := Nat.mod_lt q (show 128 > 0 by omega); omega
      have hs := split128 q i
      rw [e, List.cons_append]
      simp only [takeZ, u8_of hb]
      rw [if_pos (by omega), if_pos (by omega), show (q % 128 + 128) % 128 = q % 128 by omega,
        take_put f (i + 1) (acc + q % 128 * 128 ^ i) (q / 128) b a1 a3 (by omega) (fun _ => by omega) (by omega)]
      rw [Nat.add_assoc, hs]
theorem digs_ne (f n : Nat) (h : 0 < f) : digs f n ≠ [] := by
  intro he
  have := digs_len f n
  obtain ⟨g, rfl⟩ : ∃ g, f = g + 1 := ⟨f - 1, by omega⟩
  have := dlen_pos g n
  rw [he] at *
  simp at *
  omega
theorem take_cut : ∀ (f i acc q : Nat), q < 128 ^ f → 0 < f → i + dlen f q ≤ 6 → takeZ i acc (digs f q).dropLast = (0, [], 10)
  | 0, _, _, _, _, h, _ => by omega
  | f + 1, i, acc, q, h, _, hl => by
    by_cases h1 : q < 128
    · have e : digs (f + 1) q = [UInt8.ofNat q] := by unfold digs; rw [if_pos h1]
      rw [e]
      rfl
    · have e : digs (f + 1) q = UInt8.ofNat (q % 128 + 128) :: digs f (q / 128) := by
        conv => lhs; unfold digs
        rw [if_neg h1]
      have e2 : dlen (f + 1) q = 1 + dlen f (q / 128) := by
        conv => lhs; unfold dlen
        rw [if_neg h1]
      have a1 : q / 128 < 128 ^ f := by rw [Nat.div_lt_iff_lt_mul (by omega)]; rw [Nat.pow_succ] at h; exact h
      have a3 : 0 < f := by
        rcases Nat.eq_zero_or_pos f with e | e
        · subst e; simp at a1; omega
        · exact e
      have hd : 0 < dlen f (q / 128) := by
        obtain ⟨g, rfl⟩ : ∃ g, f = g + 1 := ⟨f - 1, by omega⟩
        exact dlen_pos g _
      have hb : q % 128 + 128 < 256 := by have := Nat.mod_lt q (show 128 > 0 by omega); omega
      rw [e, List.dropLast_cons_of_ne_nil (digs_ne _ _ a3)]
      simp only [takeZ, u8_of hb]
      rw [if_pos (by omega), if_pos (by omega)]
      exact take_cut f (i + 1) _ (q / 128) a1 a3 (by omega)
theorem take_only : ∀ (b : List UInt8) (i acc v : Nat) (r : List UInt8), i < 6 → takeZ i acc b = (v, r, 0) → ∃ f q, q < 128 ^ f ∧ 0 < f ∧ digs f q ++ r = b ∧ v = acc + q * 128 ^ i ∧ v ≤ 1099511627776 ∧ (0 < i → 0 < q)
  | [], i, acc, v, r, _, h => by simp [takeZ] at h
  | x :: b, i, acc, v, r, hi, h => by
    have hx := x.toNat_lt
    unfold takeZ at h
    split at h
    · rename_i h1
      split at h
      · rename_i h2
        obtain ⟨f, q, q1, q2, q3, q4, q5, q6⟩ := take_only b (i + 1) _ v r h2 h
        have hq := q6 (by omega)
        have hmod : x.toNat % 128 < 128 := Nat.mod_lt _ (by omega)
        have e1 : (x.toNat % 128 + q * 128) % 128 = x.toNat % 128 := by omega
        have e2 : (x.toNat % 128 + q * 128) / 128 = q := by omega
        refine ⟨f + 1, x.toNat % 128 + q * 128, by rw [Nat.pow_succ]; omega, by omega, ?_, ?_, q5, fun _ => by omega⟩
        · unfold digs
          rw [if_neg (by omega), e1, e2, List.cons_append, q3]
          congr 1
          apply UInt8.toNat_inj.1
          rw [u8_of (by omega)]
          omega
        · have hs := split128 (x.toNat % 128 + q * 128) i
          rw [e1, e2] at hs
          rw [q4, ← hs]
          omega
      · simp at h
    · rename_i h1
      split at h
      · simp at h
      · rename_i h2
        simp only [Prod.mk.injEq] at h
        have hm : x.toNat % 128 = x.toNat := Nat.mod_eq_of_lt (by omega)
        refine ⟨1, x.toNat, by simp; omega, by omega, ?_, ?_, by omega, fun h3 => by omega⟩
        · unfold digs
          rw [if_pos (by omega), List.singleton_append, h.2.1]
          congr 1
          apply UInt8.toNat_inj.1
          rw [u8_of (by omega)]
        · rw [← hm]; exact h.1.symm

/-- What was put is taken. -/
theorem takeN_put {n : Int} (h : fineN n = true) (b : List UInt8) : takeN (putB n ++ b) = (n.toNat, b, 0) := by
  have hf : 0 ≤ n ∧ n ≤ 1099511627776 := by simpa [fineN] using h
  have := take_put 10 0 0 n.toNat b (p128_10 _ (by omega)) (by omega) (by have := dlen6 n.toNat (by omega); omega) (fun h => by omega) (by simp; omega)
  simpa [takeN, putB] using this
theorem takeN_cut {n : Int} (h : fineN n = true) : takeN (putB n).dropLast = (0, [], 10) := by
  have hf : 0 ≤ n ∧ n ≤ 1099511627776 := by simpa [fineN] using h
  exact take_cut 10 0 0 n.toNat (p128_10 _ (by omega)) (by omega) (by have := dlen6 n.toNat (by omega); omega)
/-- What is taken was put. -/
theorem takeN_only {b r : List UInt8} {v : Nat} (h : takeN b = (v, r, 0)) : putB v ++ r = b ∧ v ≤ 1099511627776 := by
  obtain ⟨f, q, q1, q2, q3, q4, q5, _⟩ := take_only b 0 0 v r (by omega) h
  have e : v = q := by simpa using q4
  subst e
  refine ⟨?_, q5⟩
  rw [← q3, putB, Int.toNat_natCast, digs_fuel 10 f v (p128_10 _ q5) q1 (by omega) q2]
theorem putB_ne (n : Int) : putB n ≠ [] := digs_ne 10 _ (by omega)

/-- Rows. -/
theorem takeM_row : ∀ (l : List Int) (b : List UInt8), (∀ n ∈ l, fineN n = true) → takeM l.length (l.flatMap putB ++ b) = (l.map Int.toNat, b, 0)
  | [], b, _ => by simp [takeM]
  | n :: l, b, h => by
    have h1 := takeN_put (h n (by simp)) (l.flatMap putB ++ b)
    have h2 := takeM_row l b fun m hm => h m (by simp [hm])
    simp only [List.flatMap_cons, List.length_cons, List.append_assoc, takeM]
    rw [h1]
    simp [h2]
theorem rowOk_fine {l : List Int} (h : rowOk l = true) : l.length ≤ 40 ∧ ∀ n ∈ l, fineN n = true := by
  have ho : l.length ≤ 40 ∧ l.any (fun n => !fineN n) = false := by simpa only [rowOk, Bool.and_eq_true, decide_eq_true_eq, Bool.not_eq_true'] using h
  refine ⟨ho.1, fun n hn => ?_⟩
  have := List.any_eq_false.1 ho.2 n hn
  simpa using this
theorem fine_len {n : Nat} (h : n ≤ 40) : fineN (n : Int) = true := by simp [fineN]; omega
theorem takeRow_put {l : List Int} (h : rowOk l = true) (b : List UInt8) : takeRowN (rowsB l ++ b) = (l.map Int.toNat, b, 0) := by
  obtain ⟨h1, h2⟩ := rowOk_fine h
  have h3 := takeN_put (fine_len h1) (l.flatMap putB ++ b)
  unfold takeRowN rowsB
  rw [List.append_assoc, h3]
  simp only [Int.toNat_natCast, if_pos]
  rw [if_neg (by omega)]
  exact takeM_row l b h2
theorem takeM_cut : ∀ (l : List Int), l ≠ [] → (∀ n ∈ l, fineN n = true) → takeM l.length (l.flatMap putB).dropLast = ([], [], 10)
  | [], h, _ => absurd rfl h
  | [n], _, h => by
    have := takeN_cut (h n (by simp))
    simp [takeM, this]
  | n :: m :: l, _, h => by
    have h2 := takeM_cut (m :: l) (by simp) fun x hx => h x (by simp only [List.mem_cons] at hx ⊢; exact .inr hx)
    have hne : (m :: l).flatMap putB ≠ [] := by
      simp only [List.flatMap_cons]
      intro he
      exact putB_ne m (List.append_eq_nil_iff.1 he).1
    have h1 := takeN_put (h n (by simp)) ((m :: l).flatMap putB).dropLast
    rw [List.flatMap_cons, List.dropLast_append_of_ne_nil hne, List.length_cons, takeM, h1]
    simp only [if_pos]
    rw [h2]
    simp
theorem takeRow_cut {l : List Int} (h : rowOk l = true) : (takeRowN (rowsB l).dropLast).2.2 = 10 := by
  obtain ⟨h1, h2⟩ := rowOk_fine h
  unfold takeRowN rowsB
  by_cases hl : l = []
  · subst hl
    have := takeN_cut (fine_len (n := 0) (by omega))
    simp at this
    simp [this]
  · have hne : l.flatMap putB ≠ [] := by
      obtain ⟨m, l', rfl⟩ := List.exists_cons_of_ne_nil hl
      simp only [List.flatMap_cons]
      intro he
      exact putB_ne m (List.append_eq_nil_iff.1 he).1
    have h3 := takeN_put (fine_len h1) (l.flatMap putB).dropLast
    rw [List.dropLast_append_of_ne_nil hne, h3]
    simp only [Int.toNat_natCast, if_pos]
    rw [if_neg (by omega), takeM_cut l hl h2]
theorem takeM_only : ∀ (k : Nat) (b r : List UInt8) (l : List Nat), takeM k b = (l, r, 0) → l.length = k ∧ (∀ n ∈ l, n ≤ 1099511627776) ∧ (l.map Int.ofNat).flatMap putB ++ r = b
  | 0, b, r, l, h => by simp only [takeM, Prod.mk.injEq] at h; obtain ⟨rfl, rfl, _⟩ := h; simp
  | k + 1, b, r, l, h => by
    simp only [takeM] at h
    split at h
    · rename_i h1
      split at h
      · rename_i h2
        simp only [Prod.mk.injEq] at h
        obtain ⟨rfl, rfl, _⟩ := h
        have hm : takeM k (takeN b).2.1 = ((takeM k (takeN b).2.1).1, (takeM k (takeN b).2.1).2.1, 0) := Prod.ext rfl (Prod.ext rfl h2)
        have hn : takeN b = ((takeN b).1, (takeN b).2.1, 0) := Prod.ext rfl (Prod.ext rfl h1)
        obtain ⟨i1, i2, i3⟩ := takeM_only k _ _ _ hm
        obtain ⟨j1, j2⟩ := takeN_only hn
        refine ⟨by simp [i1], fun n hn => ?_, ?_⟩
        · rcases List.mem_cons.1 hn with rfl | hn
          · exact j2
          · exact i2 n hn
        · simp only [List.map_cons, List.flatMap_cons, List.append_assoc]
          rw [i3]; exact j1
      · rename_i h2; simp only [Prod.mk.injEq] at h; exact absurd h.2.2 h2
    · rename_i h1; simp only [Prod.mk.injEq] at h; exact absurd h.2.2 h1
theorem takeRow_only {b r : List UInt8} {l : List Nat} (h : takeRowN b = (l, r, 0)) : rowOk (l.map Int.ofNat) = true ∧ rowsB (l.map Int.ofNat) ++ r = b := by
  unfold takeRowN at h
  split at h
  · rename_i h1
    split at h
    · simp at h
    · rename_i h2
      have hn : takeN b = ((takeN b).1, (takeN b).2.1, 0) := Prod.ext rfl (Prod.ext rfl h1)
      obtain ⟨i1, i2, i3⟩ := takeM_only _ _ _ _ h
      obtain ⟨j1, j2⟩ := takeN_only hn
      refine ⟨?_, ?_⟩
      · simp only [rowOk, Bool.and_eq_true, decide_eq_true_eq, Bool.not_eq_true', List.any_eq_false]
        refine ⟨by rw [List.length_map]; omega, fun x hx => ?_⟩
        obtain ⟨n, hn, rfl⟩ := List.mem_map.1 hx
        have := i2 n hn
        simp [fineN]; omega
      · rw [rowsB, List.append_assoc, i3, List.length_map, i1]; exact j1
  · rename_i h1; simp only [Prod.mk.injEq] at h; exact absurd h.2.2 h1
theorem takeM_bad : ∀ (k : Nat) (b : List UInt8), (takeM k b).2.2 ≠ 0 → (takeM k b).2.2 = 10 ∨ (takeM k b).2.2 = 11
  | 0, b, h => by simp [takeM] at h
  | k + 1, b, h => by
    simp only [takeM] at h ⊢
    split
    · rename_i h1
      rw [if_pos h1] at h
      split
      · rename_i h2; rw [if_pos h2] at h; simp at h
      · rename_i h2; exact takeM_bad k _ h2
    · rename_i h1; exact (takeN_err b h1).2
theorem takeRow_bad {b : List UInt8} (h : (takeRowN b).2.2 ≠ 0) : takeRowN b = ([], [], (takeRowN b).2.2) ∧ ((takeRowN b).2.2 = 10 ∨ (takeRowN b).2.2 = 11) := by
  unfold takeRowN at h ⊢
  split
  · rename_i h1
    rw [if_pos h1] at h
    split
    · simp
    · rename_i h2
      rw [if_neg h2] at h
      exact ⟨takeM_err _ _ h, takeM_bad _ _ h⟩
  · rename_i h1; exact ⟨rfl, (takeN_err b h1).2⟩
end Go.Proofs.YtljgaglbgkejhaaDoor
