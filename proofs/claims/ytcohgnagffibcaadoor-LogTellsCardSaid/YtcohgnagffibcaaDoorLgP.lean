/-
Logs, plainly.
-/
import Derived.Test.YtcohgnagffibcaaDoorMr
import Derived.Test.YtcohgnagffibcaaDoorMf
import Derived.Test.YtcohgnagffibcaaDoorMd
namespace Go.Proofs.YtcohgnagffibcaaDoor
set_option linter.unusedVariables false
open Go.RowKit
/-- A record's frame; records' frames. -/
def recB (r : Rc) : List UInt8 := frameB r.bytes
def recsB (l : List Rc) : List UInt8 := l.flatMap recB
theorem recsB_app (l m : List Rc) : recsB (l ++ m) = recsB l ++ recsB m := List.flatMap_append
theorem recB_len (r : Rc) : (recB r).length ≤ 1014 := by
  have h1 := bytes_le (r := r)
  have h2 := putB_len (r.bytes.length : Int)
  simp [recB, frameB, sumB]; omega
theorem recsB_len : ∀ l : List Rc, (recsB l).length ≤ 1014 * l.length
  | [] => by simp [recsB]
  | r :: l => by
    have := recsB_len l
    have h2 := recB_len r
    simp only [recsB, List.flatMap_cons, List.length_append, List.length_cons] at this ⊢
    omega
/-- The record that bytes begin with, and what is behind. -/
def cutR (b : List UInt8) : Option (Rc × List UInt8) := match cutF b with
  | none => none
  | some (p, r) => if rcE p = 0 then some (rcOf p, r) else none
theorem cutR_put {r : Rc} (h : r.ok = true) (q : List UInt8) : cutR (recB r ++ q) = some (r, q) := by
  have h1 := bytes_le (r := r)
  rw [cutR, recB, cutF_put (by omega)]
  simp only
  rw [(rcOf_bytes h).2, (rcOf_bytes h).1]; rfl
theorem cutR_only {b q : List UInt8} {r : Rc} (h : cutR b = some (r, q)) : b = recB r ++ q ∧ r.ok = true := by
  unfold cutR at h
  cases hc : cutF b with
  | none => rw [hc] at h; cases h
  | some t =>
    obtain ⟨p, s⟩ := t
    rw [hc] at h
    simp only at h
    split at h
    · rename_i he
      simp only [Option.some.injEq, Prod.mk.injEq] at h
      obtain ⟨h1, h2⟩ := h
      subst h1 h2
      obtain ⟨e1, e2⟩ := rc_only he
      exact ⟨by rw [recB, e2]; exact (cutF_only hc).1, e1⟩
    · cases h
theorem cutR_len {b q : List UInt8} {r : Rc} (h : cutR b = some (r, q)) : q.length + 4 ≤ b.length := by
  unfold cutR at h
  cases hc : cutF b with
  | none => rw [hc] at h; cases h
  | some t =>
    obtain ⟨p, s⟩ := t
    rw [hc] at h
    simp only at h
    split at h
    · simp only [Option.some.injEq, Prod.mk.injEq] at h
      obtain ⟨_, h2⟩ := h
      subst h2
      have := (cutF_len hc).1
      omega
    · cases h
def scanF : Nat → List UInt8 → List (Rc × List UInt8)
  | 0, _ => []
  | f + 1, b => match cutR b with
    | none => []
    | some (p, r) => (p, r) :: scanF f r
theorem cutR_nil : cutR [] = none := by decide
theorem scanF_fuel : ∀ f g b, b.length ≤ f → b.length ≤ g → scanF f b = scanF g b
  | 0, 0, _, _, _ => rfl
  | 0, g + 1, b, h, _ => by
    have hb : b = [] := List.eq_nil_of_length_eq_zero (by omega)
    subst hb
    simp [scanF, cutR_nil]
  | f + 1, 0, b, _, h => by
    have hb : b = [] := List.eq_nil_of_length_eq_zero (by omega)
    subst hb
    simp [scanF, cutR_nil]
  | f + 1, g + 1, b, hf, hg => by
    unfold scanF
    cases hc : cutR b with
    | none => rfl
    | some pr =>
      obtain ⟨p, r⟩ := pr
      have := cutR_len hc
      simp only
      rw [scanF_fuel f g r (by omega) (by omega)]
def scanN (b : List UInt8) : List (Rc × List UInt8) := scanF b.length b
theorem scanN_none {b : List UInt8} (h : cutR b = none) : scanN b = [] := by
  unfold scanN
  cases hb : b.length with
  | zero => rfl
  | succ f => simp [scanF, h]
theorem scanN_some {b r : List UInt8} {p : Rc} (h : cutR b = some (p, r)) : scanN b = (p, r) :: scanN r := by
  have hl := cutR_len h
  unfold scanN
  cases hb : b.length with
  | zero => omega
  | succ f => simp only [scanF, h]; rw [scanF_fuel f r.length r (by omega) (Nat.le_refl _)]
/-- How far a scan has come: k records on, at r. -/
structure ScI (b : List UInt8) (k : Nat) (r : List UInt8) : Prop where
  le : r.length ≤ b.length
  eq : (scanN b).drop k = scanN r
  kle : k ≤ (scanN b).length
  suf : b.drop (b.length - r.length) = r
theorem ScI.zero (b : List UInt8) : ScI b 0 b := ⟨Nat.le_refl _, rfl, Nat.zero_le _, by simp⟩
theorem ScI.stop {b r : List UInt8} {k : Nat} (h : ScI b k r) (hc : cutR r = none) : k = (scanN b).length := by
  have h1 := h.eq
  rw [scanN_none hc] at h1
  have := List.drop_eq_nil_iff.1 h1
  have := h.kle
  omega
theorem ScI.next {b r r' : List UInt8} {p : Rc} {k : Nat} (h : ScI b k r) (hc : cutR r = some (p, r')) : k < (scanN b).length ∧ (scanN b)[k]? = some (p, r') ∧ ScI b (k + 1) r' := by
  have h1 := h.eq
  rw [scanN_some hc] at h1
  have hg : (scanN b)[k]? = some (p, r') := by
    have := congrArg (·[0]?) h1
    simpa using this
  have hk := (List.getElem?_eq_some_iff.1 hg).1
  have h4 := cutR_len hc
  have h5 := h.le
  refine ⟨hk, hg, by omega, ?_, hk, ?_⟩
  · have := congrArg (List.drop 1) h1
    simpa [Nat.add_comm] using this
  · have e := (cutR_only hc).1
    have h6 := h.suf
    have h7 : r.drop (r.length - r'.length) = r' := by
      have : r.length - r'.length = (recB p).length := by rw [e]; simp
      rw [this]; conv => lhs; rw [e]
      exact List.drop_left
    have h9 : b.drop ((b.length - r.length) + (r.length - r'.length)) = r' := by rw [← List.drop_drop, h6]; exact h7
    rw [show b.length - r'.length = (b.length - r.length) + (r.length - r'.length) by omega]
    exact h9
def scanAt (b : List UInt8) (k : Nat) : Rc × List UInt8 := ((scanN b)[k]?).getD (Rc.zero, [])
theorem scanAt_eq {b r : List UInt8} {p : Rc} {k : Nat} (h : (scanN b)[k]? = some (p, r)) : scanAt b k = (p, r) := by simp [scanAt, h]
/-- The log: its records, how many bytes are used. -/
def logN (b : List UInt8) : List Rc := (scanN b).map (·.1)
def usedL (b : List UInt8) (k : Nat) : Nat := if k = 0 then 0 else b.length - (scanAt b (k - 1)).2.length
def logU (b : List UInt8) : Nat := usedL b (scanN b).length
theorem logN_none {b : List UInt8} (h : cutR b = none) : logN b = [] ∧ logU b = 0 := by
  rw [logN, logU, scanN_none h]; exact ⟨rfl, rfl⟩
theorem scanN_le : ∀ (f : Nat) (b : List UInt8), b.length ≤ f → 4 * (scanN b).length ≤ b.length := by
  intro f
  induction f with
  | zero =>
    intro b hb
    have : b = [] := List.eq_nil_of_length_eq_zero (by omega)
    subst this
    rw [scanN_none cutR_nil]; simp
  | succ f ih =>
    intro b hb
    cases hc : cutR b with
    | none => rw [scanN_none hc]; simp
    | some t =>
      obtain ⟨p, r⟩ := t
      have := cutR_len hc
      rw [scanN_some hc, List.length_cons]
      have := ih r (by omega)
      omega
theorem scanN_len (b : List UInt8) : 4 * (scanN b).length ≤ b.length := scanN_le _ _ (Nat.le_refl _)
/-- Bytes are their log's frames, and what is behind. -/
theorem log_split : ∀ (f : Nat) (b : List UInt8), b.length ≤ f → ∃ t, b = recsB (logN b) ++ t ∧ cutR t = none ∧ (∀ r ∈ logN b, r.ok = true) ∧ logU b = (recsB (logN b)).length := by
  intro f
  induction f with
  | zero =>
    intro b hb
    have : b = [] := List.eq_nil_of_length_eq_zero (by omega)
    subst this
    obtain ⟨h1, h2⟩ := logN_none cutR_nil
    exact ⟨[], by rw [h1]; rfl, cutR_nil, by rw [h1]; simp, by rw [h1, h2]; rfl⟩
  | succ f ih =>
    intro b hb
    cases hc : cutR b with
    | none =>
      obtain ⟨h1, h2⟩ := logN_none hc
      exact ⟨b, by rw [h1]; rfl, hc, by rw [h1]; simp, by rw [h1, h2]; rfl⟩
    | some t =>
      obtain ⟨p, r⟩ := t
      have hl := cutR_len hc
      obtain ⟨e1, e2⟩ := cutR_only hc
      obtain ⟨t, q1, q2, q3, q4⟩ := ih r (by omega)
      have hn : logN b = p :: logN r := by rw [logN, scanN_some hc]; rfl
      refine ⟨t, ?_, q2, ?_, ?_⟩
      · rw [hn]
        conv => lhs; rw [e1, q1]
        simp [recsB]
      · rw [hn]; intro x hx
        rcases List.mem_cons.1 hx with rfl | hx
        · exact e2
        · exact q3 x hx
      · have h5 : b.length = (recB p).length + r.length := by conv => lhs; rw [e1]; simp
        have h6 : logU b = (recB p).length + logU r := by
          rw [logU, logU, scanN_some hc, List.length_cons, usedL, if_neg (by omega), Nat.add_sub_cancel]
          cases hs : scanN r with
          | nil =>
            have : scanAt b 0 = (p, r) := by simp [scanAt, scanN_some hc]
            rw [List.length_nil, this, usedL, if_pos rfl]; simp only; omega
          | cons x xs =>
            have h7 : scanAt b (x :: xs).length = scanAt r ((x :: xs).length - 1) := by
              simp [scanAt, scanN_some hc, hs]
            rw [h7, usedL, if_neg (by simp)]
            have h8 : (scanAt r ((x :: xs).length - 1)).2.length ≤ r.length := by
              have := ScI_len r _ (show (x :: xs).length - 1 < (scanN r).length by rw [hs]; simp)
              exact this
            omega
        rw [h6, q4, hn]
        simp [recsB]
where
  ScI_len (b : List UInt8) (k : Nat) (h : k < (scanN b).length) : (scanAt b k).2.length ≤ b.length := by
    have key : ∀ f b, ∀ z ∈ scanF f b, z.2.length ≤ b.length := by
      intro f
      induction f with
      | zero => intro b z hz; simp [scanF] at hz
      | succ f ih =>
        intro b z hz
        unfold scanF at hz
        cases hc : cutR b with
        | none => rw [hc] at hz; simp at hz
        | some pr =>
          obtain ⟨p, r⟩ := pr
          rw [hc] at hz
          have h1 := cutR_len hc
          rcases List.mem_cons.1 hz with rfl | hz
          · simp only; omega
          · have := ih r z hz; omega
    have : scanAt b k = (scanN b)[k] := by simp [scanAt, h]
    rw [this]
    exact key _ _ _ (List.getElem_mem h)
theorem scanAt_len {b : List UInt8} {k : Nat} (h : k < (scanN b).length) : (scanAt b k).2.length ≤ b.length := log_split.ScI_len b k h
theorem logU_eq (b : List UInt8) : logU b = (recsB (logN b)).length := by
  obtain ⟨_, _, _, _, h⟩ := log_split _ b (Nat.le_refl _); exact h
theorem log_ok (b : List UInt8) : ∀ r ∈ logN b, r.ok = true := by
  obtain ⟨_, _, _, h, _⟩ := log_split _ b (Nat.le_refl _); exact h
theorem log_take (b : List UInt8) : b.take (logU b) = recsB (logN b) := by
  obtain ⟨t, h1, _, _, h4⟩ := log_split _ b (Nat.le_refl _)
  have e : (recsB (logN b) ++ t).take (recsB (logN b)).length = recsB (logN b) := List.take_left
  rw [← h1] at e
  rw [h4]; exact e
theorem logU_le (b : List UInt8) : logU b ≤ b.length := by
  obtain ⟨t, h1, _, _, h4⟩ := log_split _ b (Nat.le_refl _)
  rw [h4]; conv => rhs; rw [h1]
  simp
theorem log_put : ∀ {l : List Rc}, (∀ r ∈ l, r.ok = true) → ∀ q, logN (recsB l ++ q) = l ++ logN q
  | [], _, q => rfl
  | r :: l, h, q => by
    have e : recsB (r :: l) ++ q = recB r ++ (recsB l ++ q) := by simp [recsB]
    rw [e, logN, scanN_some (cutR_put (h r List.mem_cons_self) _), List.map_cons]
    have := log_put (l := l) (fun x hx => h x (List.mem_cons_of_mem _ hx)) q
    rw [logN] at this
    rw [this]; rfl
theorem log_put0 {l : List Rc} (h : ∀ r ∈ l, r.ok = true) : logN (recsB l) = l := by
  have := log_put h []
  rw [List.append_nil, (logN_none cutR_nil).1, List.append_nil] at this
  exact this
/-- The log of a beginning is a beginning of the log. -/
theorem log_pre (b : List UInt8) (j : Nat) : ∃ m, logN b = logN (b.take j) ++ m := by
  obtain ⟨t, h1, _, h3, _⟩ := log_split _ (b.take j) (Nat.le_refl _)
  have e : b = recsB (logN (b.take j)) ++ (t ++ b.drop j) := by
    rw [← List.append_assoc, ← h1, List.take_append_drop]
  exact ⟨_, by conv => lhs; rw [e]
               exact log_put h3 _⟩
theorem log_again (b : List UInt8) : logN (b.take (logU b)) = logN b ∧ logU (b.take (logU b)) = logU b := by
  have h1 : logN (b.take (logU b)) = logN b := by rw [log_take]; exact log_put0 (log_ok b)
  exact ⟨h1, by rw [logU_eq (b.take _), h1, ← logU_eq]⟩
/-- What frames makes. -/
def framesR (l : List Rc) : List UInt8 := if (l.all (·.ok)) = true then recsB l else []
theorem usedL_succ (b : List UInt8) (k : Nat) : usedL b (k + 1) = b.length - (scanAt b k).2.length := by simp [usedL]
theorem logN_take {b r : List UInt8} {p : Rc} {k : Nat} (h : scanAt b k = (p, r)) (hk : k < (scanN b).length) : (logN b).take (k + 1) = (logN b).take k ++ [p] := by
  have hl : k < (logN b).length := by simpa [logN] using hk
  rw [List.take_succ_eq_append_getElem hl]
  congr 1
  simp [logN]
  have : scanAt b k = (scanN b)[k] := by simp [scanAt, hk]
  rw [← this, h]
end Go.Proofs.YtcohgnagffibcaaDoor
