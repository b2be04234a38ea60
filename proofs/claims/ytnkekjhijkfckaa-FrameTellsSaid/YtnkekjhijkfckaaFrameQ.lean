/-
Plain laws of frames: what is put is taken; what is cut off, or harmed, is none.
-/
import Derived.Test.YtnkekjhijkfckaaFrameP
import Derived.Test.YtnkekjhijkfckaaNumQ
namespace Go.Proofs.Ytnkekjhijkfckaa
set_option linter.unusedVariables false
theorem cutF_put {p : List UInt8} (hp : p.length ≤ 4000) (q : List UInt8) : cutF (frameB p ++ q) = some (p, q) := by
  have h1 : takeN (frameB p ++ q) = (p.length, p ++ sumB (sumN p) ++ q, 0) := by
    have := takeN_put (n := (p.length : Int)) (by simp [fineN]; omega) (p ++ sumB (sumN p) ++ q)
    simpa [frameB, List.append_assoc] using this
  have e1 : (p ++ (sumB (sumN p) ++ q)).take p.length = p := by simp
  have e2 : (p ++ (sumB (sumN p) ++ q)).drop p.length = sumB (sumN p) ++ q := by simp
  have e3 : (p ++ (sumB (sumN p) ++ q)).drop (p.length + 4) = q := by rw [← List.drop_drop, e2]; rfl
  unfold cutF
  rw [h1]
  simp only [List.append_assoc]
  rw [e1, e2, e3, if_pos]
  refine ⟨trivial, hp, ?_, rfl⟩
  simp [sumB]
theorem cutF_only {b p r : List UInt8} (h : cutF b = some (p, r)) : b = frameB p ++ r ∧ p.length ≤ 4000 := by
  have hl := cutF_len h
  refine ⟨?_, hl.2⟩
  unfold cutF at h
  split at h
  · rename_i hc
    obtain ⟨h0, h1, h2, h3⟩ := hc
    simp only [Option.some.injEq, Prod.mk.injEq] at h
    obtain ⟨rfl, rfl⟩ := h
    obtain ⟨n, t, e, ht⟩ : ∃ n t e, takeN b = (n, t, e) := ⟨_, _, _, rfl⟩
    rw [ht] at h0 h1 h2 h3 ⊢
    simp only at h0 h1 h2 h3 ⊢
    subst h0
    have hb := (takeN_only ht).1
    have hlen : (t.take n).length = n := by simp; omega
    rw [frameB, hlen, ← h3, ← hb]
    simp only [List.append_assoc]
    congr 1
    have : (t.drop n).take 4 ++ t.drop (n + 4) = t.drop n := by rw [← List.drop_drop, List.take_append_drop]
    rw [this, List.take_append_drop]
  · cases h
theorem cutF_cut {p : List UInt8} (hp : p.length ≤ 4000) {j : Nat} (hj : j < (frameB p).length) : cutF ((frameB p).take j) = none := by
  cases hc : cutF ((frameB p).take j) with
  | none => rfl
  | some pr =>
    obtain ⟨p', r'⟩ := pr
    obtain ⟨h1, h2⟩ := cutF_only hc
    have h3 := cutF_put h2 (r' ++ (frameB p).drop j)
    rw [← List.append_assoc, ← h1, List.take_append_drop] at h3
    have h4 := cutF_put hp []
    rw [List.append_nil, h3] at h4
    simp only [Option.some.injEq, Prod.mk.injEq, List.append_eq_nil_iff] at h4
    have := congrArg List.length h4.2.2
    simp at this
    omega
theorem frameB_pos (p : List UInt8) : 0 < (frameB p).length := by simp [frameB, sumB]; omega
/-- Frames one behind the other. -/
def framesB (l : List (List UInt8)) : List UInt8 := l.flatMap frameB
theorem framesN_put : ∀ {l : List (List UInt8)} (t : List UInt8), (∀ p ∈ l, p.length ≤ 4000) → cutF t = none → (framesN (framesB l ++ t)).map (·.1) = l ∧ (framesN (framesB l ++ t)).length = l.length
  | [], t, _, ht => by simp [framesB, framesN_none ht]
  | p :: l, t, h, ht => by
    have hc := cutF_put (h p (List.mem_cons_self ..)) (framesB l ++ t)
    have hb : framesB (p :: l) ++ t = frameB p ++ (framesB l ++ t) := by simp [framesB]
    obtain ⟨h1, h2⟩ := framesN_put (l := l) t (fun q hq => h q (List.mem_cons_of_mem _ hq)) ht
    rw [hb, framesN_some hc]
    simp [h1, h2]
theorem frameAt_last : ∀ {l : List (List UInt8)} (t : List UInt8), (∀ p ∈ l, p.length ≤ 4000) → cutF t = none → l ≠ [] → (frameAt (framesB l ++ t) (l.length - 1)).2 = t
  | [], _, _, _, h => absurd rfl h
  | [p], t, h, ht, _ => by
    have hc := cutF_put (h p (List.mem_cons_self ..)) t
    have hb : framesB [p] ++ t = frameB p ++ t := by simp [framesB]
    rw [hb]
    simp [frameAt, framesN_some hc]
  | p :: q :: l, t, h, ht, _ => by
    have hc := cutF_put (h p (List.mem_cons_self ..)) (framesB (q :: l) ++ t)
    have hb : framesB (p :: q :: l) ++ t = frameB p ++ (framesB (q :: l) ++ t) := by simp [framesB]
    have ih := frameAt_last (l := q :: l) t (fun x hx => h x (List.mem_cons_of_mem _ hx)) ht (by simp)
    rw [hb]
    simp only [frameAt, framesN_some hc] at ih ⊢
    simpa using ih
theorem allU_put {l : List (List UInt8)} (t : List UInt8) (h : ∀ p ∈ l, p.length ≤ 4000) (ht : cutF t = none) : allU (framesB l ++ t) = (framesB l).length := by
  have hl := (framesN_put t h ht).2
  unfold allU usedN
  rw [hl]
  by_cases he : l = []
  · subst he; simp [framesB]
  · have : l.length ≠ 0 := fun e => he (List.eq_nil_of_length_eq_zero e)
    rw [if_neg this, frameAt_last t h ht he]
    simp
theorem cutF_nil : cutF [] = none := by decide
/-- Sums tell of a byte that is another one. -/
theorem sumS_inj {s s' : Nat} {c : UInt8} (h1 : s < 4294967296) (h2 : s' < 4294967296) (h : sumS s c = sumS s' c) : s = s' := by unfold sumS at h; omega
theorem fold_inj : ∀ (d : List UInt8) {s s' : Nat}, s < 4294967296 → s' < 4294967296 → d.foldl sumS s = d.foldl sumS s' → s = s'
  | [], _, _, _, _, h => h
  | c :: d, s, s', h1, h2, h => sumS_inj h1 h2 (fold_inj d (sumS_lt s c) (sumS_lt s' c) h)
theorem sumN_set {p : List UInt8} {j : Nat} {v : UInt8} (hj : j < p.length) (h : sumN (p.set j v) = sumN p) : v = p[j] := by
  have e1 : p = p.take j ++ p[j] :: p.drop (j + 1) := by simp
  have e2 : p.set j v = p.take j ++ v :: p.drop (j + 1) := List.set_eq_take_append_cons_drop ▸ by simp [hj]
  have hsp : sumN p = (p.drop (j + 1)).foldl sumS (sumS (sumN (p.take j)) p[j]) := by
    have := congrArg sumN e1
    rw [this]
    simp only [sumN, List.foldl_append, List.foldl_cons]
  rw [e2, hsp] at h
  simp only [sumN, List.foldl_append, List.foldl_cons] at h
  have h3 := fold_inj _ (sumS_lt _ _) (sumS_lt _ _) h
  have h4 := UInt8.toNat_lt v
  have h5 := UInt8.toNat_lt p[j]
  unfold sumS at h3
  apply UInt8.toNat_inj.1
  omega
theorem sumB_inj {s s' : Nat} (h1 : s < 4294967296) (h2 : s' < 4294967296) (h : sumB s = sumB s') : s = s' := by
  simp only [sumB, List.cons.injEq, and_true] at h
  obtain ⟨a, b, c, d⟩ := h
  have f : ∀ x y : Nat, UInt8.ofNat x = UInt8.ofNat y → x % 256 = y % 256 := fun x y h => by
    have := congrArg UInt8.toNat h
    simpa using this
  have a := f _ _ a
  have b := f _ _ b
  have c := f _ _ c
  have d := f _ _ d
  omega
theorem cutF_harm {p : List UInt8} (hp : p.length ≤ 4000) {j : Nat} {v : UInt8} (hj : j < p.length + 4) (hv : (p ++ sumB (sumN p))[j]? ≠ some v) : cutF ((frameB p).set ((putB p.length).length + j) v) = none := by
  have hx : (frameB p).set ((putB p.length).length + j) v = putB p.length ++ (p ++ sumB (sumN p)).set j v := by
    rw [frameB, List.append_assoc, List.set_append_right _ _ (by omega)]
    simp
  have ht := takeN_put (n := (p.length : Int)) (by simp [fineN]; omega) ((p ++ sumB (sumN p)).set j v)
  rw [hx]
  unfold cutF
  rw [ht]
  refine if_neg ?_
  rintro ⟨_, _, _, h3⟩
  simp only [Int.toNat_natCast] at h3
  by_cases hjp : j < p.length
  · rw [List.set_append_left _ _ hjp] at h3
    have e1 : (p.set j v ++ sumB (sumN p)).take p.length = p.set j v := List.take_left' (by simp)
    have e2 : (p.set j v ++ sumB (sumN p)).drop p.length = sumB (sumN p) := List.drop_left' (by simp)
    rw [e1, e2] at h3
    have h4 := sumB_inj (sumN_lt _) (sumN_lt _) (show sumB (sumN p) = sumB (sumN (p.set j v)) from h3)
    have h5 := sumN_set hjp h4.symm
    rw [List.getElem?_append_left hjp, List.getElem?_eq_getElem hjp, h5] at hv
    exact hv rfl
  · rw [List.set_append_right _ _ (by omega)] at h3
    have e1 : (p ++ (sumB (sumN p)).set (j - p.length) v).take p.length = p := List.take_left' rfl
    have e2 : (p ++ (sumB (sumN p)).set (j - p.length) v).drop p.length = (sumB (sumN p)).set (j - p.length) v := List.drop_left' rfl
    rw [e1, e2, List.take_of_length_le (by simp [sumB])] at h3
    have h4 := congrArg (·[j - p.length]?) h3
    rw [List.getElem?_append_right (by omega), ← h4] at hv
    refine hv ?_
    rw [List.getElem?_set_self (by simp [sumB]; omega)]
end Go.Proofs.Ytnkekjhijkfckaa
