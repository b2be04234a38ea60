/-
Plain laws of sums and frames.
-/
import Derived.Test.YtnkekjhijkfckaaNumP
namespace Go.Proofs.Ytnkekjhijkfckaa
set_option linter.unusedVariables false
/-- Sums. -/
def sumS (s : Nat) (c : UInt8) : Nat := (31 * s + c.toNat + 7) % 4294967296
def sumN (b : List UInt8) : Nat := b.foldl sumS 1
theorem sumS_lt (s : Nat) (c : UInt8) : sumS s c < 4294967296 := Nat.mod_lt _ (by omega)
theorem sumN_snoc (b : List UInt8) (c : UInt8) : sumN (b ++ [c]) = sumS (sumN b) c := by simp [sumN]
theorem sumN_lt (b : List UInt8) : sumN b < 4294967296 := by
  rcases List.eq_nil_or_concat b with rfl | ⟨l, c, rfl⟩
  · decide
  · rw [List.concat_eq_append, sumN_snoc]; exact sumS_lt _ _
theorem sumN_take (b : List UInt8) (k : Nat) (h : k < b.length) : sumN (b.take (k + 1)) = sumS (sumN (b.take k)) b[k] := by
  rw [List.take_succ_eq_append_getElem h, sumN_snoc]
def sumB (s : Nat) : List UInt8 := [UInt8.ofNat s, UInt8.ofNat (s / 256), UInt8.ofNat (s / 65536), UInt8.ofNat (s / 16777216)]
/-- Frames. -/
def frameB (p : List UInt8) : List UInt8 := putB p.length ++ p ++ sumB (sumN p)
def putFN (p : List UInt8) : List UInt8 := if p.length ≤ 4000 then frameB p else []
def putFR (p : List UInt8) : Int := if p.length ≤ 4000 then 0 else 2
def cutF (b : List UInt8) : Option (List UInt8 × List UInt8) :=
  if (takeN b).2.2 = 0 ∧ (takeN b).1 ≤ 4000 ∧ (takeN b).1 + 4 ≤ (takeN b).2.1.length ∧ ((takeN b).2.1.drop (takeN b).1).take 4 = sumB (sumN ((takeN b).2.1.take (takeN b).1)) then
    some ((takeN b).2.1.take (takeN b).1, (takeN b).2.1.drop ((takeN b).1 + 4)) else none
theorem cutF_len {b p r : List UInt8} (h : cutF b = some (p, r)) : p.length + r.length + 4 ≤ b.length ∧ p.length ≤ 4000 := by
  unfold cutF at h
  split at h
  · rename_i hc
    simp only [Option.some.injEq, Prod.mk.injEq] at h
    obtain ⟨rfl, rfl⟩ := h
    have := takeN_len b
    simp only [List.length_take, List.length_drop]
    omega
  · cases h
def framesF : Nat → List UInt8 → List (List UInt8 × List UInt8)
  | 0, _ => []
  | f + 1, b => match cutF b with
    | none => []
    | some (p, r) => (p, r) :: framesF f r
theorem framesF_fuel : ∀ f g b, b.length ≤ f → b.length ≤ g → framesF f b = framesF g b
  | 0, 0, _, _, _ => rfl
  | 0, g + 1, b, h, _ => by
    have hb : b = [] := List.eq_nil_of_length_eq_zero (by omega)
    subst hb
    have : cutF [] = none := by decide
    simp [framesF, this]
  | f + 1, 0, b, _, h => by
    have hb : b = [] := List.eq_nil_of_length_eq_zero (by omega)
    subst hb
    have : cutF [] = none := by decide
    simp [framesF, this]
  | f + 1, g + 1, b, hf, hg => by
    unfold framesF
    cases hc : cutF b with
    | none => rfl
    | some pr =>
      obtain ⟨p, r⟩ := pr
      have := (cutF_len hc).1
      simp only
      rw [framesF_fuel f g r (by omega) (by omega)]
def framesN (b : List UInt8) : List (List UInt8 × List UInt8) := framesF b.length b
theorem framesN_none {b : List UInt8} (h : cutF b = none) : framesN b = [] := by
  unfold framesN
  cases hb : b.length with
  | zero => rfl
  | succ f => simp [framesF, h]
theorem framesN_some {b p r : List UInt8} (h : cutF b = some (p, r)) : framesN b = (p, r) :: framesN r := by
  have hl := (cutF_len h).1
  unfold framesN
  cases hb : b.length with
  | zero => omega
  | succ f => simp only [framesF, h]; rw [framesF_fuel f r.length r (by omega) (Nat.le_refl _)]
/-- How far an iterator of frames has come: k frames on, at r. -/
structure FrI (b : List UInt8) (k : Nat) (r : List UInt8) : Prop where
  le : r.length ≤ b.length
  eq : (framesN b).drop k = framesN r
  kle : k ≤ (framesN b).length
theorem FrI.zero (b : List UInt8) : FrI b 0 b := ⟨Nat.le_refl _, rfl, Nat.zero_le _⟩
theorem FrI.stop {b r : List UInt8} {k : Nat} (h : FrI b k r) (hc : cutF r = none) : k = (framesN b).length := by
  have h1 := h.eq
  rw [framesN_none hc] at h1
  have := List.drop_eq_nil_iff.1 h1
  have := h.kle
  omega
theorem FrI.next {b r p r' : List UInt8} {k : Nat} (h : FrI b k r) (hc : cutF r = some (p, r')) : k < (framesN b).length ∧ (framesN b)[k]? = some (p, r') ∧ FrI b (k + 1) r' := by
  have h1 := h.eq
  rw [framesN_some hc] at h1
  have hg : (framesN b)[k]? = some (p, r') := by
    have := congrArg (·[0]?) h1
    simpa using this
  have hk := (List.getElem?_eq_some_iff.1 hg).1
  refine ⟨hk, hg, by have := (cutF_len hc).1; have := h.le; omega, ?_, hk⟩
  have := congrArg (List.drop 1) h1
  simpa [Nat.add_comm] using this
def frameAt (b : List UInt8) (k : Nat) : List UInt8 × List UInt8 := ((framesN b)[k]?).getD ([], [])
theorem frameAt_eq {b p r : List UInt8} {k : Nat} (h : (framesN b)[k]? = some (p, r)) : frameAt b k = (p, r) := by simp [frameAt, h]
/-- All of them: the payloads, how many bytes are used. -/
def allP (b : List UInt8) : List (List UInt8) := (framesN b).map (·.1)
def usedN (b : List UInt8) (k : Nat) : Nat := if k = 0 then 0 else b.length - (frameAt b (k - 1)).2.length
def allU (b : List UInt8) : Nat := usedN b (framesN b).length
theorem framesF_len : ∀ f b, 4 * (framesF f b).length ≤ b.length
  | 0, b => by simp [framesF]
  | f + 1, b => by
    unfold framesF
    cases hc : cutF b with
    | none => simp
    | some pr =>
      obtain ⟨p, r⟩ := pr
      have := (cutF_len hc).1
      have := framesF_len f r
      simp only [List.length_cons]; omega
theorem framesN_len (b : List UInt8) : 4 * (framesN b).length ≤ b.length := framesF_len _ _
end Go.Proofs.Ytnkekjhijkfckaa
