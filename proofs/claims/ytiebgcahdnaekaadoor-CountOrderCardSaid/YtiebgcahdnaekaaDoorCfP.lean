/-
Groups, plainly.
-/
import Derived.Test.YtiebgcahdnaekaaDoorSlP
namespace Go.Proofs.YtiebgcahdnaekaaDoor
set_option linter.unusedVariables false
open Go.RowKit
structure Cf where
  d : Int
  mn : Int
  su : Int
  po : Int
  hi : Int
  ho : Int
  wu : Int
  dr : Int
  re : Int
  ti : Int
  fa : Int
  de : Int
  ve : Int
  sk : Bool
  ms : List Int
def Cf.nums (c : Cf) : List Int := [c.d, c.mn, c.su, c.po, c.hi, c.ho, c.wu, c.dr, c.re, c.ti, c.fa, c.de, c.ve]
def Cf.cs (c : Cf) (x : AdC) : List Value := [.int .i64 c.d, .int .i64 c.mn, .int .i64 c.su, .int .i64 c.po, .int .i64 c.hi, .int .i64 c.ho, .int .i64 c.wu, .int .i64 c.dr, .int .i64 c.re, .int .i64 c.ti, .int .i64 c.fa, .int .i64 c.de, .int .i64 c.ve, .bool c.sk, .slice x.1 c.ms.length x.2]
def Cf.v (c : Cf) (x : AdC) : Value := .agg (c.cs x).toArray
def Cf.row (c : Cf) (x : AdC) : Res := .row 3 1 (.slice x.1 c.ms.length x.2) c.ms.length (i64s c.ms)
def Cf.nth (c : Cf) (k : Nat) : Int := c.nums.getD k 0
theorem Cf.nums_len (c : Cf) : c.nums.length = 13 := rfl
theorem cs_at (c : Cf) (x : AdC) : ∀ {k : Nat}, k < 13 → (c.cs x)[k]? = some (.int .i64 (c.nth k))
  | 0, _ => rfl | 1, _ => rfl | 2, _ => rfl | 3, _ => rfl | 4, _ => rfl | 5, _ => rfl | 6, _ => rfl | 7, _ => rfl | 8, _ => rfl | 9, _ => rfl | 10, _ => rfl | 11, _ => rfl | 12, _ => rfl
  | k + 13, h => by omega
theorem nums_take (c : Cf) {k : Nat} (h : k < 13) : c.nums.take (k + 1) = c.nums.take k ++ [c.nth k] := by
  have hk : k < c.nums.length := h
  rw [List.take_succ_eq_append_getElem hk, Cf.nth, List.getD_eq_getElem?_getD, List.getElem?_eq_getElem hk]; rfl
abbrev Lm := Int × Int
def lims : List Lm := [(0, 6), (0, 100), (0, 3), (0, 3), (0, 20), (0, 20), (0, 20), (0, 20), (1, 20), (1, 20), (1, 20), (0, 20), (1, 1099511627776)]
def limAt (k : Nat) : Lm := lims.getD k (0, 0)
def limV : List Value := lims.flatMap fun p => [.int .i64 p.1, .int .i64 p.2]
theorem lim_at : ∀ {k : Nat}, k < 13 → takeL limV (k * 2) 2 = some [.int .i64 (limAt k).1, .int .i64 (limAt k).2]
  | 0, _ => rfl | 1, _ => rfl | 2, _ => rfl | 3, _ => rfl | 4, _ => rfl | 5, _ => rfl | 6, _ => rfl | 7, _ => rfl | 8, _ => rfl | 9, _ => rfl | 10, _ => rfl | 11, _ => rfl | 12, _ => rfl
  | k + 13, h => by omega
def inB (n : Int) (l : Lm) : Bool := decide (l.1 ≤ n) && decide (n ≤ l.2)
theorem inB_iff {n : Int} {l : Lm} : inB n l = true ↔ l.1 ≤ n ∧ n ≤ l.2 := by simp [inB]
theorem inB_not {n : Int} {l : Lm} : inB n l = false ↔ ¬ (l.1 ≤ n ∧ n ≤ l.2) := by rw [← inB_iff]; simp
/-- All numbers are within. -/
def Cf.fOk (c : Cf) : Bool := (List.range 13).all fun k => inB (c.nth k) (limAt k)
theorem fOk_iff {c : Cf} : c.fOk = true ↔ ∀ k, k < 13 → inB (c.nth k) (limAt k) = true := by simp [Cf.fOk]
def mOkAt (l : List Int) (k : Nat) : Bool := inB (l.getD k 0) (1, 100) && (decide (k = 0) || decide (l.getD (k - 1) 0 < l.getD k 0))
def mOk (l : List Int) : Bool := (List.range l.length).all (mOkAt l)
theorem mOk_iff {l : List Int} : mOk l = true ↔ ∀ k, k < l.length → mOkAt l k = true := by simp [mOk]
theorem mOkAt_1 {l : List Int} {k : Nat} (hk : k < l.length) (h : inB l[k] (1, 100) = false) : ¬ mOk l = true := fun hm => by
  have := mOk_iff.1 hm k hk
  rw [mOkAt, getDE hk, h] at this
  simp at this
theorem mOkAt_2 {l : List Int} {k : Nat} (hk : k < l.length) (h0 : 0 < k) (h : l[k] ≤ l[k - 1]) : ¬ mOk l = true := fun hm => by
  have := mOk_iff.1 hm k hk
  rw [mOkAt, getDE hk, getDE (show k - 1 < l.length by omega)] at this
  simp only [Bool.and_eq_true, Bool.or_eq_true, decide_eq_true_eq] at this
  omega
theorem mOkAt_3 {l : List Int} {k : Nat} (hk : k < l.length) (h : inB l[k] (1, 100) = true) (h2 : k = 0 ∨ l[k - 1] < l[k]) : mOkAt l k = true := by
  rw [mOkAt, getDE hk, getDE (show k - 1 < l.length by omega), h]
  simpa using h2
def Cf.fl (c : Cf) : Int := (c.d * c.mn + 99) / 100
def Cf.ok (c : Cf) : Bool := c.fOk && (decide (c.ms.length ≤ 4) && (mOk c.ms && (decide (c.d = 0) || decide (c.fl < c.su + c.d))))
def Cf.chk (c : Cf) : Int := if c.ok = true then 0 else 70
theorem Cf.in_d {c : Cf} (h : c.fOk = true) : 0 ≤ c.d ∧ c.d ≤ 6 := inB_iff.1 (fOk_iff.1 h 0 (by omega))
theorem Cf.in_mn {c : Cf} (h : c.fOk = true) : 0 ≤ c.mn ∧ c.mn ≤ 100 := inB_iff.1 (fOk_iff.1 h 1 (by omega))
theorem Cf.in_su {c : Cf} (h : c.fOk = true) : 0 ≤ c.su ∧ c.su ≤ 3 := inB_iff.1 (fOk_iff.1 h 2 (by omega))
theorem Cf.in_po {c : Cf} (h : c.fOk = true) : 0 ≤ c.po ∧ c.po ≤ 3 := inB_iff.1 (fOk_iff.1 h 3 (by omega))
theorem Cf.ok_f {c : Cf} (h : c.ok = true) : c.fOk = true := by simp only [Cf.ok, Bool.and_eq_true] at h; exact h.1
theorem Cf.ok_m {c : Cf} (h : c.ok = true) : c.ms.length ≤ 4 := by simp only [Cf.ok, Bool.and_eq_true, decide_eq_true_eq] at h; exact h.2.1
theorem Cf.ok_s {c : Cf} (h : c.ok = true) : mOk c.ms = true := by simp only [Cf.ok, Bool.and_eq_true, decide_eq_true_eq] at h; exact h.2.2.1
theorem Cf.ok_l {c : Cf} (h : c.ok = true) : c.d = 0 ∨ c.fl < c.su + c.d := by simp only [Cf.ok, Bool.and_eq_true, Bool.or_eq_true, decide_eq_true_eq] at h; exact h.2.2.2
theorem Cf.ok_mk {c : Cf} (h1 : c.fOk = true) (h2 : c.ms.length ≤ 4) (h3 : mOk c.ms = true) (h4 : c.d = 0 ∨ c.fl < c.su + c.d) : c.ok = true := by simp only [Cf.ok, Bool.and_eq_true, Bool.or_eq_true, decide_eq_true_eq]; exact ⟨h1, h2, h3, h4⟩
theorem Cf.chk_ok {c : Cf} (h : c.ok = true) : c.chk = 0 := if_pos h
theorem Cf.chk_no {c : Cf} (h : ¬ c.ok = true) : c.chk = 70 := if_neg h
theorem dm_le {d m : Int} (h1 : 0 ≤ d ∧ d ≤ 6) (h2 : 0 ≤ m ∧ m ≤ 100) : 0 ≤ d * m ∧ d * m ≤ 600 := by
  have a := Int.mul_nonneg h1.1 h2.1
  have b : d * m ≤ 6 * m := Int.mul_le_mul_of_nonneg_right h1.2 h2.1
  omega
def Cf.flr (c : Cf) : Int := if c.ok = true then c.fl else 0
def Cf.bnd (c : Cf) : Int := if c.ok = true then c.d + c.su + c.po else 0
def Cf.skN (c : Cf) : Int := if c.sk = true then 1 else 0
def Cf.rowN (c : Cf) : List Int := if c.ok = true then c.nums ++ ([c.skN] ++ c.ms) else []
def Cf.zero : Cf := ⟨0, 0, 0, 0, 0, 0, 0, 0, 0, 0, 0, 0, 0, false, []⟩
/-- The group of a row, whether it may be or not. -/
def cfRaw (l : List Int) : Cf := ⟨l.getD 0 0, l.getD 1 0, l.getD 2 0, l.getD 3 0, l.getD 4 0, l.getD 5 0, l.getD 6 0, l.getD 7 0, l.getD 8 0, l.getD 9 0, l.getD 10 0, l.getD 11 0, l.getD 12 0, decide (l.getD 13 0 = 1), l.drop 14⟩
def rawOk (l : List Int) : Bool := decide (13 < l.length) && (inB (l.getD 13 0) (0, 1) && (cfRaw l).ok)
def cfOf (l : List Int) : Cf := if rawOk l = true then cfRaw l else Cf.zero
def cfE (l : List Int) : Int := if rawOk l = true then 0 else 70
def sameK (a b : Cf) (k : Nat) : Bool := (decide (a.sk = b.sk) && decide (a.ms = b.ms)) && (List.range k).all fun j => decide (b.nth j = a.nth j)
def sameC (a b : Cf) : Bool := sameK a b 13
theorem sameK_T {a b : Cf} {k : Nat} (h : sameK a b k = true) : sameK a b (k + 1) = decide (b.nth k = a.nth k) := by
  simp only [sameK, List.range_succ, List.all_append] at h ⊢
  rw [← Bool.and_assoc, h]; simp
theorem sameK_F {a b : Cf} {k : Nat} (h : sameK a b k = false) : sameK a b (k + 1) = false := by
  simp only [sameK, List.range_succ, List.all_append] at h ⊢
  rw [← Bool.and_assoc, h]; simp
theorem nums_at (c : Cf) : ∀ {k : Nat}, k < 13 → (i64s c.nums)[k]? = some (.int .i64 (c.nth k))
  | 0, _ => rfl | 1, _ => rfl | 2, _ => rfl | 3, _ => rfl | 4, _ => rfl | 5, _ => rfl | 6, _ => rfl | 7, _ => rfl | 8, _ => rfl | 9, _ => rfl | 10, _ => rfl | 11, _ => rfl | 12, _ => rfl
  | k + 13, h => by omega
/-- A group's cells while a row's numbers are put there. -/
def ofCs (l : List Int) : Nat → List Value
  | 0 => Cf.zero.cs (none, 0)
  | k + 1 => (ofCs l k).set k (.int .i64 (l.getD k 0))
theorem ofCs_len (l : List Int) (k : Nat) : (ofCs l k).length = 15 := by
  induction k with
  | zero => rfl
  | succ k ih => simp [ofCs, ih]
theorem ofCs_put (l : List Int) {k : Nat} (h : k < 13) : putL (ofCs l k) k [.int .i64 (l.getD k 0)] = some (ofCs l (k + 1)) := putL_one (by rw [ofCs_len]; omega)
theorem no_at {c : Cf} (k : Nat) (hk : k < 13) (h : inB (c.nth k) (limAt k) = false) : ¬ c.ok = true := fun ho => by
  have := fOk_iff.1 (Cf.ok_f ho) k hk
  rw [h] at this; cases this
/-- The waits. -/
def Cf.wt (c : Cf) (k : Nat) : Int := [c.hi, c.ho, c.wu, c.dr, c.de].getD k 0
def Cf.wts (c : Cf) : List Value := [.int .i64 c.hi, .int .i64 c.ho, .int .i64 c.wu, .int .i64 c.dr, .int .i64 c.de]
theorem wt_at (c : Cf) : ∀ {k : Nat}, k < 5 → c.wts[0 + k * 1]? = some (.int .i64 (c.wt k))
  | 0, _ => rfl | 1, _ => rfl | 2, _ => rfl | 3, _ => rfl | 4, _ => rfl
  | k + 5, h => by omega
theorem wt_no {c : Cf} : ∀ {k : Nat}, k < 5 → inB (c.wt k) (0, 20) = false → ¬ c.ok = true
  | 0, _, h => no_at 4 (by omega) h
  | 1, _, h => no_at 5 (by omega) h
  | 2, _, h => no_at 6 (by omega) h
  | 3, _, h => no_at 7 (by omega) h
  | 4, _, h => no_at 11 (by omega) h
  | k + 5, h, _ => by omega
theorem fOk_mk {c : Cf} (h0 : inB c.d (0, 6) = true) (h1 : inB c.mn (0, 100) = true) (h2 : inB c.su (0, 3) = true) (h3 : inB c.po (0, 3) = true) (hw : ∀ k, k < 5 → inB (c.wt k) (0, 20) = true) (h8 : inB c.re (1, 20) = true) (h9 : inB c.ti (1, 20) = true) (h10 : inB c.fa (1, 20) = true)
    (h12 : inB c.ve (1, 1099511627776) = true) : c.fOk = true := fOk_iff.2 fun
  | 0, _ => h0 | 1, _ => h1 | 2, _ => h2 | 3, _ => h3 | 4, _ => hw 0 (by omega) | 5, _ => hw 1 (by omega) | 6, _ => hw 2 (by omega) | 7, _ => hw 3 (by omega) | 8, _ => h8 | 9, _ => h9 | 10, _ => h10 | 11, _ => hw 4 (by omega) | 12, _ => h12
  | k + 13, h => by omega
/-- Groups are the same. -/
theorem sameC_iff {a b : Cf} : sameC a b = true ↔ a = b := by
  obtain ⟨a1, a2, a3, a4, a5, a6, a7, a8, a9, a10, a11, a12, a13, a14, a15⟩ := a
  obtain ⟨b1, b2, b3, b4, b5, b6, b7, b8, b9, b10, b11, b12, b13, b14, b15⟩ := b
  simp only [sameC, sameK, Bool.and_eq_true, decide_eq_true_eq, List.all_eq_true, List.mem_range, Cf.mk.injEq]
  constructor
  · rintro ⟨⟨h1, h2⟩, h3⟩
    have := fun k hk => (h3 k hk).symm
    exact ⟨this 0 (by omega), this 1 (by omega), this 2 (by omega), this 3 (by omega), this 4 (by omega), this 5 (by omega), this 6 (by omega), this 7 (by omega), this 8 (by omega), this 9 (by omega), this 10 (by omega), this 11 (by omega), this 12 (by omega), h1, h2⟩
  · rintro ⟨rfl, rfl, rfl, rfl, rfl, rfl, rfl, rfl, rfl, rfl, rfl, rfl, rfl, rfl, rfl⟩
    exact ⟨⟨rfl, rfl⟩, fun _ _ => rfl⟩
theorem nums_inj {a b : Cf} (h : i64s a.nums = i64s b.nums) (h1 : a.sk = b.sk) (h2 : a.ms = b.ms) : a = b := by
  obtain ⟨a1, a2, a3, a4, a5, a6, a7, a8, a9, a10, a11, a12, a13, a14, a15⟩ := a
  obtain ⟨b1, b2, b3, b4, b5, b6, b7, b8, b9, b10, b11, b12, b13, b14, b15⟩ := b
  simp only [i64s, Cf.nums, List.map_cons, List.map_nil, List.cons.injEq, Value.int.injEq, true_and, and_true] at h
  simp only at h1 h2
  simp only [Cf.mk.injEq]
  exact ⟨h.1, h.2.1, h.2.2.1, h.2.2.2.1, h.2.2.2.2.1, h.2.2.2.2.2.1, h.2.2.2.2.2.2.1, h.2.2.2.2.2.2.2.1, h.2.2.2.2.2.2.2.2.1, h.2.2.2.2.2.2.2.2.2.1, h.2.2.2.2.2.2.2.2.2.2.1, h.2.2.2.2.2.2.2.2.2.2.2.1, h.2.2.2.2.2.2.2.2.2.2.2.2, h1, h2⟩
end Go.Proofs.YtiebgcahdnaekaaDoor
