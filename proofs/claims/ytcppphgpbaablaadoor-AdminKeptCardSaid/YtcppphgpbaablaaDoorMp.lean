/-
Texts of other layers, in one: SlP, CfP, CfQ, BrP, BrQ, BrX, NumP, NumQ, RcP, AdP, AdQ, AdL.
-/
import Derived.Test.YtcppphgpbaablaaDoorJg
import Derived.Test.YtcppphgpbaablaaDoorMem
namespace Go.Proofs.YtcppphgpbaablaaDoor
set_option linter.unusedVariables false
open Go.RowKit
abbrev AdC := Option Addr × Nat
/-- Slices: where each lies, how many it has, its cells. -/
abbrev Slc := AdC × Nat × List Value
abbrev i64s (l : List Int) : List Value := l.map (Value.int .i64)
def slsV (zs : List Slc) : List Value := zs.map fun z => .slice z.1.1 z.2.1 z.1.2
def Fact.sls (zs : List Slc) : Fact := ⟨fun X W => ∀ z ∈ zs, (Fact.rd z.1.1 z.2.2).p X W, fun X X' W W' h hf hx z hz => (Fact.rd z.1.1 z.2.2).fr X X' W W' (h z hz) hf hx⟩
def sumS (zs : List Slc) : Nat := (zs.map (·.2.1)).sum
def flatS (zs : List Slc) : List Value := zs.flatMap (·.2.2)
theorem sumS_take {zs : List Slc} {k : Nat} (h : k < zs.length) : sumS (zs.take (k + 1)) = sumS (zs.take k) + zs[k].2.1 := by
  rw [List.take_succ_eq_append_getElem h, sumS, List.map_append, List.sum_append]; simp [sumS]
theorem flatS_take {zs : List Slc} {k : Nat} (h : k < zs.length) : flatS (zs.take (k + 1)) = flatS (zs.take k) ++ zs[k].2.2 := by
  rw [List.take_succ_eq_append_getElem h, flatS, List.flatMap_append]; simp [flatS]
theorem sumS_le (zs : List Slc) (k : Nat) : sumS (zs.take k) ≤ sumS zs := by
  have : sumS zs = sumS (zs.take k) + sumS (zs.drop k) := by unfold sumS; rw [← List.sum_append, ← List.map_append, List.take_append_drop]
  omega
theorem getsls {zs : List Slc} {k : Nat} (h : k < zs.length) : (slsV zs)[k]? = some (.slice zs[k].1.1 zs[k].2.1 zs[k].1.2) := by simp [slsV, h]
theorem i64s_one (l : List Int) : ∀ u ∈ i64s l, u.oneCell' = true := by
  intro u hu
  obtain ⟨n, _, rfl⟩ := List.mem_map.1 hu
  rfl
theorem getDE {l : List Int} {k : Nat} (h : k < l.length) : l.getD k 0 = l[k] := by rw [List.getD_eq_getElem?_getD, List.getElem?_eq_getElem h]; rfl
theorem getd {l : List Int} {k : Nat} (h : k < l.length) : (i64s l)[k]? = some (.int .i64 (l.getD k 0)) := by rw [getDE h]; simp [i64s, h]
theorem not_true {b : Bool} (h : (!b) = true) : b = false := by simpa using h
theorem not_false {b : Bool} (h : (!b) = false) : b = true := by simpa using h
theorem putL_one : ∀ {cs : List Value} {j : Nat} {v : Value}, j < cs.length → putL cs j [v] = some (cs.set j v)
  | [], _, _, h => by simp at h
  | c :: cs, 0, v, h => by cases cs <;> rfl
  | c :: cs, j + 1, v, h => by simp only [putL]; rw [putL_one (by simpa using h)]; rfl
section
variable {P : Program} {r : Option Nat} {C : Cx} {n : Nat × List Nat} {Q : Exit → Act → World → Prop} {c : Code} {env : List (Nat × Value)} {R R' : List Res} {Φ : List Fact} {ops : Array Oper} {rest : List Oper}
theorem Jc.slNil (k : Jc P r C n Q c env R (.sls [] :: Φ)) : Jc P r C n Q c env R Φ := Jc.fact0 (.sls []) (fun X W => by intro z hz; simp at hz) k
theorem Jl.slNil (k : Jl P r C n ops Q rest env R (.sls [] :: Φ)) : Jl P r C n ops Q rest env R Φ := Jl.fact0 (.sls []) (fun X W => by intro z hz; simp at hz) k
theorem Jc.slCons {zs : List Slc} (z : Slc) (hm : Mem (.rd z.1.1 z.2.2) Φ) (hz : Mem (.sls zs) Φ) (k : Jc P r C n Q c env R (.sls (z :: zs) :: Φ)) : Jc P r C n Q c env R Φ := fun a W h1 h2 => k a W h1 (h2.add (φ := .sls (z :: zs)) fun y hy => by
  rcases List.mem_cons.1 hy with rfl | hy
  · exact h2.fact hm
  · exact h2.fact hz y hy)
theorem Jl.slCons {zs : List Slc} (z : Slc) (hm : Mem (.rd z.1.1 z.2.2) Φ) (hz : Mem (.sls zs) Φ) (k : Jl P r C n ops Q rest env R (.sls (z :: zs) :: Φ)) : Jl P r C n ops Q rest env R Φ := fun a W h1 h2 => k a W h1 (h2.add (φ := .sls (z :: zs)) fun y hy => by
  rcases List.mem_cons.1 hy with rfl | hy
  · exact h2.fact hm
  · exact h2.fact hz y hy)
theorem Jc.slAt {zs : List Slc} (k : Nat) (hk : k < zs.length) (hm : Mem (.sls zs) Φ) (j : Jc P r C n Q c env R (.rd zs[k].1.1 zs[k].2.2 :: Φ)) : Jc P r C n Q c env R Φ :=
  Jc.fact (.rd zs[k].1.1 zs[k].2.2) (φ := .sls zs) hm (fun X W h => h _ (List.getElem_mem _)) j
end
end Go.Proofs.YtcppphgpbaablaaDoor
namespace Go.Proofs.YtcppphgpbaablaaDoor
set_option linter.unusedVariables false
open Go.RowKit
structure Cf where
  d : Int
  mn : Int
  su : Int
  po : Int
  hi : Int
  ho : Int
  wu : Int
  dr : Int
  re : Int
  ti : Int
  fa : Int
  de : Int
  ve : Int
  sk : Bool
  ms : List Int
def Cf.nums (c : Cf) : List Int := [c.d, c.mn, c.su, c.po, c.hi, c.ho, c.wu, c.dr, c.re, c.ti, c.fa, c.de, c.ve]
def Cf.cs (c : Cf) (x : AdC) : List Value := [.int .i64 c.d, .int .i64 c.mn, .int .i64 c.su, .int .i64 c.po, .int .i64 c.hi, .int .i64 c.ho, .int .i64 c.wu, .int .i64 c.dr, .int .i64 c.re, .int .i64 c.ti, .int .i64 c.fa, .int .i64 c.de, .int .i64 c.ve, .bool c.sk, .slice x.1 c.ms.length x.2]
def Cf.v (c : Cf) (x : AdC) : Value := .agg (c.cs x).toArray
def Cf.row (c : Cf) (x : AdC) : Res := .row 3 1 (.slice x.1 c.ms.length x.2) c.ms.length (i64s c.ms)
def Cf.nth (c : Cf) (k : Nat) : Int := c.nums.getD k 0
theorem Cf.nums_len (c : Cf) : c.nums.length = 13 := rfl
theorem cs_at (c : Cf) (x : AdC) : ∀ {k : Nat}, k < 13 → (c.cs x)[k]? = some (.int .i64 (c.nth k))
  | 0, _ => rfl | 1, _ => rfl | 2, _ => rfl | 3, _ => rfl | 4, _ => rfl | 5, _ => rfl | 6, _ => rfl | 7, _ => rfl | 8, _ => rfl | 9, _ => rfl | 10, _ => rfl | 11, _ => rfl | 12, _ => rfl
  | k + 13, h => by omega
theorem nums_take (c : Cf) {k : Nat} (h : k < 13) : c.nums.take (k + 1) = c.nums.take k ++ [c.nth k] := by
  have hk : k < c.nums.length := h
  rw [List.take_succ_eq_append_getElem hk, Cf.nth, List.getD_eq_getElem?_getD, List.getElem?_eq_getElem hk]; rfl
abbrev Lm := Int × Int
def lims : List Lm := [(0, 6), (0, 100), (0, 3), (0, 3), (0, 20), (0, 20), (0, 20), (0, 20), (1, 20), (1, 20), (1, 20), (0, 20), (1, 1099511627776)]
def limAt (k : Nat) : Lm := lims.getD k (0, 0)
def limV : List Value := lims.flatMap fun p => [.int .i64 p.1, .int .i64 p.2]
theorem lim_at : ∀ {k : Nat}, k < 13 → takeL limV (k * 2) 2 = some [.int .i64 (limAt k).1, .int .i64 (limAt k).2]
  | 0, _ => rfl | 1, _ => rfl | 2, _ => rfl | 3, _ => rfl | 4, _ => rfl | 5, _ => rfl | 6, _ => rfl | 7, _ => rfl | 8, _ => rfl | 9, _ => rfl | 10, _ => rfl | 11, _ => rfl | 12, _ => rfl
  | k + 13, h => by omega
def inB (n : Int) (l : Lm) : Bool := decide (l.1 ≤ n) && decide (n ≤ l.2)
theorem inB_iff {n : Int} {l : Lm} : inB n l = true ↔ l.1 ≤ n ∧ n ≤ l.2 := by simp [inB]
theorem inB_not {n : Int} {l : Lm} : inB n l = false ↔ ¬ (l.1 ≤ n ∧ n ≤ l.2) := by rw [← inB_iff]; simp
/-- All numbers are within. -/
def Cf.fOk (c : Cf) : Bool := (List.range 13).all fun k => inB (c.nth k) (limAt k)
theorem fOk_iff {c : Cf} : c.fOk = true ↔ ∀ k, k < 13 → inB (c.nth k) (limAt k) = true := by simp [Cf.fOk]
def mOkAt (l : List Int) (k : Nat) : Bool := inB (l.getD k 0) (1, 100) && (decide (k = 0) || decide (l.getD (k - 1) 0 < l.getD k 0))
def mOk (l : List Int) : Bool := (List.range l.length).all (mOkAt l)
theorem mOk_iff {l : List Int} : mOk l = true ↔ ∀ k, k < l.length → mOkAt l k = true := by simp [mOk]
theorem mOkAt_1 {l : List Int} {k : Nat} (hk : k < l.length) (h : inB l[k] (1, 100) = false) : ¬ mOk l = true := fun hm => by
  have := mOk_iff.1 hm k hk
  rw [mOkAt, getDE hk, h] at this
  simp at this
theorem mOkAt_2 {l : List Int} {k : Nat} (hk : k < l.length) (h0 : 0 < k) (h : l[k] ≤ l[k - 1]) : ¬ mOk l = true := fun hm => by
  have := mOk_iff.1 hm k hk
  rw [mOkAt, getDE hk, getDE (show k - 1 < l.length by omega)] at this
  simp only [Bool.and_eq_true, Bool.or_eq_true, decide_eq_true_eq] at this
  omega
theorem mOkAt_3 {l : List Int} {k : Nat} (hk : k < l.length) (h : inB l[k] (1, 100) = true) (h2 : k = 0 ∨ l[k - 1] < l[k]) : mOkAt l k = true := by
  rw [mOkAt, getDE hk, getDE (show k - 1 < l.length by omega), h]
  simpa using h2
def Cf.fl (c : Cf) : Int := (c.d * c.mn + 99) / 100
def Cf.ok (c : Cf) : Bool := c.fOk && (decide (c.ms.length ≤ 4) && (mOk c.ms && (decide (c.d = 0) || decide (c.fl < c.su + c.d))))
def Cf.chk (c : Cf) : Int := if c.ok = true then 0 else 70
theorem Cf.in_d {c : Cf} (h : c.fOk = true) : 0 ≤ c.d ∧ c.d ≤ 6 := inB_iff.1 (fOk_iff.1 h 0 (by omega))
theorem Cf.in_mn {c : Cf} (h : c.fOk = true) : 0 ≤ c.mn ∧ c.mn ≤ 100 := inB_iff.1 (fOk_iff.1 h 1 (by omega))
theorem Cf.in_su {c : Cf} (h : c.fOk = true) : 0 ≤ c.su ∧ c.su ≤ 3 := inB_iff.1 (fOk_iff.1 h 2 (by omega))
theorem Cf.in_po {c : Cf} (h : c.fOk = true) : 0 ≤ c.po ∧ c.po ≤ 3 := inB_iff.1 (fOk_iff.1 h 3 (by omega))
theorem Cf.ok_f {c : Cf} (h : c.ok = true) : c.fOk = true := by simp only [Cf.ok, Bool.and_eq_true] at h; exact h.1
theorem Cf.ok_m {c : Cf} (h : c.ok = true) : c.ms.length ≤ 4 := by simp only [Cf.ok, Bool.and_eq_true, decide_eq_true_eq] at h; exact h.2.1
theorem Cf.ok_s {c : Cf} (h : c.ok = true) : mOk c.ms = true := by simp only [Cf.ok, Bool.and_eq_true, decide_eq_true_eq] at h; exact h.2.2.1
theorem Cf.ok_l {c : Cf} (h : c.ok = true) : c.d = 0 ∨ c.fl < c.su + c.d := by simp only [Cf.ok, Bool.and_eq_true, Bool.or_eq_true, decide_eq_true_eq] at h; exact h.2.2.2
theorem Cf.ok_mk {c : Cf} (h1 : c.fOk = true) (h2 : c.ms.length ≤ 4) (h3 : mOk c.ms = true) (h4 : c.d = 0 ∨ c.fl < c.su + c.d) : c.ok = true := by simp only [Cf.ok, Bool.and_eq_true, Bool.or_eq_true, decide_eq_true_eq]; exact ⟨h1, h2, h3, h4⟩
theorem Cf.chk_ok {c : Cf} (h : c.ok = true) : c.chk = 0 := if_pos h
theorem Cf.chk_no {c : Cf} (h : ¬ c.ok = true) : c.chk = 70 := if_neg h
theorem dm_le {d m : Int} (h1 : 0 ≤ d ∧ d ≤ 6) (h2 : 0 ≤ m ∧ m ≤ 100) : 0 ≤ d * m ∧ d * m ≤ 600 := by
  have a := Int.mul_nonneg h1.1 h2.1
  have b : d * m ≤ 6 * m := Int.mul_le_mul_of_nonneg_right h1.2 h2.1
  omega
def Cf.flr (c : Cf) : Int := if c.ok = true then c.fl else 0
def Cf.bnd (c : Cf) : Int := if c.ok = true then c.d + c.su + c.po else 0
def Cf.skN (c : Cf) : Int := if c.sk = true then 1 else 0
def Cf.rowN (c : Cf) : List Int := if c.ok = true then c.nums ++ ([c.skN] ++ c.ms) else []
def Cf.zero : Cf := ⟨0, 0, 0, 0, 0, 0, 0, 0, 0, 0, 0, 0, 0, false, []⟩
/-- The group of a row, whether it may be or not. -/
def cfRaw (l : List Int) : Cf := ⟨l.getD 0 0, l.getD 1 0, l.getD 2 0, l.getD 3 0, l.getD 4 0, l.getD 5 0, l.getD 6 0, l.getD 7 0, l.getD 8 0, l.getD 9 0, l.getD 10 0, l.getD 11 0, l.getD 12 0, decide (l.getD 13 0 = 1), l.drop 14⟩
def rawOk (l : List Int) : Bool := decide (13 < l.length) && (inB (l.getD 13 0) (0, 1) && (cfRaw l).ok)
def cfOf (l : List Int) : Cf := if rawOk l = true then cfRaw l else Cf.zero
def cfE (l : List Int) : Int := if rawOk l = true then 0 else 70
def sameK (a b : Cf) (k : Nat) : Bool := (decide (a.sk = b.sk) && decide (a.ms = b.ms)) && (List.range k).all fun j => decide (b.nth j = a.nth j)
def sameC (a b : Cf) : Bool := sameK a b 13
theorem sameK_T {a b : Cf} {k : Nat} (h : sameK a b k = true) : sameK a b (k + 1) = decide (b.nth k = a.nth k) := by
  simp only [sameK, List.range_succ, List.all_append] at h ⊢
  rw [← Bool.and_assoc, h]; simp
theorem sameK_F {a b : Cf} {k : Nat} (h : sameK a b k = false) : sameK a b (k + 1) = false := by
  simp only [sameK, List.range_succ, List.all_append] at h ⊢
  rw [← Bool.and_assoc, h]; simp
theorem nums_at (c : Cf) : ∀ {k : Nat}, k < 13 → (i64s c.nums)[k]? = some (.int .i64 (c.nth k))
  | 0, _ => rfl | 1, _ => rfl | 2, _ => rfl | 3, _ => rfl | 4, _ => rfl | 5, _ => rfl | 6, _ => rfl | 7, _ => rfl | 8, _ => rfl | 9, _ => rfl | 10, _ => rfl | 11, _ => rfl | 12, _ => rfl
  | k + 13, h => by omega
/-- A group's cells while a row's numbers are put there. -/
def ofCs (l : List Int) : Nat → List Value
  | 0 => Cf.zero.cs (none, 0)
  | k + 1 => (ofCs l k).set k (.int .i64 (l.getD k 0))
theorem ofCs_len (l : List Int) (k : Nat) : (ofCs l k).length = 15 := by
  induction k with
  | zero => rfl
  | succ k ih => simp [ofCs, ih]
theorem ofCs_put (l : List Int) {k : Nat} (h : k < 13) : putL (ofCs l k) k [.int .i64 (l.getD k 0)] = some (ofCs l (k + 1)) := putL_one (by rw [ofCs_len]; omega)
theorem no_at {c : Cf} (k : Nat) (hk : k < 13) (h : inB (c.nth k) (limAt k) = false) : ¬ c.ok = true := fun ho => by
  have := fOk_iff.1 (Cf.ok_f ho) k hk
  rw [h] at this; cases this
/-- The waits. -/
def Cf.wt (c : Cf) (k : Nat) : Int := [c.hi, c.ho, c.wu, c.dr, c.de].getD k 0
def Cf.wts (c : Cf) : List Value := [.int .i64 c.hi, .int .i64 c.ho, .int .i64 c.wu, .int .i64 c.dr, .int .i64 c.de]
theorem wt_at (c : Cf) : ∀ {k : Nat}, k < 5 → c.wts[0 + k * 1]? = some (.int .i64 (c.wt k))
  | 0, _ => rfl | 1, _ => rfl | 2, _ => rfl | 3, _ => rfl | 4, _ => rfl
  | k + 5, h => by omega
theorem wt_no {c : Cf} : ∀ {k : Nat}, k < 5 → inB (c.wt k) (0, 20) = false → ¬ c.ok = true
  | 0, _, h => no_at 4 (by omega) h
  | 1, _, h => no_at 5 (by omega) h
  | 2, _, h => no_at 6 (by omega) h
  | 3, _, h => no_at 7 (by omega) h
  | 4, _, h => no_at 11 (by omega) h
  | k + 5, h, _ => by omega
theorem fOk_mk {c : Cf} (h0 : inB c.d (0, 6) = true) (h1 : inB c.mn (0, 100) = true) (h2 : inB c.su (0, 3) = true) (h3 : inB c.po (0, 3) = true) (hw : ∀ k, k < 5 → inB (c.wt k) (0, 20) = true) (h8 : inB c.re (1, 20) = true) (h9 : inB c.ti (1, 20) = true) (h10 : inB c.fa (1, 20) = true)
    (h12 : inB c.ve (1, 1099511627776) = true) : c.fOk = true := fOk_iff.2 fun
  | 0, _ => h0 | 1, _ => h1 | 2, _ => h2 | 3, _ => h3 | 4, _ => hw 0 (by omega) | 5, _ => hw 1 (by omega) | 6, _ => hw 2 (by omega) | 7, _ => hw 3 (by omega) | 8, _ => h8 | 9, _ => h9 | 10, _ => h10 | 11, _ => hw 4 (by omega) | 12, _ => h12
  | k + 13, h => by omega
/-- Groups are the same. -/
theorem sameC_iff {a b : Cf} : sameC a b = true ↔ a = b := by
  obtain ⟨a1, a2, a3, a4, a5, a6, a7, a8, a9, a10, a11, a12, a13, a14, a15⟩ := a
  obtain ⟨b1, b2, b3, b4, b5, b6, b7, b8, b9, b10, b11, b12, b13, b14, b15⟩ := b
  simp only [sameC, sameK, Bool.and_eq_true, decide_eq_true_eq, List.all_eq_true, List.mem_range, Cf.mk.injEq]
  constructor
  · rintro ⟨⟨h1, h2⟩, h3⟩
    have := fun k hk => (h3 k hk).symm
    exact ⟨this 0 (by omega), this 1 (by omega), this 2 (by omega), this 3 (by omega), this 4 (by omega), this 5 (by omega), this 6 (by omega), this 7 (by omega), this 8 (by omega), this 9 (by omega), this 10 (by omega), this 11 (by omega), this 12 (by omega), h1, h2⟩
  · rintro ⟨rfl, rfl, rfl, rfl, rfl, rfl, rfl, rfl, rfl, rfl, rfl, rfl, rfl, rfl, rfl⟩
    exact ⟨⟨rfl, rfl⟩, fun _ _ => rfl⟩
theorem nums_inj {a b : Cf} (h : i64s a.nums = i64s b.nums) (h1 : a.sk = b.sk) (h2 : a.ms = b.ms) : a = b := by
  obtain ⟨a1, a2, a3, a4, a5, a6, a7, a8, a9, a10, a11, a12, a13, a14, a15⟩ := a
  obtain ⟨b1, b2, b3, b4, b5, b6, b7, b8, b9, b10, b11, b12, b13, b14, b15⟩ := b
  simp only [i64s, Cf.nums, List.map_cons, List.map_nil, List.cons.injEq, Value.int.injEq, true_and, and_true] at h
  simp only at h1 h2
  simp only [Cf.mk.injEq]
  exact ⟨h.1, h.2.1, h.2.2.1, h.2.2.2.1, h.2.2.2.2.1, h.2.2.2.2.2.1, h.2.2.2.2.2.2.1, h.2.2.2.2.2.2.2.1, h.2.2.2.2.2.2.2.2.1, h.2.2.2.2.2.2.2.2.2.1, h.2.2.2.2.2.2.2.2.2.2.1, h.2.2.2.2.2.2.2.2.2.2.2.1, h.2.2.2.2.2.2.2.2.2.2.2.2, h1, h2⟩
end Go.Proofs.YtcppphgpbaablaaDoor
namespace Go.Proofs.YtcppphgpbaablaaDoor
set_option linter.unusedVariables false
theorem cf_row_len {c : Cf} (h : c.ok = true) : c.rowN.length = 14 + c.ms.length := by rw [Cf.rowN, if_pos h]; simp [Cf.nums]; omega
theorem row_no {c : Cf} (h : ¬ c.ok = true) : c.rowN = [] := if_neg h
theorem raw_row {c : Cf} (h : c.ok = true) : cfRaw c.rowN = c := by
  rw [Cf.rowN, if_pos h]
  obtain ⟨a1, a2, a3, a4, a5, a6, a7, a8, a9, a10, a11, a12, a13, a14, a15⟩ := c
  cases a14 <;> simp [cfRaw, Cf.nums, Cf.skN]
theorem row_raw {c : Cf} (h : c.ok = true) : rawOk c.rowN = true := by
  have h1 := cf_row_len h
  have h2 := raw_row h
  simp only [rawOk, Bool.and_eq_true, decide_eq_true_eq, h2]
  refine ⟨by omega, ?_, h⟩
  rw [Cf.rowN, if_pos h]
  obtain ⟨a1, a2, a3, a4, a5, a6, a7, a8, a9, a10, a11, a12, a13, a14, a15⟩ := c
  cases a14 <;> simp [Cf.nums, Cf.skN, inB]
theorem of_row {c : Cf} (h : c.ok = true) : cfOf c.rowN = c := by rw [cfOf, if_pos (row_raw h), raw_row h]
theorem ofE_row {c : Cf} (h : c.ok = true) : cfE c.rowN = 0 := if_pos (row_raw h)
theorem raw_ok {l : List Int} (h : rawOk l = true) : 13 < l.length ∧ inB (l.getD 13 0) (0, 1) = true ∧ (cfRaw l).ok = true := by
  simpa only [rawOk, Bool.and_eq_true, decide_eq_true_eq] using h
theorem row_of {l : List Int} (h : rawOk l = true) : (cfOf l).rowN = l := by
  obtain ⟨h1, h2, h3⟩ := raw_ok h
  rw [cfOf, if_pos h, Cf.rowN, if_pos h3]
  have h4 := inB_iff.1 h2
  match l, h1 with
  | a0 :: a1 :: a2 :: a3 :: a4 :: a5 :: a6 :: a7 :: a8 :: a9 :: a10 :: a11 :: a12 :: a13 :: r, _ =>
    have h5 : a13 = 0 ∨ a13 = 1 := by
      have : (a0 :: a1 :: a2 :: a3 :: a4 :: a5 :: a6 :: a7 :: a8 :: a9 :: a10 :: a11 :: a12 :: a13 :: r).getD 13 0 = a13 := rfl
      rw [this] at h4
      simp only at h4
      omega
    rcases h5 with rfl | rfl <;> simp [cfRaw, Cf.nums, Cf.skN]
theorem of_ok {l : List Int} (h : rawOk l = true) : (cfOf l).ok = true := by rw [cfOf, if_pos h]; exact (raw_ok h).2.2
theorem of_no {l : List Int} (h : ¬ rawOk l = true) : cfOf l = Cf.zero := if_neg h
theorem ofE_0 {l : List Int} (h : cfE l = 0) : rawOk l = true := by
  unfold cfE at h
  split at h
  · assumption
  · cases h
theorem ofE_70 {l : List Int} (h : cfE l ≠ 0) : ¬ rawOk l = true := fun h1 => h (if_pos h1)
theorem cfOf_ms (l : List Int) : (cfOf l).ms.length ≤ l.length := by
  unfold cfOf
  split
  · simp [cfRaw]
  · simp [Cf.zero]
theorem row_inj {c d : Cf} (hc : c.ok = true) (hd : d.ok = true) : c.rowN = d.rowN ↔ c = d := by
  constructor
  · intro h
    rw [← of_row hc, ← of_row hd, h]
  · rintro rfl; rfl
theorem chk_0 {c : Cf} (h : c.chk = 0) : c.ok = true := by
  by_cases h1 : c.ok = true
  · exact h1
  · rw [c.chk_no h1] at h; cases h
theorem chk_70 {c : Cf} (h : c.chk ≠ 0) : ¬ c.ok = true := fun h1 => h (c.chk_ok h1)
theorem fl_facts {c : Cf} (h : c.ok = true) : c.d * c.mn ≤ 100 * c.fl ∧ 100 * (c.fl - 1) < c.d * c.mn ∧ 0 ≤ c.fl ∧ c.fl ≤ c.d ∧ c.fl ≤ 6 ∧ 0 ≤ c.d * c.mn ∧ c.d * c.mn ≤ 600 := by
  have h1 := Cf.in_d (Cf.ok_f h)
  have h2 := Cf.in_mn (Cf.ok_f h)
  have h3 := dm_le h1 h2
  have h4 : c.d * c.mn ≤ c.d * 100 := Int.mul_le_mul_of_nonneg_left h2.2 h1.1
  unfold Cf.fl
  omega
end Go.Proofs.YtcppphgpbaablaaDoor
namespace Go.Proofs.YtcppphgpbaablaaDoor
set_option linter.unusedVariables false
open Go.RowKit
/-- A launch that is meant. -/
structure It1 where
  tok : Int
  ver : Int
  zon : Int
  warm : Bool
def It1.cs (x : It1) : List Value := [.int .i64 x.tok, .int .i64 x.ver, .int .i64 x.zon, .bool x.warm]
def It1.v (x : It1) : Value := .agg x.cs.toArray
/-- An instance that is kept. -/
structure Kp where
  id : Int
  tok : Int
  ver : Int
  zon : Int
  ph : UInt8
  si : Int
  gu : Bool
  co : Bool
def Kp.cs (k : Kp) : List Value := [.int .i64 k.id, .int .i64 k.tok, .int .i64 k.ver, .int .i64 k.zon, .int .u8 k.ph.toNat, .int .i64 k.si, .bool k.gu, .bool k.co]
def Kp.v (k : Kp) : Value := .agg k.cs.toArray
/-- A refresh. -/
structure Rf where
  st : UInt8
  fr : Int
  ta : Int
  sp : Int
  pa : Bool
  si : Int
  fa : Int
def Rf.cs (r : Rf) : List Value := [.int .u8 r.st.toNat, .int .i64 r.fr, .int .i64 r.ta, .int .i64 r.sp, .bool r.pa, .int .i64 r.si, .int .i64 r.fa]
def Rf.v (r : Rf) : Value := .agg r.cs.toArray
def itsV (l : List It1) : List Value := l.flatMap It1.cs
def kpsV (l : List Kp) : List Value := l.flatMap Kp.cs
theorem br_flat_len {α : Type} (f : α → List Value) (n : Nat) (hf : ∀ a, (f a).length = n) (l : List α) : (l.flatMap f).length = l.length * n := by
  induction l with
  | nil => simp
  | cons b l ih => rw [List.flatMap_cons, List.length_append, ih, hf, List.length_cons, Nat.add_mul, Nat.one_mul, Nat.add_comm]
theorem takeL_app {n : Nat} {a b : List Value} (h : a.length = n) : takeL (a ++ b) 0 n = some a := by
  induction a generalizing n with
  | nil => subst h; cases b <;> rfl
  | cons x a ih =>
    subst h
    have := ih (n := a.length) rfl
    simp only [List.cons_append, List.length_cons, takeL, this]
theorem takeL_skip {a b : List Value} {k n : Nat} : takeL (a ++ b) (a.length + k) n = takeL b k n := by
  induction a with
  | nil => simp
  | cons x a ih => rw [List.cons_append, List.length_cons, show a.length + 1 + k = a.length + k + 1 by omega, takeL, ih]
theorem flat_at {α : Type} (f : α → List Value) (n : Nat) (hf : ∀ a, (f a).length = n) {l : List α} {k : Nat} (h : k < l.length) : takeL (l.flatMap f) (k * n) n = some (f l[k]) := by
  induction l generalizing k with
  | nil => simp at h
  | cons b l ih =>
    rw [List.flatMap_cons]
    cases k with
    | zero => rw [Nat.zero_mul]; exact takeL_app (hf b)
    | succ k => rw [show (k + 1) * n = (f b).length + k * n by rw [hf, Nat.add_mul, Nat.one_mul, Nat.add_comm], takeL_skip, ih (by simpa using h)]; rfl
theorem itsV_len (l : List It1) : (itsV l).length = l.length * 4 := br_flat_len _ 4 (fun _ => rfl) l
theorem kpsV_len (l : List Kp) : (kpsV l).length = l.length * 8 := br_flat_len _ 8 (fun _ => rfl) l
theorem its_at {l : List It1} {k : Nat} (h : k < l.length) : takeL (itsV l) (k * 4) 4 = some l[k].cs := flat_at _ 4 (fun _ => rfl) h
theorem kps_at {l : List Kp} {k : Nat} (h : k < l.length) : takeL (kpsV l) (k * 8) 8 = some l[k].cs := flat_at _ 8 (fun _ => rfl) h
theorem its_f {l : List It1} {k : Nat} (h : k < l.length) (f : Nat) {v : Value} (hv : l[k].cs[f]? = some v) : (itsV l)[k * 4 + f]? = some v := (takeL_spec (its_at h)).2 f v hv
theorem kps_f {l : List Kp} {k : Nat} (h : k < l.length) (f : Nat) {v : Value} (hv : l[k].cs[f]? = some v) : (kpsV l)[k * 8 + f]? = some v := (takeL_spec (kps_at h)).2 f v hv
theorem its_one (l : List It1) : ∀ u ∈ itsV l, u.oneCell' = true := by
  intro u hu
  obtain ⟨b, _, hb⟩ := List.mem_flatMap.1 hu
  simp only [It1.cs, List.mem_cons, List.not_mem_nil, or_false] at hb
  rcases hb with rfl | rfl | rfl | rfl <;> rfl
theorem kps_one (l : List Kp) : ∀ u ∈ kpsV l, u.oneCell' = true := by
  intro u hu
  obtain ⟨b, _, hb⟩ := List.mem_flatMap.1 hu
  simp only [Kp.cs, List.mem_cons, List.not_mem_nil, or_false] at hb
  rcases hb with rfl | rfl | rfl | rfl | rfl | rfl | rfl | rfl <;> rfl
theorem itsV_app (l m : List It1) : itsV (l ++ m) = itsV l ++ itsV m := List.flatMap_append
theorem kpsV_app (l m : List Kp) : kpsV (l ++ m) = kpsV l ++ kpsV m := List.flatMap_append
/-- Where a brain's rows lie: marks, launches, instances. -/
abbrev BrA := AdC × AdC × AdC
structure Br where
  ep : Int
  sq : Int
  set : Bool
  cf : Cf
  its : List It1
  kps : List Kp
  rf : Rf
def Br.cs (b : Br) (z : BrA) : List Value := [.int .i64 b.ep, .int .i64 b.sq, .bool b.set,
  .int .i64 b.cf.d, .int .i64 b.cf.mn, .int .i64 b.cf.su, .int .i64 b.cf.po, .int .i64 b.cf.hi, .int .i64 b.cf.ho, .int .i64 b.cf.wu, .int .i64 b.cf.dr, .int .i64 b.cf.re, .int .i64 b.cf.ti, .int .i64 b.cf.fa, .int .i64 b.cf.de, .int .i64 b.cf.ve, .bool b.cf.sk, .slice z.1.1 b.cf.ms.length z.1.2,
  .slice z.2.1.1 b.its.length z.2.1.2, .slice z.2.2.1 b.kps.length z.2.2.2,
  .int .u8 b.rf.st.toNat, .int .i64 b.rf.fr, .int .i64 b.rf.ta, .int .i64 b.rf.sp, .bool b.rf.pa, .int .i64 b.rf.si, .int .i64 b.rf.fa]
def Br.v (b : Br) (z : BrA) : Value := .agg (b.cs z).toArray
theorem Br.cs_one (b : Br) (z : BrA) : ∀ u ∈ b.cs z, u.oneCell' = true := by simp [Br.cs, Value.oneCell']
/-- What may be read of a brain. -/
abbrev Br.rd (b : Br) (z : BrA) : List Fact := [.rd z.1.1 (i64s b.cf.ms), .rd z.2.1.1 (itsV b.its), .rd z.2.2.1 (kpsV b.kps)]
def Br.rows (b : Br) (z : BrA) : List Res := [.row 3 1 (.slice z.1.1 b.cf.ms.length z.1.2) b.cf.ms.length (i64s b.cf.ms), .row 48 4 (.slice z.2.1.1 b.its.length z.2.1.2) b.its.length (itsV b.its), .row 46 8 (.slice z.2.2.1 b.kps.length z.2.2.2) b.kps.length (kpsV b.kps)]
def goes (p : UInt8) : Bool := decide (5 ≤ p.toNat ∧ p.toNat ≤ 8)
def stands (p : UInt8) : Bool := decide (p.toNat = 1 ∨ p.toNat = 2 ∨ p.toNat = 3 ∨ p.toNat = 4 ∨ p.toNat = 10)
def Br.act (b : Br) : Bool := decide (b.rf.st.toNat = 1)
def Br.ver (b : Br) : Int := if b.act = true then b.rf.ta else b.cf.ve
def Br.old (b : Br) (k : Kp) : Bool := decide (k.ver ≠ b.ver) && (!goes k.ph && !(k.gu && b.cf.sk))
/-- One that there is. -/
structure On where
  zon : Int
  old : Bool
  sta : Bool
  warm : Bool
  ser : Bool
def On.cs (o : On) : List Value := [.int .i64 o.zon, .bool o.old, .bool o.sta, .bool o.warm, .bool o.ser]
def On.v (o : On) : Value := .agg o.cs.toArray
def Br.onI (b : Br) (x : It1) : On := ⟨x.zon, !decide (x.ver = b.ver), !x.warm, x.warm, false⟩
def Br.onK (b : Br) (k : Kp) : On := ⟨k.zon, b.old k, stands k.ph, decide (k.ph.toNat = 9), decide (k.ph.toNat = 4)⟩
def Br.ones (b : Br) : List On := b.its.map b.onI ++ b.kps.map b.onK
theorem Br.ones_len (b : Br) : b.ones.length = b.its.length + b.kps.length := by simp [Br.ones]
def onY (l : List On) (k : Nat) : List Value := [(match l[k]? with
  | some s => s.v
  | none => On.v ⟨0, false, false, false, false⟩)]
theorem onY_at {l : List On} {k : Nat} (h : k < l.length) : onY l k = [l[k].v] := by rw [onY, List.getElem?_eq_getElem h]
theorem onY_I (b : Br) {k : Nat} (h : k < b.its.length) : onY b.ones k = [(b.onI b.its[k]).v] := by
  rw [onY_at (by rw [Br.ones_len]; omega)]
  simp [Br.ones, List.getElem_append_left, h]
theorem onY_K (b : Br) {k : Nat} (h : k < b.kps.length) : onY b.ones (b.its.length + k) = [(b.onK b.kps[k]).v] := by
  rw [onY_at (by rw [Br.ones_len]; omega)]
  simp [Br.ones, List.getElem_append_right]
/-- What is counted: all, the old ones, those that stand, the warm ones, those that serve. -/
def On.is (o : On) : Nat → Bool
  | 0 => true | 1 => o.old | 2 => o.sta | 3 => o.warm | _ => o.ser
def Br.cnt (b : Br) (j : Nat) : Nat := b.ones.countP fun o => o.is j
theorem Br.cnt_all (b : Br) : b.cnt 0 = b.its.length + b.kps.length := by rw [← Br.ones_len]; simp [Br.cnt, On.is]
theorem Br.cnt_le (b : Br) (j : Nat) : b.cnt j ≤ b.its.length + b.kps.length := by rw [← Br.ones_len]; exact List.countP_le_length
theorem Br.cnt_eq (b : Br) (j : Nat) : b.cnt j = b.its.countP (fun x => (b.onI x).is j) + b.kps.countP (fun k => (b.onK k).is j) := by
  rw [Br.cnt, Br.ones, List.countP_append, List.countP_map, List.countP_map]; rfl
def Br.more (b : Br) : Bool := b.act && (!b.rf.pa && decide (0 < b.cnt 1))
def Br.want (b : Br) : Int := if b.more = true then IntKind.i64.wrap (b.cf.d + b.cf.su) else b.cf.d
def Br.counts (b : Br) : List Value := [.int .i64 b.ver, .int .i64 (b.cnt 1 : Nat), .int .i64 (b.cnt 2 : Nat), .int .i64 (b.cnt 3 : Nat), .int .i64 (b.cnt 0 : Nat), .int .i64 (b.cnt 4 : Nat), .int .i64 b.want, .int .i64 b.cf.flr, .int .i64 b.cf.bnd]
def Br.zones (b : Br) : List Int := (b.ones.filter (·.sta)).map (·.zon)
theorem Br.zones_len (b : Br) : b.zones.length = b.cnt 2 := by rw [Br.zones, List.length_map, ← List.countP_eq_length_filter]; rfl
def Br.zonesK (b : Br) (k : Nat) : List Int := ((b.ones.take k).filter (·.sta)).map (·.zon)
theorem zonesK_yes {b : Br} {k : Nat} (h : k < b.ones.length) (hi : b.ones[k].sta = true) : b.zonesK (k + 1) = b.zonesK k ++ [b.ones[k].zon] := by
  rw [Br.zonesK, List.take_succ_eq_append_getElem h, List.filter_append, List.map_append, List.filter_cons_of_pos hi]; rfl
theorem zonesK_no {b : Br} {k : Nat} (h : k < b.ones.length) (hi : b.ones[k].sta = false) : b.zonesK (k + 1) = b.zonesK k := by
  rw [Br.zonesK, List.take_succ_eq_append_getElem h, List.filter_append, List.map_append, List.filter_cons_of_neg (by simp [hi])]; simp [Br.zonesK]
theorem zonesK_end (b : Br) : b.zonesK b.ones.length = b.zones := by rw [Br.zonesK, List.take_length]; rfl
theorem zonesK_len (b : Br) (k : Nat) : (b.zonesK k).length ≤ b.ones.length := by
  rw [Br.zonesK, List.length_map]
  refine Nat.le_trans (List.length_filter_le _ _) ?_
  rw [List.length_take]; omega
/-- A count's cells, while they are counted. -/
def ctG (v w f o : Int) (g : Nat → Nat) : List Value := [.int .i64 v, .int .i64 (g 1 : Nat), .int .i64 (g 2 : Nat), .int .i64 (g 3 : Nat), .int .i64 (g 0 : Nat), .int .i64 (g 4 : Nat), .int .i64 w, .int .i64 f, .int .i64 o]
/-- Which cell of counts one counts. -/
def ctOff : Nat → Nat
  | 0 => 4 | 1 => 1 | 2 => 2 | 3 => 3 | _ => 5
def upd (g : Nat → Nat) (j n : Nat) : Nat → Nat := fun i => if i = j then n else g i
theorem ctG_at (v w f o : Int) (g : Nat → Nat) : ∀ {j : Nat}, j < 5 → (ctG v w f o g)[ctOff j]? = some (.int .i64 (g j : Nat))
  | 0, _ => rfl | 1, _ => rfl | 2, _ => rfl | 3, _ => rfl | 4, _ => rfl
  | j + 5, h => by omega
theorem ctG_put (v w f o : Int) (g : Nat → Nat) (n : Nat) : ∀ {j : Nat}, j < 5 → putL (ctG v w f o g) (ctOff j) [.int .i64 (n : Nat)] = some (ctG v w f o (upd g j n))
  | 0, _ => rfl | 1, _ => rfl | 2, _ => rfl | 3, _ => rfl | 4, _ => rfl
  | j + 5, h => by omega
theorem upd_same (g : Nat → Nat) (j : Nat) : upd g j (g j) = g := by
  funext i; unfold upd; split
  · rename_i e; rw [e]
  · rfl
theorem upd_upd (g : Nat → Nat) (j n m : Nat) : upd (upd g j n) j m = upd g j m := by
  funext i; unfold upd; split <;> rfl
/-- The counts that are done while the j-th is counted, and of it those of the first k. -/
def cntG (b : Br) (j k : Nat) : Nat → Nat := fun i => if i < j then b.cnt i else if i = j then (b.ones.take k).countP (fun o => o.is j) else 0
theorem cntG_self (b : Br) (j k : Nat) : cntG b j k j = (b.ones.take k).countP (fun o => o.is j) := by simp [cntG]
theorem cntG_yes {b : Br} {j k : Nat} (h : k < b.ones.length) (hi : b.ones[k].is j = true) : upd (cntG b j k) j (cntG b j k j + 1) = cntG b j (k + 1) := by
  funext i
  unfold upd cntG
  by_cases e : i = j
  · subst e
    rw [if_pos rfl, if_neg (Nat.lt_irrefl _), if_pos rfl, if_neg (Nat.lt_irrefl _), if_pos rfl, List.take_succ_eq_append_getElem h, List.countP_append, List.countP_singleton, if_pos hi]
  · rw [if_neg e, if_neg e, if_neg e]
theorem cntG_no {b : Br} {j k : Nat} (h : k < b.ones.length) (hi : b.ones[k].is j = false) : cntG b j (k + 1) = cntG b j k := by
  funext i
  unfold cntG
  split
  · rfl
  · split
    · rename_i e; subst e
      rw [List.take_succ_eq_append_getElem h, List.countP_append, List.countP_singleton, hi]; rfl
    · rfl
theorem cntG_end (b : Br) (j : Nat) : cntG b j b.ones.length = cntG b (j + 1) 0 := by
  funext i
  unfold cntG
  rw [List.take_length]
  by_cases h1 : i < j
  · rw [if_pos h1, if_pos (by omega)]
  · rw [if_neg h1]
    by_cases h2 : i = j
    · subst h2; rw [if_pos rfl, if_pos (by omega)]; rfl
    · rw [if_neg h2, if_neg (by omega)]
      split <;> simp
theorem cntG_done (b : Br) (v w f o : Int) : ctG v w f o (cntG b 5 0) = [.int .i64 v, .int .i64 (b.cnt 1 : Nat), .int .i64 (b.cnt 2 : Nat), .int .i64 (b.cnt 3 : Nat), .int .i64 (b.cnt 0 : Nat), .int .i64 (b.cnt 4 : Nat), .int .i64 w, .int .i64 f, .int .i64 o] := rfl
end Go.Proofs.YtcppphgpbaablaaDoor
namespace Go.Proofs.YtcppphgpbaablaaDoor
set_option linter.unusedVariables false
open Go.RowKit
def Br.tk (b : Br) (k : Nat) : Int := match b.its[k]? with
  | some x => x.tok
  | none => 0
def Br.lastT (b : Br) : Nat → Int
  | 0 => 0
  | k + 1 => b.tk k
def Br.idn (b : Br) (k : Nat) : Int := match b.kps[k]? with
  | some x => x.id
  | none => 0
def Br.lastI (b : Br) : Nat → Int
  | 0 => 0
  | k + 1 => b.idn k
def Br.phn (b : Br) (k : Nat) : Nat := match b.kps[k]? with
  | some x => x.ph.toNat
  | none => 1
theorem tk_at {b : Br} {k : Nat} (h : k < b.its.length) : b.tk k = b.its[k].tok := by rw [Br.tk, List.getElem?_eq_getElem h]
theorem idn_at {b : Br} {k : Nat} (h : k < b.kps.length) : b.idn k = b.kps[k].id := by rw [Br.idn, List.getElem?_eq_getElem h]
theorem phn_at {b : Br} {k : Nat} (h : k < b.kps.length) : b.phn k = b.kps[k].ph.toNat := by rw [Br.phn, List.getElem?_eq_getElem h]

structure Br.TokOk (b : Br) (k : Nat) : Prop where
  lo : b.lastT k < b.tk k
  hi : b.tk k ≤ b.sq
structure Br.KpOk (b : Br) (k : Nat) : Prop where
  lo : b.lastI k < b.idn k
  hi : b.idn k ≤ 1099511627776
  p1 : 1 ≤ b.phn k
  p2 : b.phn k ≤ 10
structure Br.Ok (b : Br) : Prop where
  ep : 0 ≤ b.ep ∧ b.ep ≤ 1099511627776
  sq : 0 ≤ b.sq ∧ b.sq ≤ 1099511627776
  its : ∀ k, k < b.its.length → b.TokOk k
  kps : ∀ k, k < b.kps.length → b.KpOk k
  rf : b.rf.st.toNat = 1 → (1 ≤ b.rf.fr ∧ b.rf.fr ≤ 1099511627776) ∧ 1 ≤ b.rf.ta ∧ b.rf.ta ≤ 1099511627776
  un : b.set = false → b.its.length = 0 ∧ b.rf.st.toNat = 0
  cf : b.set = true → b.cf.ok = true
open Classical in
noncomputable def Br.okB (b : Br) : Bool := decide b.Ok
theorem okB_iff {b : Br} : b.okB = true ↔ b.Ok := by simp [Br.okB]
theorem okB_yes {b : Br} (h : b.Ok) : b.okB = true := okB_iff.2 h
theorem okB_no {b : Br} (h : ¬ b.Ok) : b.okB = false := by
  cases e : b.okB
  · rfl
  · exact absurd (okB_iff.1 e) h
def Br.great (b : Br) : Bool := decide (40 < b.its.length ∨ 40 < b.kps.length ∨ 40 < b.cf.ms.length)
theorem great_no {b : Br} (h : b.great = false) : b.its.length ≤ 40 ∧ b.kps.length ≤ 40 ∧ b.cf.ms.length ≤ 40 := by
  simp only [Br.great, decide_eq_false_iff_not] at h; omega
/-- How many of the first k go. -/
def Br.go (b : Br) (k : Nat) : Nat := (b.kps.take k).countP fun x => goes x.ph
theorem go_yes {b : Br} {k : Nat} (h : k < b.kps.length) (hi : goes b.kps[k].ph = true) : b.go (k + 1) = b.go k + 1 := by
  rw [Br.go, List.take_succ_eq_append_getElem h, List.countP_append, List.countP_singleton, if_pos hi]; rfl
theorem go_no {b : Br} {k : Nat} (h : k < b.kps.length) (hi : goes b.kps[k].ph = false) : b.go (k + 1) = b.go k := by
  rw [Br.go, List.take_succ_eq_append_getElem h, List.countP_append, List.countP_singleton, hi]; rfl
theorem go_le (b : Br) (k : Nat) : b.go k ≤ b.kps.length := by
  refine Nat.le_trans List.countP_le_length ?_
  rw [List.length_take]; omega
theorem go_end (b : Br) : b.go b.kps.length = b.kps.countP fun x => goes x.ph := by rw [Br.go, List.take_length]
theorem tri {l : List Kp} (h : ∀ x ∈ l, 1 ≤ x.ph.toNat ∧ x.ph.toNat ≤ 10) : l.countP (fun k => stands k.ph) + l.countP (fun k => decide (k.ph.toNat = 9)) + l.countP (fun k => goes k.ph) = l.length := by
  induction l with
  | nil => rfl
  | cons x l ih =>
    have i1 := ih fun y hy => h y (List.mem_cons_of_mem _ hy)
    have i2 := h x List.mem_cons_self
    have e : (if stands x.ph = true then 1 else 0) + (if decide (x.ph.toNat = 9) = true then 1 else 0) + (if goes x.ph = true then 1 else 0) = 1 := by
      simp only [stands, goes, decide_eq_true_eq]
      split <;> split <;> split <;> omega
    simp only [List.countP_cons, List.length_cons]
    omega
theorem two_le {α : Type} {p q : α → Bool} (h : ∀ x, p x = true → q x = false) : ∀ l : List α, l.countP p + l.countP q ≤ l.length
  | [] => Nat.le_refl _
  | x :: l => by
    have i1 := two_le h l
    have e : (if p x = true then 1 else 0) + (if q x = true then 1 else 0) ≤ 1 := by
      by_cases e : p x = true
      · rw [if_pos e, h x e]; simp
      · rw [if_neg e]; split <;> omega
    simp only [List.countP_cons, List.length_cons]
    omega
theorem Br.Ok.ph {b : Br} (h : b.Ok) : ∀ x ∈ b.kps, 1 ≤ x.ph.toNat ∧ x.ph.toNat ≤ 10 := fun x hx => by
  obtain ⟨k, hk, rfl⟩ := List.mem_iff_getElem.1 hx
  have := h.kps k hk
  have e := phn_at hk
  exact ⟨by have := this.p1; omega, by have := this.p2; omega⟩
theorem sums_all {b : Br} (h : b.Ok) : b.cnt 2 + b.cnt 3 + b.go b.kps.length = b.cnt 0 := by
  rw [b.cnt_eq 2, b.cnt_eq 3, b.cnt_all, go_end]
  have h1 := tri h.ph
  have h2 := List.length_eq_countP_add_countP (fun x : It1 => x.warm) (l := b.its)
  have e1 : (fun x : It1 => (b.onI x).is 2) = fun x => !x.warm := rfl
  have e2 : (fun x : It1 => (b.onI x).is 3) = fun x => x.warm := rfl
  have e3 : (fun x : Kp => (b.onK x).is 2) = fun x => stands x.ph := rfl
  have e4 : (fun x : Kp => (b.onK x).is 3) = fun x => decide (x.ph.toNat = 9) := rfl
  have e5 : b.its.countP (fun x => !x.warm) = b.its.countP (fun x => decide (¬ x.warm = true)) := by congr 1; funext x; simp
  rw [e1, e2, e3, e4, e5]
  omega
theorem sums_old {b : Br} : b.cnt 1 + b.go b.kps.length ≤ b.cnt 0 := by
  rw [b.cnt_eq 1, b.cnt_all, go_end]
  have h1 := two_le (p := fun k : Kp => (b.onK k).is 1) (q := fun k => goes k.ph) (fun k hk => by
    have : b.old k = true := hk
    simp only [Br.old, Bool.and_eq_true, Bool.not_eq_true'] at this
    exact this.2.1) b.kps
  have h2 : b.its.countP (fun x => (b.onI x).is 1) ≤ b.its.length := List.countP_le_length
  omega
theorem sums_serve {b : Br} : b.cnt 4 ≤ b.cnt 2 := by
  refine List.countP_mono_left fun o ho h => ?_
  rcases List.mem_append.1 ho with ho | ho
  · obtain ⟨x, _, rfl⟩ := List.mem_map.1 ho
    simp [Br.onI, On.is] at h
  · obtain ⟨x, _, rfl⟩ := List.mem_map.1 ho
    simp only [Br.onK, On.is, decide_eq_true_eq, stands] at h ⊢
    omega
theorem want_eq {b : Br} (h : b.cf.ok = true) : b.want = b.cf.d + (if b.more = true then b.cf.su else 0) := by
  have h1 := Cf.in_d (Cf.ok_f h)
  have h2 := Cf.in_su (Cf.ok_f h)
  unfold Br.want
  split
  · exact w64 (by omega) (by omega)
  · omega
theorem flr_le {c : Cf} (h : c.ok = true) : c.flr ≤ c.d := by
  have h1 := Cf.in_d (Cf.ok_f h)
  have h2 := Cf.in_mn (Cf.ok_f h)
  have h3 : c.d * c.mn ≤ c.d * 100 := Int.mul_le_mul_of_nonneg_left h2.2 h1.1
  rw [Cf.flr, if_pos h, Cf.fl]
  omega
theorem bnd_ge {b : Br} (h : b.cf.ok = true) : b.want ≤ b.cf.bnd := by
  have h2 := Cf.in_su (Cf.ok_f h)
  have h3 := Cf.in_po (Cf.ok_f h)
  rw [want_eq h, Cf.bnd, if_pos h]
  split <;> omega
/-- One more that is kept. -/
def Br.addK (b : Br) (k : Kp) : Br := { b with kps := b.kps ++ [k] }
theorem add_cnt (b : Br) (k : Kp) (j : Nat) : (b.addK k).cnt j = b.cnt j + (if (b.onK k).is j = true then 1 else 0) := by
  have e : (b.addK k).ones = b.ones ++ [b.onK k] := by
    show b.its.map b.onI ++ (b.kps ++ [k]).map b.onK = _
    rw [List.map_append, ← List.append_assoc]; rfl
  rw [Br.cnt, e, List.countP_append, List.countP_singleton]; rfl
def Br.oldN (b : Br) (k : Kp) : Int := if b.old k = true then 1 else 0
def staN (k : Kp) : Int := if stands k.ph = true then 1 else 0
theorem add_0 (b : Br) (k : Kp) : ((b.addK k).cnt 0 : Int) = (b.cnt 0 : Int) + 1 := by rw [add_cnt, if_pos (show (b.onK k).is 0 = true from rfl)]; rfl
theorem add_1 (b : Br) (k : Kp) : ((b.addK k).cnt 1 : Int) = (b.cnt 1 : Int) + b.oldN k := by
  rw [add_cnt, show (b.onK k).is 1 = b.old k from rfl, Br.oldN]
  split <;> simp
theorem add_2 (b : Br) (k : Kp) : ((b.addK k).cnt 2 : Int) = (b.cnt 2 : Int) + staN k := by
  rw [add_cnt, show (b.onK k).is 2 = stands k.ph from rfl, staN]
  split <;> simp
end Go.Proofs.YtcppphgpbaablaaDoor
namespace Go.Proofs.YtcppphgpbaablaaDoor
set_option linter.unusedVariables false
open Go.RowKit
theorem flat_tk {α : Type} (f : α → List Value) (n : Nat) (hf : ∀ a, (f a).length = n) (l : List α) (k : Nat) : (l.flatMap f).take (k * n) = (l.take k).flatMap f := by
  induction l generalizing k with
  | nil => simp
  | cons b l ih =>
    cases k with
    | zero => simp
    | succ k =>
      rw [List.flatMap_cons, List.take_succ_cons, List.flatMap_cons, ← ih k, show (k + 1) * n = (f b).length + k * n by rw [hf, Nat.add_mul, Nat.one_mul, Nat.add_comm], List.take_length_add_append]
theorem flat_dp {α : Type} (f : α → List Value) (n : Nat) (hf : ∀ a, (f a).length = n) (l : List α) (k : Nat) : (l.flatMap f).drop (k * n) = (l.drop k).flatMap f := by
  induction l generalizing k with
  | nil => simp
  | cons b l ih =>
    cases k with
    | zero => simp
    | succ k =>
      rw [List.flatMap_cons, List.drop_succ_cons, ← ih k, show (k + 1) * n = (f b).length + k * n by rw [hf, Nat.add_mul, Nat.one_mul, Nat.add_comm], List.drop_length_add_append]
theorem itsV_take (l : List It1) (k : Nat) : (itsV l).take (k * 4) = itsV (l.take k) := flat_tk _ 4 (fun _ => rfl) l k
theorem itsV_drop (l : List It1) (k : Nat) : (itsV l).drop (k * 4) = itsV (l.drop k) := flat_dp _ 4 (fun _ => rfl) l k
theorem kpsV_take (l : List Kp) (k : Nat) : (kpsV l).take (k * 8) = kpsV (l.take k) := flat_tk _ 8 (fun _ => rfl) l k
theorem kpsV_drop (l : List Kp) (k : Nat) : (kpsV l).drop (k * 8) = kpsV (l.drop k) := flat_dp _ 8 (fun _ => rfl) l k
def numsOk (l : List Int) : Bool := l.all fun n => decide (0 ≤ n) && decide (n ≤ 1099511627776)
theorem numsOk_iff {l : List Int} : numsOk l = true ↔ ∀ k (h : k < l.length), 0 ≤ l[k] ∧ l[k] ≤ 1099511627776 := by
  simp only [numsOk, List.all_eq_true, Bool.and_eq_true, decide_eq_true_eq]
  exact ⟨fun h k hk => h _ (List.getElem_mem hk), fun h n hn => by
    obtain ⟨k, hk, rfl⟩ := List.mem_iff_getElem.1 hn
    exact h k hk⟩
theorem numsOk_no {l : List Int} (k : Nat) (hk : k < l.length) (h : ¬ (0 ≤ l[k] ∧ l[k] ≤ 1099511627776)) : numsOk l = false := by
  cases e : numsOk l
  · rfl
  · exact absurd (numsOk_iff.1 e k hk) h
def eraL (l : List It1) (i : Nat) : List It1 := l.take i ++ l.drop (i + 1)
def insL (l : List Kp) (a : Nat) (x : Kp) : List Kp := (l.take a ++ [x]) ++ l.drop a
theorem eraL_len {l : List It1} {i : Nat} (h : i < l.length) : (eraL l i).length = l.length - 1 := by
  simp only [eraL, List.length_append, List.length_take, List.length_drop]; omega
theorem insL_len {l : List Kp} {a : Nat} (x : Kp) (h : a ≤ l.length) : (insL l a x).length = l.length + 1 := by
  simp only [insL, List.length_append, List.length_take, List.length_drop, List.length_cons, List.length_nil]; omega
def madeK (x : It1) (id now : Int) : Kp := ⟨id, x.tok, x.ver, x.zon, if x.warm = true then 9 else 1, now, false, false⟩
def Br.rf0 (b : Br) : Rf := if b.act = true then { b.rf with fa := 0 } else b.rf
/-- An intent is made an instance, somewhere. -/
def Br.made (b : Br) (i a : Nat) (x : It1) (id now : Int) : Br := { b with its := eraL b.its i, kps := insL b.kps a (madeK x id now), rf := b.rf0 }
/-- What RecMade may make of a brain. -/
inductive MadeTo (b : Br) : Br → Prop
  | same : MadeTo b b
  | made (i a : Nat) (id now : Int) (hi : i < b.its.length) (ha : a ≤ b.kps.length) : MadeTo b (b.made i a b.its[i] id now)
theorem act0 (b : Br) (i a : Nat) (x : It1) (id now : Int) : (b.made i a x id now).act = b.act := by
  show decide (b.rf0.st.toNat = 1) = decide (b.rf.st.toNat = 1)
  unfold Br.rf0; split <;> rfl
theorem ver0 (b : Br) (i a : Nat) (x : It1) (id now : Int) : (b.made i a x id now).ver = b.ver := by
  unfold Br.ver
  rw [act0]
  show (if b.act = true then b.rf0.ta else b.cf.ve) = _
  unfold Br.rf0; split <;> rfl
theorem era_count {l : List It1} {i : Nat} (h : i < l.length) (p : It1 → Bool) : (eraL l i).countP p + (if p l[i] = true then 1 else 0) = l.countP p := by
  have e : l = l.take i ++ l[i] :: l.drop (i + 1) := by rw [← List.drop_eq_getElem_cons h, List.take_append_drop]
  conv => rhs; rw [e, List.countP_append, List.countP_cons]
  rw [eraL, List.countP_append]
  omega
theorem ins_count (l : List Kp) (a : Nat) (x : Kp) (p : Kp → Bool) : (insL l a x).countP p = l.countP p + (if p x = true then 1 else 0) := by
  conv => rhs; rw [← List.take_append_drop a l, List.countP_append]
  rw [insL, List.countP_append, List.countP_append, List.countP_singleton]
  omega
theorem onI_of {b c : Br} (h : c.ver = b.ver) (x : It1) : c.onI x = b.onI x := by simp only [Br.onI, h]
theorem onK_of {b c : Br} (h : c.ver = b.ver) (hc : c.cf = b.cf) (k : Kp) : c.onK k = b.onK k := by simp only [Br.onK, Br.old, h, hc]
theorem onK_made (b : Br) (x : It1) (id now : Int) (j : Nat) : (b.onK (madeK x id now)).is j = (b.onI x).is j := by
  rcases x with ⟨tok, ver, zon, warm⟩
  match j with
  | 0 => rfl
  | 1 => cases warm <;> simp [Br.onK, Br.onI, On.is, madeK, Br.old, goes]
  | 2 => cases warm <;> simp [Br.onK, Br.onI, On.is, madeK, stands]
  | 3 => cases warm <;> simp [Br.onK, Br.onI, On.is, madeK]
  | j + 4 => cases warm <;> simp [Br.onK, Br.onI, On.is, madeK]
theorem made_cnt (b : Br) {i a : Nat} (id now : Int) (hi : i < b.its.length) (j : Nat) : (b.made i a b.its[i] id now).cnt j = b.cnt j := by
  have hv := ver0 b i a b.its[i] id now
  rw [Br.cnt_eq, Br.cnt_eq]
  have e1 : (fun x => ((b.made i a b.its[i] id now).onI x).is j) = fun x => (b.onI x).is j := by funext x; rw [onI_of hv]
  have e2 : (fun k => ((b.made i a b.its[i] id now).onK k).is j) = fun k => (b.onK k).is j := by funext k; rw [onK_of hv rfl]
  rw [e1, e2]
  show (eraL b.its i).countP _ + (insL b.kps a (madeK b.its[i] id now)).countP _ = _
  rw [ins_count, onK_made]
  have := era_count hi fun x => (b.onI x).is j
  omega
/-- Counts that are the same. -/
theorem counts_of {b c : Br} (h : ∀ j, c.cnt j = b.cnt j) (hv : c.ver = b.ver) (ha : c.act = b.act) (hp : c.rf.pa = b.rf.pa) (hc : c.cf = b.cf) : c.counts = b.counts := by
  have hm : c.more = b.more := by rw [Br.more, Br.more, ha, hp, h]
  rw [Br.counts, Br.counts, Br.want, Br.want, hm, hv, h, h, h, h, h, hc]
theorem made_counts {b c : Br} (h : MadeTo b c) : c.counts = b.counts := by
  cases h with
  | same => rfl
  | made i a id now hi ha =>
    refine counts_of (made_cnt b id now hi) (ver0 ..) (act0 ..) ?_ rfl
    show b.rf0.pa = b.rf.pa
    unfold Br.rf0; split <;> rfl
theorem made_its {b c : Br} (h : MadeTo b c) : c.its.length ≤ b.its.length ∧ c.kps.length ≤ b.kps.length + 1 ∧ c.cf = b.cf := by
  cases h with
  | same => exact ⟨Nat.le_refl _, by omega, rfl⟩
  | made i a id now hi ha => exact ⟨by show (eraL b.its i).length ≤ _; rw [eraL_len hi]; omega, by show (insL b.kps a _).length ≤ _; rw [insL_len _ ha]; omega, rfl⟩
/-- All the other way round. -/
def Br.rev (b : Br) : Br := { b with its := b.its.reverse, kps := b.kps.reverse }
theorem rev_counts (b : Br) : b.rev.counts = b.counts := by
  refine counts_of (fun j => ?_) rfl rfl rfl rfl
  rw [Br.cnt_eq, Br.cnt_eq]
  show b.its.reverse.countP (fun x => (b.onI x).is j) + b.kps.reverse.countP (fun k => (b.onK k).is j) = _
  rw [List.countP_reverse, List.countP_reverse]
/-- A refresh is begun; is cancelled. -/
def Br.start (b : Br) (v now : Int) : Br := { b with rf := ⟨1, b.cf.ve, v, 0, false, now, 0⟩ }
def Br.cancel (b : Br) : Br := { b with rf := { b.rf with st := 3, pa := false } }
/-- How many of the first k are old. -/
def Br.oc (b : Br) (k : Nat) : Nat := (b.kps.take k).countP b.old
def Br.ic (b : Br) (k : Nat) : Nat := (b.its.take k).countP fun x => !decide (x.ver = b.ver)
theorem oc_succ {b : Br} {k : Nat} (h : k < b.kps.length) : b.oc (k + 1) = b.oc k + (if b.old b.kps[k] = true then 1 else 0) := by
  rw [Br.oc, List.take_succ_eq_append_getElem h, List.countP_append, List.countP_singleton]; rfl
theorem ic_succ {b : Br} {k : Nat} (h : k < b.its.length) : b.ic (k + 1) = b.ic k + (if (!decide (b.its[k].ver = b.ver)) = true then 1 else 0) := by
  rw [Br.ic, List.take_succ_eq_append_getElem h, List.countP_append, List.countP_singleton]; rfl
theorem oc_le (b : Br) (k : Nat) : b.oc k ≤ b.kps.length := by
  refine Nat.le_trans List.countP_le_length ?_
  rw [List.length_take]; omega
theorem ic_le (b : Br) (k : Nat) : b.ic k ≤ b.its.length := by
  refine Nat.le_trans List.countP_le_length ?_
  rw [List.length_take]; omega
theorem oc_end (b : Br) : b.cnt 1 = b.oc b.kps.length + b.ic b.its.length := by
  rw [Br.cnt_eq, Br.oc, Br.ic, List.take_length, List.take_length, Nat.add_comm]; rfl
theorem start_ver (b : Br) (v n : Int) : (b.start v n).ver = v := rfl
theorem cancel_ver (b : Br) (v n : Int) : (b.start v n).cancel.ver = b.cf.ve := rfl
theorem cancel_want (b : Br) (v n : Int) : (b.start v n).cancel.want = b.cf.d := rfl
theorem cancel_old {b : Br} (v n : Int) (h : b.act = false) : (b.start v n).cancel.cnt 1 = b.cnt 1 := by
  have hv : (b.start v n).cancel.ver = b.ver := by rw [cancel_ver, Br.ver, if_neg (by simp [h])]
  rw [Br.cnt_eq, Br.cnt_eq]
  have e1 : (fun x => ((b.start v n).cancel.onI x).is 1) = fun x => (b.onI x).is 1 := by funext x; rw [onI_of hv]
  have e2 : (fun k => ((b.start v n).cancel.onK k).is 1) = fun k => (b.onK k).is 1 := by funext k; rw [onK_of hv rfl]
  rw [e1, e2]; rfl
theorem want_none {b : Br} (h : b.cnt 1 = 0) : b.want = b.cf.d := by
  rw [Br.want, if_neg (by simp [Br.more, h])]
theorem putL_app {n : Nat} {a b : List Value} : ∀ {c : List Value}, c.length = n → a.length = n → putL (c ++ b) 0 a = some (a ++ b) := by
  induction a generalizing n with
  | nil => intro c h1 h2; have : c = [] := List.eq_nil_of_length_eq_zero (by rw [h1, ← h2]; rfl); subst this; cases b <;> rfl
  | cons x a ih =>
    intro c h1 h2
    cases c with
    | nil => simp at h1; subst h1; simp at h2
    | cons y c =>
      have := ih (n := c.length) (c := c) rfl (by simp at h1 h2; omega)
      simp only [List.cons_append, putL, this]
theorem putL_skip {a b vs r : List Value} {k : Nat} (h : putL b k vs = some r) (hv : vs ≠ []) : putL (a ++ b) (a.length + k) vs = some (a ++ r) := by
  induction a with
  | nil => simpa using h
  | cons x a ih =>
    rw [List.cons_append, List.length_cons, show a.length + 1 + k = (a.length + k) + 1 by omega]
    simp only [putL, ih, List.cons_append]
theorem flat_put {α : Type} (f : α → List Value) (n : Nat) (hf : ∀ a, (f a).length = n) (h0 : 0 < n) {l : List α} {k : Nat} (h : k < l.length) (b : α) : putL (l.flatMap f) (k * n) (f b) = some ((l.set k b).flatMap f) := by
  induction l generalizing k with
  | nil => simp at h
  | cons c l ih =>
    rw [List.flatMap_cons]
    cases k with
    | zero => rw [Nat.zero_mul, List.set_cons_zero, List.flatMap_cons]; exact putL_app (hf c) (hf b)
    | succ k =>
      rw [show (k + 1) * n = (f c).length + k * n by rw [hf, Nat.add_mul, Nat.one_mul, Nat.add_comm], List.set_cons_succ, List.flatMap_cons]
      exact putL_skip (ih (by simpa using h)) (fun e => by have := hf b; rw [e] at this; simp at this; omega)
/-- The first k the other way round. -/
def rvK {α : Type} (l : List α) (k : Nat) : List α := l.reverse.take k ++ l.drop k
theorem rvK_len {α : Type} (l : List α) {k : Nat} (h : k ≤ l.length) : (rvK l k).length = l.length := by
  simp only [rvK, List.length_append, List.length_take, List.length_reverse, List.length_drop]; omega
theorem rvK_end {α : Type} (l : List α) : rvK l l.length = l.reverse := by
  rw [rvK, List.drop_length, List.append_nil, List.take_of_length_le (by simp)]
theorem rvK_set {α : Type} {l : List α} {k : Nat} (h : k < l.length) : (rvK l k).set k (l[l.length - 1 - k]'(by omega)) = rvK l (k + 1) := by
  have e1 : (l.reverse.take k).length = k := by rw [List.length_take, List.length_reverse]; omega
  have e2 : k < l.reverse.length := by rw [List.length_reverse]; exact h
  rw [rvK, rvK, List.set_append_right _ _ (by omega), e1, Nat.sub_self, List.drop_eq_getElem_cons h, List.set_cons_zero, List.take_succ_eq_append_getElem e2, List.getElem_reverse, List.append_assoc]
  rfl
theorem kps_rv {l : List Kp} {k : Nat} (h : k < l.length) : putL (kpsV (rvK l k)) (k * 8) (l[l.length - 1 - k]'(by omega)).cs = some (kpsV (rvK l (k + 1))) := by
  rw [← rvK_set h]
  exact flat_put _ 8 (fun _ => rfl) (by decide) (by rw [rvK_len _ (by omega)]; exact h) _
theorem its_rv {l : List It1} {k : Nat} (h : k < l.length) : putL (itsV (rvK l k)) (k * 4) (l[l.length - 1 - k]'(by omega)).cs = some (itsV (rvK l (k + 1))) := by
  rw [← rvK_set h]
  exact flat_put _ 4 (fun _ => rfl) (by decide) (by rw [rvK_len _ (by omega)]; exact h) _
theorem rev_cs (b : Br) (z : BrA) : b.cs z = b.rev.cs z := by simp [Br.cs, Br.rev]
theorem wsub {a b c : Nat} (h : c + b = a) (h2 : a ≤ 1000000) : IntKind.i64.wrap ((a : Int) - (b : Int)) = (c : Int) := by
  rw [w64 (by omega) (by omega)]; omega
end Go.Proofs.YtcppphgpbaablaaDoor
namespace Go.Proofs.YtcppphgpbaablaaDoor
set_option linter.unusedVariables false

/-- How many digits by 128. -/
def dlen : Nat → Nat → Nat
  | 0, _ => 0
  | f + 1, n => if n < 128 then 1 else 1 + dlen f (n / 128)
/-- A number's bytes. -/
def digs : Nat → Nat → List UInt8
  | 0, _ => []
  | f + 1, n => if n < 128 then [UInt8.ofNat n] else UInt8.ofNat (n % 128 + 128) :: digs f (n / 128)
def fineN (n : Int) : Bool := decide (0 ≤ n ∧ n ≤ 1099511627776)
def longZ (n : Int) : Int := if fineN n then dlen 10 n.toNat else 0
def putB (n : Int) : List UInt8 := digs 10 n.toNat

theorem dlen_pos (f n : Nat) : 0 < dlen (f + 1) n := by unfold dlen; split <;> omega
theorem dlen_le : ∀ f n, dlen f n ≤ f
  | 0, n => by simp [dlen]
  | f + 1, n => by unfold dlen; have := dlen_le f (n / 128); split <;> omega
theorem digs_len : ∀ f n, (digs f n).length = dlen f n
  | 0, n => by simp [dlen, digs]
  | f + 1, n => by
    unfold dlen digs
    split
    · rfl
    · simp [digs_len f (n / 128)]; omega
theorem longZ_eq0 (n : Int) : longZ n = 0 ↔ fineN n = false := by
  unfold longZ
  split
  · rename_i h; have : 0 < dlen 10 n.toNat := dlen_pos 9 _; simp [h]; omega
  · rename_i h; simpa using h
/-- More fuel makes no difference. -/
theorem dlen_fuel : ∀ f g n, n < 128 ^ f → n < 128 ^ g → 0 < f → 0 < g → dlen f n = dlen g n
  | 0, g, n, h, h', h1, h2 => by omega
  | f + 1, 0, n, h, h', h1, h2 => by omega
  | f + 1, g + 1, n, h, h', h1, h2 => by
    unfold dlen
    split
    · rfl
    · rename_i hn
      have a1 : n / 128 < 128 ^ f := by rw [Nat.div_lt_iff_lt_mul (by omega)]; rw [Nat.pow_succ] at h; exact h
      have a2 : n / 128 < 128 ^ g := by rw [Nat.div_lt_iff_lt_mul (by omega)]; rw [Nat.pow_succ] at h'; exact h'
      have a3 : 0 < f := by
        rcases Nat.eq_zero_or_pos f with e | e
        · subst e; simp at a1; omega
        · exact e
      have a4 : 0 < g := by
        rcases Nat.eq_zero_or_pos g with e | e
        · subst e; simp at a2; omega
        · exact e
      rw [dlen_fuel f g _ a1 a2 a3 a4]

/-- What is taken: the number, the rest, how it went. -/
def takeZ : Nat → Nat → List UInt8 → Nat × List UInt8 × Nat
  | _, _, [] => (0, [], 10)
  | i, acc, b :: r =>
    if 128 ≤ b.toNat then (if i + 1 < 6 then takeZ (i + 1) (acc + b.toNat % 128 * 128 ^ i) r else (0, [], 11))
    else if (b.toNat = 0 ∧ 0 < i) ∨ 1099511627776 < acc + b.toNat % 128 * 128 ^ i then (0, [], 11)
    else (acc + b.toNat % 128 * 128 ^ i, r, 0)
def takeN (b : List UInt8) : Nat × List UInt8 × Nat := takeZ 0 0 b

theorem and127 (x : UInt8) : IntKind.u8.wrap ((BitVec.ofInt IntKind.u8.bits (x.toNat : Int) &&& BitVec.ofInt IntKind.u8.bits 127).toNat : Int) = ((x.toNat % 128 : Nat) : Int) := by
  have hx := x.toNat_lt
  have e : (BitVec.ofInt IntKind.u8.bits (x.toNat : Int) &&& BitVec.ofInt IntKind.u8.bits 127).toNat = x.toNat % 128 := by
    show (BitVec.ofInt 8 (x.toNat : Int) &&& BitVec.ofInt 8 127).toNat = _
    rw [BitVec.toNat_and, BitVec.ofInt_natCast, BitVec.toNat_ofNat, show (BitVec.ofInt 8 127).toNat = 2 ^ 7 - 1 from rfl, Nat.and_two_pow_sub_one_eq_mod]
    omega
  rw [e, IntKind.wrap_u8]
  omega
theorem or64 (a b : Nat) (ha : a < 9223372036854775808) (hb : b < 9223372036854775808) : IntKind.i64.wrap ((BitVec.ofInt IntKind.i64.bits (a : Int) ||| BitVec.ofInt IntKind.i64.bits (b : Int)).toNat : Int) = ((a ||| b : Nat) : Int) := by
  have hx : a ||| b < 2 ^ 63 := Nat.or_lt_two_pow (by omega) (by omega)
  have e : (BitVec.ofInt IntKind.i64.bits (a : Int) ||| BitVec.ofInt IntKind.i64.bits (b : Int)).toNat = a ||| b := by
    show (BitVec.ofInt 64 (a : Int) ||| BitVec.ofInt 64 (b : Int)).toNat = _
    rw [BitVec.toNat_or, BitVec.ofInt_natCast, BitVec.ofInt_natCast, BitVec.toNat_ofNat, BitVec.toNat_ofNat, Nat.mod_eq_of_lt (by omega), Nat.mod_eq_of_lt (by omega)]
  rw [e, IntKind.wrap_i64]
  omega
theorem or_add (a c k : Nat) (h : a < 2 ^ k) : a ||| c * 2 ^ k = a + c * 2 ^ k := by
  rw [Nat.or_comm, ← Nat.shiftLeft_eq, ← Nat.shiftLeft_add_eq_or_of_lt h, Nat.add_comm]

/-- How far Take has come. -/
structure TakeI (b : List UInt8) (i acc : Nat) : Prop where
  lt : i < 6
  le : i ≤ b.length
  small : acc < 128 ^ i
  eq : takeZ i acc (b.drop i) = takeN b
theorem TakeI.zero (b : List UInt8) : TakeI b 0 0 := ⟨by omega, Nat.zero_le _, by simp, by simp [takeN]⟩
theorem p128 (i : Nat) : 128 ^ i = 2 ^ (7 * i) := by rw [Nat.pow_mul]
theorem TakeI.bound {b : List UInt8} {i acc : Nat} (h : TakeI b i acc) : acc < 34359738368 ∧ 128 ^ i ≤ 34359738368 := by
  have h1 := h.small
  have h2 := h.lt
  have : 128 ^ i ≤ 128 ^ 5 := Nat.pow_le_pow_right (by omega) (by omega)
  constructor
  · calc acc < 128 ^ i := h1
      _ ≤ 128 ^ 5 := this
      _ = 34359738368 := by decide
  · calc 128 ^ i ≤ 128 ^ 5 := this
      _ = 34359738368 := by decide
theorem TakeI.next {b : List UInt8} {i acc : Nat} (h : TakeI b i acc) (hi : i < b.length) (hb : 128 ≤ b[i].toNat) (h5 : i + 1 < 6) : TakeI b (i + 1) (acc + b[i].toNat % 128 * 128 ^ i) := by
  refine ⟨h5, hi, ?_, ?_⟩
  · have h1 := h.small
    have h2 : b[i].toNat % 128 < 128 := Nat.mod_lt _ (by omega)
    have h3 : (b[i].toNat % 128 + 1) * 128 ^ i ≤ 128 * 128 ^ i := Nat.mul_le_mul_right _ (by omega)
    rw [Nat.pow_succ, Nat.mul_comm (128 ^ i)]
    rw [Nat.add_mul] at h3
    omega
  · rw [← h.eq]
    conv => rhs; rw [List.drop_eq_getElem_cons hi]
    simp only [takeZ]
    rw [if_pos hb, if_pos h5]
theorem TakeI.short {b : List UInt8} {i acc : Nat} (h : TakeI b i acc) (hi : i = b.length) : takeN b = (0, [], 10) := by
  rw [← h.eq, List.drop_of_length_le (by omega)]; rfl
theorem TakeI.bad {b : List UInt8} {i acc : Nat} (h : TakeI b i acc) (hi : i < b.length)
    (hb : (128 ≤ b[i].toNat ∧ ¬ i + 1 < 6) ∨ (b[i].toNat < 128 ∧ ((b[i].toNat = 0 ∧ 0 < i) ∨ 1099511627776 < acc + b[i].toNat % 128 * 128 ^ i))) : takeN b = (0, [], 11) := by
  rw [← h.eq, List.drop_eq_getElem_cons hi]
  simp only [takeZ]
  rcases hb with ⟨h1, h2⟩ | ⟨h1, h2⟩
  · rw [if_pos h1, if_neg h2]
  · rw [if_neg (by omega), if_pos h2]
theorem TakeI.good {b : List UInt8} {i acc : Nat} (h : TakeI b i acc) (hi : i < b.length) (h1 : b[i].toNat < 128) (h2 : ¬ (b[i].toNat = 0 ∧ 0 < i)) (h3 : acc + b[i].toNat % 128 * 128 ^ i ≤ 1099511627776) :
    takeN b = (acc + b[i].toNat % 128 * 128 ^ i, b.drop (i + 1), 0) := by
  rw [← h.eq, List.drop_eq_getElem_cons hi]
  simp only [takeZ]
  rw [if_neg (by omega), if_neg (by omega)]
/-- What the program reckons. -/
theorem take_shl {b : List UInt8} {i acc : Nat} (h : TakeI b i acc) (m : Nat) (hm : m < 128) : IntKind.i64.wrap ((m : Int) * 2 ^ (min (7 * (i : Int)).toNat IntKind.i64.bits)) = ((m * 2 ^ (7 * i) : Nat) : Int) := by
  have hb := h.bound
  have hl := h.lt
  rw [p128] at hb
  have e : min (7 * (i : Int)).toNat IntKind.i64.bits = 7 * i := by show min (7 * (i : Int)).toNat 64 = _; omega
  rw [e]
  have h2 : m * 2 ^ (7 * i) ≤ 127 * 34359738368 := Nat.mul_le_mul (by omega) hb.2
  have : ((m : Int) * 2 ^ (7 * i)) = ((m * 2 ^ (7 * i) : Nat) : Int) := by rw [Int.natCast_mul, Int.natCast_pow]; rfl
  rw [this, w64_ (by omega) (by omega)]
where w64_ {a : Int} (h1 : -9223372036854775808 ≤ a) (h2 : a ≤ 9223372036854775807) : IntKind.i64.wrap a = a := by rw [IntKind.wrap_i64]; omega
theorem take_or {b : List UInt8} {i acc : Nat} (h : TakeI b i acc) (m : Nat) (hm : m < 128) : IntKind.i64.wrap ((BitVec.ofInt IntKind.i64.bits (acc : Int) ||| BitVec.ofInt IntKind.i64.bits ((m * 2 ^ (7 * i) : Nat) : Int)).toNat : Int) = ((acc + m * 128 ^ i : Nat) : Int) := by
  have hb := h.bound
  rw [p128] at hb
  have h2 : m * 2 ^ (7 * i) ≤ 127 * 34359738368 := Nat.mul_le_mul (by omega) hb.2
  rw [or64 _ _ (by omega) (by omega), or_add _ _ _ (by rw [← p128]; exact h.small), p128]
theorem TakeI.big {b : List UInt8} {i acc : Nat} (h : TakeI b i acc) (m : Nat) (hm : m < 128) : acc + m * 128 ^ i ≤ 4432406249472 := by
  have hb := h.bound
  have h2 : m * 128 ^ i ≤ 127 * 34359738368 := Nat.mul_le_mul (by omega) hb.2
  omega
/-- The digits by place. -/
theorem dlen_last : ∀ f n k, n < 128 ^ f → k < dlen f n → (n / 128 ^ k < 128 ↔ k + 1 = dlen f n)
  | 0, n, k, _, h => by simp [dlen] at h
  | f + 1, n, k, hn, h => by
    unfold dlen at h ⊢
    split at h
    · rename_i h1
      obtain rfl : k = 0 := by omega
      simp [h1]
    · rename_i h1
      rw [if_neg h1]
      cases k with
      | zero =>
        have : 0 < dlen f (n / 128) := by
          cases f with
          | zero => simp at hn; omega
          | succ f => exact dlen_pos f _
        simp; omega
      | succ k =>
        have a1 : n / 128 < 128 ^ f := by rw [Nat.div_lt_iff_lt_mul (by omega)]; rw [Nat.pow_succ] at hn; exact hn
        have := dlen_last f (n / 128) k a1 (by omega)
        rw [Nat.pow_succ, Nat.mul_comm, ← Nat.div_div_eq_div_mul, this]
        omega
theorem dig_at : ∀ f n k, n < 128 ^ f → (h : k < (digs f n).length) → (digs f n)[k] = UInt8.ofNat (n / 128 ^ k % 128 + if n / 128 ^ k < 128 then 0 else 128)
  | 0, n, k, _, h => by simp [digs] at h
  | f + 1, n, k, hn, h => by
    by_cases h1 : n < 128
    · have e : digs (f + 1) n = [UInt8.ofNat n] := by unfold digs; rw [if_pos h1]
      simp only [e] at h ⊢
      obtain rfl : k = 0 := by simp at h; exact h
      show UInt8.ofNat n = _
      rw [Nat.pow_zero, Nat.div_one, if_pos h1, Nat.add_zero, Nat.mod_eq_of_lt h1]
    · have e : digs (f + 1) n = UInt8.ofNat (n % 128 + 128) :: digs f (n / 128) := by
        conv => lhs; unfold digs
        rw [if_neg h1]
      simp only [e] at h ⊢
      cases k with
      | zero => simp [h1]
      | succ k =>
        have a1 : n / 128 < 128 ^ f := by rw [Nat.div_lt_iff_lt_mul (by omega)]; rw [Nat.pow_succ] at hn; exact hn
        have := dig_at f (n / 128) k a1 (by simpa using h)
        rw [Nat.pow_succ, Nat.mul_comm, ← Nat.div_div_eq_div_mul]
        simpa using this
theorem dlen0 (n : Nat) : 0 < dlen 10 n := dlen_pos 9 n
theorem p128_10 (n : Nat) (hn : n ≤ 1099511627776) : n < 128 ^ 10 := Nat.lt_of_le_of_lt hn (by decide)
theorem andI127 (x : Nat) (hx : x < 9223372036854775808) : IntKind.i64.wrap ((BitVec.ofInt IntKind.i64.bits (x : Int) &&& BitVec.ofInt IntKind.i64.bits 127).toNat : Int) = ((x % 128 : Nat) : Int) := by
  have e : (BitVec.ofInt IntKind.i64.bits (x : Int) &&& BitVec.ofInt IntKind.i64.bits 127).toNat = x % 128 := by
    show (BitVec.ofInt 64 (x : Int) &&& BitVec.ofInt 64 127).toNat = _
    rw [BitVec.toNat_and, BitVec.ofInt_natCast, BitVec.toNat_ofNat, show (BitVec.ofInt 64 127).toNat = 2 ^ 7 - 1 from rfl, Nat.and_two_pow_sub_one_eq_mod]
    omega
  rw [e, IntKind.wrap_i64]
  omega
theorem orU128 (x : Nat) (hx : x < 128) : IntKind.u8.wrap ((BitVec.ofInt IntKind.u8.bits (x : Int) ||| BitVec.ofInt IntKind.u8.bits 128).toNat : Int) = ((x + 128 : Nat) : Int) := by
  have e : (BitVec.ofInt IntKind.u8.bits (x : Int) ||| BitVec.ofInt IntKind.u8.bits 128).toNat = x + 1 * 2 ^ 7 := by
    show (BitVec.ofInt 8 (x : Int) ||| BitVec.ofInt 8 128).toNat = _
    rw [BitVec.toNat_or, BitVec.ofInt_natCast, BitVec.toNat_ofNat, show (BitVec.ofInt 8 128).toNat = 1 * 2 ^ 7 from rfl, Nat.mod_eq_of_lt (by omega), or_add _ _ _ (by omega)]
  rw [e, IntKind.wrap_u8]
  omega
theorem div128 (n k : Nat) : n / 128 ^ k / 128 = n / 128 ^ (k + 1) := by rw [Nat.pow_succ, Nat.div_div_eq_div_mul]
/-- Put, Row, TakeRow. -/
def putN (n : Int) : List UInt8 := if fineN n then putB n else []
def putR (n : Int) : Int := if fineN n then 0 else 2
def rowsB (l : List Int) : List UInt8 := putB l.length ++ l.flatMap putB
def rowOk (l : List Int) : Bool := decide (l.length ≤ 40) && !l.any (fun n => !fineN n)
def rowN (l : List Int) : List UInt8 := if rowOk l then rowsB l else []
def rowR (l : List Int) : Int := if rowOk l then 0 else 2
theorem putB_len (n : Int) : (putB n).length ≤ 10 := by rw [putB, digs_len]; exact dlen_le _ _
theorem flat_len : ∀ l : List Int, (l.flatMap putB).length ≤ 10 * l.length
  | [] => by simp
  | n :: l => by have := flat_len l; have := putB_len n; simp only [List.flatMap_cons, List.length_append, List.length_cons]; omega
/-- Numbers taken one behind the other. -/
def takeM : Nat → List UInt8 → List Nat × List UInt8 × Nat
  | 0, b => ([], b, 0)
  | k + 1, b => if (takeN b).2.2 = 0 then (let (l, r, e) := takeM k (takeN b).2.1; if e = 0 then ((takeN b).1 :: l, r, 0) else ([], [], e)) else ([], [], (takeN b).2.2)
def takeRowN (b : List UInt8) : List Nat × List UInt8 × Nat :=
  if (takeN b).2.2 = 0 then (if 40 < (takeN b).1 then ([], [], 11) else takeM (takeN b).1 (takeN b).2.1) else ([], [], (takeN b).2.2)
theorem takeZ_len : ∀ (b : List UInt8) (i acc : Nat), (takeZ i acc b).2.1.length ≤ b.length
  | [], i, acc => by simp [takeZ]
  | b :: r, i, acc => by
    unfold takeZ
    split
    · split
      · have := takeZ_len r (i + 1) (acc + b.toNat % 128 * 128 ^ i); simp only [List.length_cons]; omega
      · simp
    · split <;> simp
theorem takeN_len (b : List UInt8) : (takeN b).2.1.length ≤ b.length := takeZ_len b 0 0
theorem takeZ_err : ∀ (b : List UInt8) (i acc : Nat), (takeZ i acc b).2.2 ≠ 0 → (takeZ i acc b).1 = 0 ∧ (takeZ i acc b).2.1 = [] ∧ ((takeZ i acc b).2.2 = 10 ∨ (takeZ i acc b).2.2 = 11)
  | [], i, acc => by simp [takeZ]
  | b :: r, i, acc => by
    unfold takeZ
    split
    · split
      · exact takeZ_err r (i + 1) (acc + b.toNat % 128 * 128 ^ i)
      · simp
    · split <;> simp
theorem takeN_err (b : List UInt8) (h : (takeN b).2.2 ≠ 0) : takeN b = (0, [], (takeN b).2.2) ∧ ((takeN b).2.2 = 10 ∨ (takeN b).2.2 = 11) := by
  have := takeZ_err b 0 0 h
  exact ⟨Prod.ext this.1 (Prod.ext this.2.1 rfl), this.2.2⟩
def ahead (l : List Nat) (t : List Nat × List UInt8 × Nat) : List Nat × List UInt8 × Nat := if t.2.2 = 0 then (l ++ t.1, t.2.1, 0) else ([], [], t.2.2)
/-- How far TakeRow has come. -/
structure TRowI (b : List UInt8) (n : Nat) (l : List Nat) (r : List UInt8) (e : Nat) : Prop where
  len : r.length ≤ b.length
  le : l.length ≤ n
  small : e = 0 → n ≤ 40
  code : e = 0 ∨ e = 10 ∨ e = 11
  eq : if e = 0 then ahead l (takeM (n - l.length) r) = takeRowN b else takeRowN b = ([], [], e)
theorem takeM_err : ∀ k r, (takeM k r).2.2 ≠ 0 → takeM k r = ([], [], (takeM k r).2.2)
  | 0, r, h => by simp [takeM] at h
  | k + 1, r, h => by
    simp only [takeM] at h ⊢
    split
    · rename_i h1
      rw [if_pos h1] at h
      split
      · rename_i h2; rw [if_pos h2] at h; simp at h
      · rfl
    · rfl
theorem TRowI.zero_ok {b : List UInt8} (h0 : (takeN b).2.2 = 0) (h40 : ¬ 40 < (takeN b).1) : TRowI b (takeN b).1 [] (takeN b).2.1 0 := by
  refine ⟨takeN_len b, Nat.zero_le _, fun h => by omega, .inl rfl, ?_⟩
  rw [if_pos rfl, takeRowN, if_pos h0, if_neg h40]
  simp only [ahead, List.nil_append, List.length_nil, Nat.sub_zero]
  split
  · rename_i h4; rw [← h4]
  · rename_i h4; exact (takeM_err _ _ h4).symm
theorem TRowI.zero_big {b : List UInt8} (h0 : (takeN b).2.2 = 0) (h40 : 40 < (takeN b).1) : TRowI b (takeN b).1 [] (takeN b).2.1 11 :=
  ⟨takeN_len b, Nat.zero_le _, fun h => by omega, .inr (.inr rfl), by rw [if_neg (by omega), takeRowN, if_pos h0, if_pos h40]⟩
theorem TRowI.zero_bad {b : List UInt8} (h0 : ¬ (takeN b).2.2 = 0) : TRowI b (takeN b).1 [] (takeN b).2.1 (takeN b).2.2 :=
  ⟨takeN_len b, Nat.zero_le _, fun h => absurd h h0, .inr (takeN_err b h0).2, by rw [if_neg h0, takeRowN, if_neg h0]⟩
theorem TRowI.next {b : List UInt8} {n : Nat} {l : List Nat} {r : List UInt8} (h : TRowI b n l r 0) (hl : l.length < n) : TRowI b n (l ++ [(takeN r).1]) (takeN r).2.1 (takeN r).2.2 := by
  refine ⟨Nat.le_trans (takeN_len r) h.len, by simp; omega, fun _ => h.small rfl, ?_, ?_⟩
  · by_cases h0 : (takeN r).2.2 = 0
    · exact .inl h0
    · exact .inr (takeN_err r h0).2
  · have he := h.eq
    obtain ⟨k, hk⟩ : ∃ k, n - l.length = k + 1 := ⟨n - l.length - 1, by omega⟩
    rw [if_pos rfl, hk] at he
    rw [← he]
    have hk' : n - (l ++ [(takeN r).1]).length = k := by simp; omega
    by_cases h0 : (takeN r).2.2 = 0
    · rw [if_pos h0, hk']
      simp only [takeM, if_pos h0, ahead]
      by_cases h1 : (takeM k (takeN r).2.1).2.2 = 0
      · simp [h1]
      · simp [h1]
    · rw [if_neg h0]
      simp only [takeM, if_neg h0, ahead]
theorem TRowI.bad {b : List UInt8} {n : Nat} {l : List Nat} {r : List UInt8} {e : Nat} (h : TRowI b n l r e) (he : e ≠ 0) : takeRowN b = ([], [], e) := by
  have := h.eq; rwa [if_neg he] at this
theorem TRowI.good {b : List UInt8} {n : Nat} {l : List Nat} {r : List UInt8} (h : TRowI b n l r 0) (hl : ¬ l.length < n) : takeRowN b = (l, r, 0) := by
  have := h.eq
  have hk : n - l.length = 0 := by omega
  rw [if_pos rfl, hk] at this
  rw [← this]
  simp [takeM, ahead]
theorem digs_pref : ∀ f a b, a < 128 ^ f → b < 128 ^ f → 0 < f → digs f a = (digs f b).take (digs f a).length → a = b
  | 0, _, _, _, _, h, _ => by omega
  | f + 1, a, b, ha, hb, _, h => by
    have a1 : a / 128 < 128 ^ f := by rw [Nat.div_lt_iff_lt_mul (by omega)]; rw [Nat.pow_succ] at ha; exact ha
    have a2 : b / 128 < 128 ^ f := by rw [Nat.div_lt_iff_lt_mul (by omega)]; rw [Nat.pow_succ] at hb; exact hb
    have hu : ∀ x y, x < 256 → y < 256 → UInt8.ofNat x = UInt8.ofNat y → x = y := fun x y hx hy h => by
      have := congrArg UInt8.toNat h
      simp only [UInt8.toNat_ofNat'] at this
      omega
    unfold digs at h
    by_cases h1 : a < 128 <;> by_cases h2 : b < 128
    · rw [if_pos h1, if_pos h2] at h
      simp only [List.length_cons, List.take_succ_cons, List.cons.injEq] at h
      exact hu _ _ (by omega) (by omega) h.1
    · rw [if_pos h1, if_neg h2] at h
      simp only [List.length_cons, List.take_succ_cons, List.cons.injEq] at h
      have := hu _ _ (by omega) (by omega) h.1
      omega
    · rw [if_neg h1, if_pos h2] at h
      simp only [List.length_cons, List.take_succ_cons, List.cons.injEq] at h
      have := hu _ _ (by omega) (by omega) h.1
      omega
    · rw [if_neg h1, if_neg h2] at h
      simp only [List.length_cons, List.take_succ_cons, List.cons.injEq] at h
      have e1 := hu _ _ (by omega) (by omega) h.1
      have e2 := digs_pref f (a / 128) (b / 128) a1 a2 (by
        rcases Nat.eq_zero_or_pos f with e | e
        · subst e; simp at a1; omega
        · exact e) h.2
      omega
theorem dlen_mono : ∀ f a b, a ≤ b → dlen f a ≤ dlen f b
  | 0, _, _, _ => by simp [dlen]
  | f + 1, a, b, h => by
    unfold dlen
    have := dlen_mono f (a / 128) (b / 128) (Nat.div_le_div_right h)
    split <;> split <;> omega
theorem dlen_up : ∀ f n, n < 128 ^ f → n < 128 ^ dlen f n
  | 0, n, h => by simpa [dlen] using h
  | f + 1, n, h => by
    unfold dlen
    split
    · simpa
    · have a1 : n / 128 < 128 ^ f := by rw [Nat.div_lt_iff_lt_mul (by omega)]; rw [Nat.pow_succ] at h; exact h
      have := dlen_up f (n / 128) a1
      rw [Nat.add_comm, Nat.pow_succ]
      exact (Nat.div_lt_iff_lt_mul (by omega)).1 this
theorem dlen_down : ∀ f n, 1 < dlen f n → 128 ^ (dlen f n - 1) ≤ n
  | 0, n, h => by simp [dlen] at h
  | f + 1, n, h => by
    unfold dlen at h ⊢
    split
    · rename_i h1; rw [if_pos h1] at h; omega
    · rename_i h1
      rw [if_neg h1] at h
      rw [Nat.add_comm, Nat.add_sub_cancel]
      by_cases h2 : 1 < dlen f (n / 128)
      · have := dlen_down f (n / 128) h2
        obtain ⟨k, hk⟩ : ∃ k, dlen f (n / 128) = k + 1 := ⟨dlen f (n / 128) - 1, by omega⟩
        rw [hk, Nat.add_sub_cancel] at this
        rw [hk, Nat.pow_succ]
        exact (Nat.le_div_iff_mul_le (by omega)).1 this
      · have : dlen f (n / 128) = 1 := by omega
        rw [this]; omega
theorem dlen6 (n : Nat) (h : n ≤ 1099511627776) : dlen 10 n ≤ 6 := by
  rcases Nat.lt_or_ge 6 (dlen 10 n) with h1 | h1
  · have := dlen_down 10 n (by omega)
    have h2 : 128 ^ 6 ≤ 128 ^ (dlen 10 n - 1) := Nat.pow_le_pow_right (by omega) (by omega)
    have h3 : (128 : Nat) ^ 6 = 4398046511104 := by decide
    omega
  · exact h1
theorem putB_pref {a b : Int} (ha : fineN a = true) (hb : fineN b = true) : putB a = (putB b).take (putB a).length ↔ a = b := by
  simp [fineN] at ha hb
  refine ⟨fun h => ?_, fun h => by subst h; simp⟩
  have := digs_pref 10 a.toNat b.toNat (p128_10 _ (by omega)) (p128_10 _ (by omega)) (by omega) h
  omega
theorem putB_mono {a b : Int} (ha : 0 ≤ a) (h : a ≤ b) : (putB a).length ≤ (putB b).length := by
  rw [putB, putB, digs_len, digs_len]; exact dlen_mono _ _ _ (by omega)
theorem longZ_len {a : Int} (h : fineN a = true) : longZ a = (putB a).length := by rw [longZ, if_pos h, putB, digs_len]
end Go.Proofs.YtcppphgpbaablaaDoor
namespace Go.Proofs.YtcppphgpbaablaaDoor
set_option linter.unusedVariables false

theorem digs_fuel : ∀ f g n, n < 128 ^ f → n < 128 ^ g → 0 < f → 0 < g → digs f n = digs g n
  | 0, g, n, h, h', h1, h2 => by omega
  | f + 1, 0, n, h, h', h1, h2 => by omega
  | f + 1, g + 1, n, h, h', h1, h2 => by
    unfold digs
    split
    · rfl
    · rename_i hn
      have a1 : n / 128 < 128 ^ f := by rw [Nat.div_lt_iff_lt_mul (by omega)]; rw [Nat.pow_succ] at h; exact h
      have a2 : n / 128 < 128 ^ g := by rw [Nat.div_lt_iff_lt_mul (by omega)]; rw [Nat.pow_succ] at h'; exact h'
      have a3 : 0 < f := by
        rcases Nat.eq_zero_or_pos f with e | e
        · subst e; simp at a1; omega
        · exact e
      have a4 : 0 < g := by
        rcases Nat.eq_zero_or_pos g with e | e
        · subst e; simp at a2; omega
        · exact e
      rw [digs_fuel f g _ a1 a2 a3 a4]
theorem u8_of {x : Nat} (h : x < 256) : (UInt8.ofNat x).toNat = x := by rw [UInt8.toNat_ofNat']; omega

theorem split128 (q i : Nat) : q % 128 * 128 ^ i + q / 128 * 128 ^ (i + 1) = q * 128 ^ i := by
  rw [Nat.pow_succ, Nat.mul_comm (128 ^ i), ← Nat.mul_assoc, ← Nat.add_mul]
  congr 1
  omega
theorem take_put : ∀ (f i acc q : Nat) (b : List UInt8), q < 128 ^ f → 0 < f → i + dlen f q ≤ 6 → (0 < i → 0 < q) → acc + q * 128 ^ i ≤ 1099511627776 → takeZ i acc (digs f q ++ b) = (acc + q * 128 ^ i, b, 0)
  | 0, _, _, _, _, _, h, _, _, _ => by omega
  | f + 1, i, acc, q, b, h, _, hl, hi, hm => by
    by_cases h1 : q < 128
    · have e : digs (f + 1) q = [UInt8.ofNat q] := by unfold digs; rw [if_pos h1]
      rw [e, List.singleton_append]
      simp only [takeZ, u8_of (show q < 256 by omega), Nat.mod_eq_of_lt h1]
      rw [if_neg (by omega), if_neg (by omega)]
    · have e : digs (f + 1) q = UInt8.ofNat (q % 128 + 128) :: digs f (q / 128) := by
        conv => lhs; unfold digs
        rw [if_neg h1]
      have e2 : dlen (f + 1) q = 1 + dlen f (q / 128) := by
        conv => lhs; unfold dlen
        rw [if_neg h1]
      have a1 : q / 128 < 128 ^ f := by rw [Nat.div_lt_iff_lt_mul (by omega)]; rw [Nat.pow_succ] at h; exact h
      have a3 : 0 < f := by
        rcases Nat.eq_zero_or_pos f with e | e
        · subst e; simp at a1; omega
        · exact e
      have hd : 0 < dlen f (q / 128) := by
        obtain ⟨g, rfl⟩ : ∃ g, f = g + 1 := ⟨f - 1, by omega⟩
        exact dlen_pos g _
      have hb : q % 128 + 128 < 256 := by have := Nat.mod_lt q (show 128 > 0 by omega); omega
      have hs := split128 q i
      rw [e, List.cons_append]
      simp only [takeZ, u8_of hb]
      rw [if_pos (by omega), if_pos (by omega), show (q % 128 + 128) % 128 = q % 128 by omega,
        take_put f (i + 1) (acc + q % 128 * 128 ^ i) (q / 128) b a1 a3 (by omega) (fun _ => by omega) (by omega)]
      rw [Nat.add_assoc, hs]
theorem digs_ne (f n : Nat) (h : 0 < f) : digs f n ≠ [] := by
  intro he
  have := digs_len f n
  obtain ⟨g, rfl⟩ : ∃ g, f = g + 1 := ⟨f - 1, by omega⟩
  have := dlen_pos g n
  rw [he] at *
  simp at *
  omega
theorem take_cut : ∀ (f i acc q : Nat), q < 128 ^ f → 0 < f → i + dlen f q ≤ 6 → takeZ i acc (digs f q).dropLast = (0, [], 10)
  | 0, _, _, _, _, h, _ => by omega
  | f + 1, i, acc, q, h, _, hl => by
    by_cases h1 : q < 128
    · have e : digs (f + 1) q = [UInt8.ofNat q] := by unfold digs; rw [if_pos h1]
      rw [e]
      rfl
    · have e : digs (f + 1) q = UInt8.ofNat (q % 128 + 128) :: digs f (q / 128) := by
        conv => lhs; unfold digs
        rw [if_neg h1]
      have e2 : dlen (f + 1) q = 1 + dlen f (q / 128) := by
        conv => lhs; unfold dlen
        rw [if_neg h1]
      have a1 : q / 128 < 128 ^ f := by rw [Nat.div_lt_iff_lt_mul (by omega)]; rw [Nat.pow_succ] at h; exact h
      have a3 : 0 < f := by
        rcases Nat.eq_zero_or_pos f with e | e
        · subst e; simp at a1; omega
        · exact e
      have hd : 0 < dlen f (q / 128) := by
        obtain ⟨g, rfl⟩ : ∃ g, f = g + 1 := ⟨f - 1, by omega⟩
        exact dlen_pos g _
      have hb : q % 128 + 128 < 256 := by have := Nat.mod_lt q (show 128 > 0 by omega); omega
      rw [e, List.dropLast_cons_of_ne_nil (digs_ne _ _ a3)]
      simp only [takeZ, u8_of hb]
      rw [if_pos (by omega), if_pos (by omega)]
      exact take_cut f (i + 1) _ (q / 128) a1 a3 (by omega)
theorem take_only : ∀ (b : List UInt8) (i acc v : Nat) (r : List UInt8), i < 6 → takeZ i acc b = (v, r, 0) → ∃ f q, q < 128 ^ f ∧ 0 < f ∧ digs f q ++ r = b ∧ v = acc + q * 128 ^ i ∧ v ≤ 1099511627776 ∧ (0 < i → 0 < q)
  | [], i, acc, v, r, _, h => by simp [takeZ] at h
  | x :: b, i, acc, v, r, hi, h => by
    have hx := x.toNat_lt
    unfold takeZ at h
    split at h
    · rename_i h1
      split at h
      · rename_i h2
        obtain ⟨f, q, q1, q2, q3, q4, q5, q6⟩ := take_only b (i + 1) _ v r h2 h
        have hq := q6 (by omega)
        have hmod : x.toNat % 128 < 128 := Nat.mod_lt _ (by omega)
        have e1 : (x.toNat % 128 + q * 128) % 128 = x.toNat % 128 := by omega
        have e2 : (x.toNat % 128 + q * 128) / 128 = q := by omega
        refine ⟨f + 1, x.toNat % 128 + q * 128, by rw [Nat.pow_succ]; omega, by omega, ?_, ?_, q5, fun _ => by omega⟩
        · unfold digs
          rw [if_neg (by omega), e1, e2, List.cons_append, q3]
          congr 1
          apply UInt8.toNat_inj.1
          rw [u8_of (by omega)]
          omega
        · have hs := split128 (x.toNat % 128 + q * 128) i
          rw [e1, e2] at hs
          rw [q4, ← hs]
          omega
      · simp at h
    · rename_i h1
      split at h
      · simp at h
      · rename_i h2
        simp only [Prod.mk.injEq] at h
        have hm : x.toNat % 128 = x.toNat := Nat.mod_eq_of_lt (by omega)
        refine ⟨1, x.toNat, by simp; omega, by omega, ?_, ?_, by omega, fun h3 => by omega⟩
        · unfold digs
          rw [if_pos (by omega), List.singleton_append, h.2.1]
          congr 1
          apply UInt8.toNat_inj.1
          rw [u8_of (by omega)]
        · rw [← hm]; exact h.1.symm

/-- What was put is taken. -/
theorem takeN_put {n : Int} (h : fineN n = true) (b : List UInt8) : takeN (putB n ++ b) = (n.toNat, b, 0) := by
  have hf : 0 ≤ n ∧ n ≤ 1099511627776 := by simpa [fineN] using h
  have := take_put 10 0 0 n.toNat b (p128_10 _ (by omega)) (by omega) (by have := dlen6 n.toNat (by omega); omega) (fun h => by omega) (by simp; omega)
  simpa [takeN, putB] using this
theorem takeN_cut {n : Int} (h : fineN n = true) : takeN (putB n).dropLast = (0, [], 10) := by
  have hf : 0 ≤ n ∧ n ≤ 1099511627776 := by simpa [fineN] using h
  exact take_cut 10 0 0 n.toNat (p128_10 _ (by omega)) (by omega) (by have := dlen6 n.toNat (by omega); omega)
/-- What is taken was put. -/
theorem takeN_only {b r : List UInt8} {v : Nat} (h : takeN b = (v, r, 0)) : putB v ++ r = b ∧ v ≤ 1099511627776 := by
  obtain ⟨f, q, q1, q2, q3, q4, q5, _⟩ := take_only b 0 0 v r (by omega) h
  have e : v = q := by simpa using q4
  subst e
  refine ⟨?_, q5⟩
  rw [← q3, putB, Int.toNat_natCast, digs_fuel 10 f v (p128_10 _ q5) q1 (by omega) q2]
theorem putB_ne (n : Int) : putB n ≠ [] := digs_ne 10 _ (by omega)

/-- Rows. -/
theorem takeM_row : ∀ (l : List Int) (b : List UInt8), (∀ n ∈ l, fineN n = true) → takeM l.length (l.flatMap putB ++ b) = (l.map Int.toNat, b, 0)
  | [], b, _ => by simp [takeM]
  | n :: l, b, h => by
    have h1 := takeN_put (h n (by simp)) (l.flatMap putB ++ b)
    have h2 := takeM_row l b fun m hm => h m (by simp [hm])
    simp only [List.flatMap_cons, List.length_cons, List.append_assoc, takeM]
    rw [h1]
    simp [h2]
theorem rowOk_fine {l : List Int} (h : rowOk l = true) : l.length ≤ 40 ∧ ∀ n ∈ l, fineN n = true := by
  have ho : l.length ≤ 40 ∧ l.any (fun n => !fineN n) = false := by simpa only [rowOk, Bool.and_eq_true, decide_eq_true_eq, Bool.not_eq_true'] using h
  refine ⟨ho.1, fun n hn => ?_⟩
  have := List.any_eq_false.1 ho.2 n hn
  simpa using this
theorem fine_len {n : Nat} (h : n ≤ 40) : fineN (n : Int) = true := by simp [fineN]; omega
theorem takeRow_put {l : List Int} (h : rowOk l = true) (b : List UInt8) : takeRowN (rowsB l ++ b) = (l.map Int.toNat, b, 0) := by
  obtain ⟨h1, h2⟩ := rowOk_fine h
  have h3 := takeN_put (fine_len h1) (l.flatMap putB ++ b)
  unfold takeRowN rowsB
  rw [List.append_assoc, h3]
  simp only [Int.toNat_natCast, if_pos]
  rw [if_neg (by omega)]
  exact takeM_row l b h2
theorem takeM_cut : ∀ (l : List Int), l ≠ [] → (∀ n ∈ l, fineN n = true) → takeM l.length (l.flatMap putB).dropLast = ([], [], 10)
  | [], h, _ => absurd rfl h
  | [n], _, h => by
    have := takeN_cut (h n (by simp))
    simp [takeM, this]
  | n :: m :: l, _, h => by
    have h2 := takeM_cut (m :: l) (by simp) fun x hx => h x (by simp only [List.mem_cons] at hx ⊢; exact .inr hx)
    have hne : (m :: l).flatMap putB ≠ [] := by
      simp only [List.flatMap_cons]
      intro he
      exact putB_ne m (List.append_eq_nil_iff.1 he).1
    have h1 := takeN_put (h n (by simp)) ((m :: l).flatMap putB).dropLast
    rw [List.flatMap_cons, List.dropLast_append_of_ne_nil hne, List.length_cons, takeM, h1]
    simp only [if_pos]
    rw [h2]
    simp
theorem takeRow_cut {l : List Int} (h : rowOk l = true) : (takeRowN (rowsB l).dropLast).2.2 = 10 := by
  obtain ⟨h1, h2⟩ := rowOk_fine h
  unfold takeRowN rowsB
  by_cases hl : l = []
  · subst hl
    have := takeN_cut (fine_len (n := 0) (by omega))
    simp at this
    simp [this]
  · have hne : l.flatMap putB ≠ [] := by
      obtain ⟨m, l', rfl⟩ := List.exists_cons_of_ne_nil hl
      simp only [List.flatMap_cons]
      intro he
      exact putB_ne m (List.append_eq_nil_iff.1 he).1
    have h3 := takeN_put (fine_len h1) (l.flatMap putB).dropLast
    rw [List.dropLast_append_of_ne_nil hne, h3]
    simp only [Int.toNat_natCast, if_pos]
    rw [if_neg (by omega), takeM_cut l hl h2]
theorem takeM_only : ∀ (k : Nat) (b r : List UInt8) (l : List Nat), takeM k b = (l, r, 0) → l.length = k ∧ (∀ n ∈ l, n ≤ 1099511627776) ∧ (l.map Int.ofNat).flatMap putB ++ r = b
  | 0, b, r, l, h => by simp only [takeM, Prod.mk.injEq] at h; obtain ⟨rfl, rfl, _⟩ := h; simp
  | k + 1, b, r, l, h => by
    simp only [takeM] at h
    split at h
    · rename_i h1
      split at h
      · rename_i h2
        simp only [Prod.mk.injEq] at h
        obtain ⟨rfl, rfl, _⟩ := h
        have hm : takeM k (takeN b).2.1 = ((takeM k (takeN b).2.1).1, (takeM k (takeN b).2.1).2.1, 0) := Prod.ext rfl (Prod.ext rfl h2)
        have hn : takeN b = ((takeN b).1, (takeN b).2.1, 0) := Prod.ext rfl (Prod.ext rfl h1)
        obtain ⟨i1, i2, i3⟩ := takeM_only k _ _ _ hm
        obtain ⟨j1, j2⟩ := takeN_only hn
        refine ⟨by simp [i1], fun n hn => ?_, ?_⟩
        · rcases List.mem_cons.1 hn with rfl | hn
          · exact j2
          · exact i2 n hn
        · simp only [List.map_cons, List.flatMap_cons, List.append_assoc]
          rw [i3]; exact j1
      · rename_i h2; simp only [Prod.mk.injEq] at h; exact absurd h.2.2 h2
    · rename_i h1; simp only [Prod.mk.injEq] at h; exact absurd h.2.2 h1
theorem takeRow_only {b r : List UInt8} {l : List Nat} (h : takeRowN b = (l, r, 0)) : rowOk (l.map Int.ofNat) = true ∧ rowsB (l.map Int.ofNat) ++ r = b := by
  unfold takeRowN at h
  split at h
  · rename_i h1
    split at h
    · simp at h
    · rename_i h2
      have hn : takeN b = ((takeN b).1, (takeN b).2.1, 0) := Prod.ext rfl (Prod.ext rfl h1)
      obtain ⟨i1, i2, i3⟩ := takeM_only _ _ _ _ h
      obtain ⟨j1, j2⟩ := takeN_only hn
      refine ⟨?_, ?_⟩
      · simp only [rowOk, Bool.and_eq_true, decide_eq_true_eq, Bool.not_eq_true', List.any_eq_false]
        refine ⟨by rw [List.length_map]; omega, fun x hx => ?_⟩
        obtain ⟨n, hn, rfl⟩ := List.mem_map.1 hx
        have := i2 n hn
        simp [fineN]; omega
      · rw [rowsB, List.append_assoc, i3, List.length_map, i1]; exact j1
  · rename_i h1; simp only [Prod.mk.injEq] at h; exact absurd h.2.2 h1
theorem takeM_bad : ∀ (k : Nat) (b : List UInt8), (takeM k b).2.2 ≠ 0 → (takeM k b).2.2 = 10 ∨ (takeM k b).2.2 = 11
  | 0, b, h => by simp [takeM] at h
  | k + 1, b, h => by
    simp only [takeM] at h ⊢
    split
    · rename_i h1
      rw [if_pos h1] at h
      split
      · rename_i h2; rw [if_pos h2] at h; simp at h
      · rename_i h2; exact takeM_bad k _ h2
    · rename_i h1; exact (takeN_err b h1).2
theorem takeRow_bad {b : List UInt8} (h : (takeRowN b).2.2 ≠ 0) : takeRowN b = ([], [], (takeRowN b).2.2) ∧ ((takeRowN b).2.2 = 10 ∨ (takeRowN b).2.2 = 11) := by
  unfold takeRowN at h ⊢
  split
  · rename_i h1
    rw [if_pos h1] at h
    split
    · simp
    · rename_i h2
      rw [if_neg h2] at h
      exact ⟨takeM_err _ _ h, takeM_bad _ _ h⟩
  · rename_i h1; exact ⟨rfl, (takeN_err b h1).2⟩
end Go.Proofs.YtcppphgpbaablaaDoor
namespace Go.Proofs.YtcppphgpbaablaaDoor
set_option linter.unusedVariables false
open Go.RowKit
structure Rc where
  k : UInt8
  l : List Int
def Rc.cs (r : Rc) (x : AdC) : List Value := [.int .u8 r.k.toNat, .slice x.1 r.l.length x.2]
def Rc.v (r : Rc) (x : AdC) : Value := .agg (r.cs x).toArray
def Rc.row (r : Rc) (x : AdC) : Res := .row 3 1 (.slice x.1 r.l.length x.2) r.l.length (i64s r.l)
def Rc.zero : Rc := ⟨0, []⟩
/-- How many numbers each kind has: the fewest, the most. -/
def bnd : List (Nat × Nat) := [(0, 0), (0, 0), (14, 18), (3, 3), (3, 3), (1, 1), (3, 3), (1, 1), (5, 5), (2, 2), (1, 1), (2, 2), (0, 0), (0, 0), (1, 1), (0, 0), (0, 0)]
def bndAt (k : Nat) : Nat × Nat := bnd.getD k (0, 0)
def okLen (k n : Nat) : Bool := (decide (1 ≤ k) && decide (k < 17)) && (decide ((bndAt k).1 ≤ n) && decide (n ≤ (bndAt k).2))
def Rc.ok (r : Rc) : Bool := okLen r.k.toNat r.l.length && r.l.all fineN
theorem okLen_iff {k n : Nat} : okLen k n = true ↔ (1 ≤ k ∧ k < 17) ∧ ((bndAt k).1 ≤ n ∧ n ≤ (bndAt k).2) := by simp [okLen]
theorem Rc.ok_iff {r : Rc} : r.ok = true ↔ okLen r.k.toNat r.l.length = true ∧ ∀ n ∈ r.l, fineN n = true := by simp [Rc.ok]
theorem bnd_le : ∀ {k : Nat}, k < 17 → (bndAt k).1 ≤ 14 ∧ (bndAt k).2 ≤ 18
  | 0, _ => by decide | 1, _ => by decide | 2, _ => by decide | 3, _ => by decide | 4, _ => by decide | 5, _ => by decide | 6, _ => by decide | 7, _ => by decide | 8, _ => by decide | 9, _ => by decide | 10, _ => by decide | 11, _ => by decide | 12, _ => by decide
  | 13, _ => by decide | 14, _ => by decide | 15, _ => by decide | 16, _ => by decide
  | k + 17, h => by omega
theorem Rc.ok_len {r : Rc} (h : r.ok = true) : 1 ≤ r.k.toNat ∧ r.k.toNat < 17 ∧ r.l.length ≤ 18 := by
  have h1 := okLen_iff.1 (Rc.ok_iff.1 h).1
  have h2 := bnd_le h1.1.2
  omega
/-- The kinds' names. -/
def nameL : List (List UInt8) := [[], [98, 111, 111, 116], [99, 111, 110, 102], [105, 110, 116, 101, 110, 116], [109, 97, 100, 101], [102, 97, 105, 108], [112, 104, 97, 115, 101], [103, 111, 110, 101], [116, 97, 107, 101], [103, 117, 97, 114, 100],
  [99, 111, 109, 112, 108, 101, 116, 101], [115, 116, 97, 114, 116], [99, 97, 110, 99, 101, 108], [114, 111, 108, 108], [112, 97, 117, 115, 101], [103, 111], [100, 111, 110, 101]]
def nameOf (k : Nat) : List UInt8 := nameL.getD k []
/-- A record's row. -/
def Rc.nums (r : Rc) : List Int := ((r.k.toNat : Nat) : Int) :: r.l
def Rc.bytes (r : Rc) : List UInt8 := if r.ok = true then rowsB r.nums else []
def Rc.putE (r : Rc) : Int := if r.ok = true then 0 else 2
/-- The record of a row, whether it may be or not. -/
def rcRaw (l : List Nat) : Rc := ⟨UInt8.ofNat (l.getD 0 0), (l.drop 1).map Int.ofNat⟩
def rcGood (t : List Nat × List UInt8 × Nat) : Bool := (decide (t.2.2 = 0) && decide (t.2.1.length = 0)) && ((decide (0 < t.1.length) && decide (t.1.getD 0 0 < 17)) && (rcRaw t.1).ok)
def rcOf (b : List UInt8) : Rc := if rcGood (takeRowN b) = true then rcRaw (takeRowN b).1 else Rc.zero
def rcE (b : List UInt8) : Int := if rcGood (takeRowN b) = true then 0 else 11
def sameR (a b : Rc) : Bool := decide (a.k = b.k) && decide (a.l = b.l)
theorem sameR_iff {a b : Rc} : sameR a b = true ↔ a = b := by
  obtain ⟨a1, a2⟩ := a
  obtain ⟨b1, b2⟩ := b
  simp [sameR]
/-- Records in a row. -/
abbrev Rcs := List (AdC × Rc)
def rcsV (zs : Rcs) : List Value := zs.flatMap fun z => z.2.cs z.1
def Fact.rcs (zs : Rcs) : Fact := ⟨fun X W => ∀ z ∈ zs, (Fact.rd z.1.1 (i64s z.2.l)).p X W, fun X X' W W' h hf hx z hz => (Fact.rd z.1.1 (i64s z.2.l)).fr X X' W W' (h z hz) hf hx⟩
theorem rcsV_len (zs : Rcs) : (rcsV zs).length = zs.length * 2 := by
  induction zs with
  | nil => rfl
  | cons z zs ih => simp only [rcsV, List.flatMap_cons, List.length_append, List.length_cons] at ih ⊢; rw [ih]; simp [Rc.cs]; omega
theorem rcs_at {zs : Rcs} {k : Nat} (h : k < zs.length) : takeL (rcsV zs) (k * 2) 2 = some (zs[k].2.cs zs[k].1) := by
  induction zs generalizing k with
  | nil => simp at h
  | cons z zs ih =>
    cases k with
    | zero => simp [rcsV, Rc.cs, takeL]
    | succ k =>
      have h2 := ih (k := k) (by simpa using h)
      rw [show (k + 1) * 2 = k * 2 + 1 + 1 by omega]
      simp only [rcsV, List.flatMap_cons, Rc.cs, List.cons_append, List.nil_append, takeL, List.getElem_cons_succ] at h2 ⊢
      exact h2
theorem u8_eq {a b : UInt8} : ((a.toNat : Nat) : Int) = (b.toNat : Int) ↔ a = b := by
  rw [Int.ofNat_inj]; exact ⟨UInt8.toNat_inj.1, fun h => by rw [h]⟩
theorem u8_lt (a : UInt8) : a.toNat < 256 := a.toNat_lt
theorem rc_rowOk {r : Rc} (h : r.ok = true) : rowOk r.nums = true := by
  have h1 := Rc.ok_len h
  have h2 := (Rc.ok_iff.1 h).2
  simp only [rowOk, Bool.and_eq_true, decide_eq_true_eq, Bool.not_eq_true']
  refine ⟨by simp [Rc.nums]; omega, ?_⟩
  rw [List.any_eq_false]
  intro n hn
  rcases List.mem_cons.1 hn with rfl | hn
  · simp [fineN]; omega
  · simp [h2 n hn]
end Go.Proofs.YtcppphgpbaablaaDoor
namespace Go.Proofs.YtcppphgpbaablaaDoor
set_option linter.unusedVariables false
open Go.RowKit
/-- A place, as slices tell it. -/
def plcI : Option Nat → Int
  | none => -1
  | some k => (k : Int)
def Br.findK (b : Br) (id : Int) : Option Nat := b.kps.findIdx? fun k => decide (k.id = id)
def Br.findT (b : Br) (t : Int) : Option Nat := b.its.findIdx? fun x => decide (x.tok = t)
theorem findIdx_some {α : Type} {p : α → Bool} {l : List α} {i : Nat} (h : l.findIdx? p = some i) : ∃ hi : i < l.length, p l[i] = true := by
  rw [List.findIdx?_eq_some_iff_getElem] at h
  exact ⟨h.1, h.2.1⟩
theorem findK_some {b : Br} {id : Int} {i : Nat} (h : b.findK id = some i) : ∃ hi : i < b.kps.length, b.kps[i].id = id := by
  obtain ⟨hi, h2⟩ := findIdx_some h
  exact ⟨hi, of_decide_eq_true h2⟩
theorem findT_some {b : Br} {t : Int} {i : Nat} (h : b.findT t = some i) : ∃ hi : i < b.its.length, b.its[i].tok = t := by
  obtain ⟨hi, h2⟩ := findIdx_some h
  exact ⟨hi, of_decide_eq_true h2⟩
/-- What is changed of the i-th that is kept. -/
def Br.onK1 (b : Br) (i : Nat) (x : Kp) : Br := { b with kps := b.kps.set i x }
def Br.kAt (b : Br) (i : Nat) : Kp := b.kps.getD i ⟨0, 0, 0, 0, 0, 0, false, false⟩
theorem kAt_eq {b : Br} {i : Nat} (h : i < b.kps.length) : b.kAt i = b.kps[i] := by rw [Br.kAt, List.getD_eq_getElem?_getD, List.getElem?_eq_getElem h]; rfl
def Kp.held (k : Kp) : Bool := decide (k.ph.toNat = 1) || decide (k.ph.toNat = 7)
def mxN : Int := 1099511627776
/-- Where one of that id is put. -/
def insAt (l : List Kp) (id : Int) : Nat := l.findIdx fun k => decide (id < k.id)
def legalL : List (List Nat) := [[], [2, 8], [3, 8], [4], [5, 3], [6, 4], [7], [8], [], [10, 8], [1]]
def legal (f : Nat) (t : Int) : Bool := decide (t < 11) && (legalL.getD f []).contains t.toNat
def Br.boot (b : Br) : Br := if b.ep < 1099511627776 then { b with ep := b.ep + 1 } else b
def Br.intent (b : Br) (v z w : Int) : Br := if (b.set && decide (1 ≤ v)) && (decide (z ≤ 3) && (decide (w ≤ 1) && decide (b.sq < 1099511627776))) then { b with sq := b.sq + 1, its := b.its ++ [⟨b.sq + 1, v, z, decide (w = 1)⟩] } else b
def Br.mk1 (b : Br) (t id now : Int) : Br := match b.findT t with
  | none => b
  | some i => if decide (id < 1) || (b.findK id).isSome then b else b.made i (insAt b.kps id) (b.its.getD i ⟨0, 0, 0, false⟩) id now
def Br.fail (b : Br) : Br := if b.act = true then (if b.cf.fa ≤ IntKind.i64.wrap (b.rf.fa + 1) then { b with rf := { b.rf with ta := b.rf.fr, fa := 0 } } else { b with rf := { b.rf with fa := IntKind.i64.wrap (b.rf.fa + 1) } }) else b
def Br.phase (b : Br) (id p now : Int) : Br := match b.findK id with
  | none => b
  | some i => if legal (b.kAt i).ph.toNat p = true then b.onK1 i { b.kAt i with ph := UInt8.ofNat p.toNat, si := now, co := false } else b
def Br.goneK (b : Br) (id : Int) : Br := match b.findK id with
  | none => b
  | some i => { b with kps := b.kps.take i ++ b.kps.drop (i + 1) }
def Br.take1 (b : Br) (id t v z now : Int) : Br := if decide (1 ≤ id) && (b.findK id).isNone then { b with kps := insL b.kps (insAt b.kps id) ⟨id, t, v, z, 8, now, false, false⟩ } else b
def Br.guard (b : Br) (id g : Int) : Br := match b.findK id with
  | none => b
  | some i => if g < 2 then b.onK1 i { b.kAt i with gu := decide (g = 1) } else b
def Br.compl (b : Br) (id : Int) : Br := match b.findK id with
  | none => b
  | some i => b.onK1 i { b.kAt i with co := (b.kAt i).co || (b.kAt i).held }
def Br.begin1 (b : Br) (v now : Int) : Br := if (b.set && !b.act) && decide (1 ≤ v) then b.start v now else b
def Br.canc (b : Br) : Br := if b.act = true then b.cancel else b
def Br.roll (b : Br) : Br := if b.act = true then { b with rf := { b.rf with ta := b.rf.fr } } else b
def Br.pause (b : Br) (now : Int) : Br := if b.act = true then (if b.rf.pa = true then b else { b with rf := { b.rf with pa := true, si := now } }) else b
def Br.go1 (b : Br) : Br := if b.act = true then (if b.rf.pa = true then { b with rf := { b.rf with pa := false, sp := IntKind.i64.wrap (b.rf.sp + 1) } } else b) else b
def Br.done1 (b : Br) : Br := if b.act = true then { b with rf := { b.rf with st := 2, pa := false }, cf := { b.cf with ve := b.rf.ta } } else b
def Br.group (b : Br) (l : List Int) : Br := if cfE l = 0 then { b with cf := if b.set = true then { cfOf l with ve := b.cf.ve } else cfOf l, set := true } else b
/-- What a record of a kind does. -/
def Br.deed (b : Br) : Nat → List Int → Br
  | 1, [] => b.boot
  | 3, [v, z, w] => b.intent v z w
  | 4, [t, i, n] => b.mk1 t i n
  | 5, [_] => b.fail
  | 6, [i, p, n] => b.phase i p n
  | 7, [i] => b.goneK i
  | 8, [i, t, v, z, n] => b.take1 i t v z n
  | 9, [i, g] => b.guard i g
  | 10, [i] => b.compl i
  | 11, [v, n] => b.begin1 v n
  | 12, [] => b.canc
  | 13, [] => b.roll
  | 14, [n] => b.pause n
  | 15, [] => b.go1
  | 16, [] => b.done1
  | _, _ => b
def Br.apply (b : Br) (r : Rc) : Br := if numsOk r.l = true then (if r.k.toNat = 2 then b.group r.l else b.deed r.k.toNat r.l) else b
/-- A record, or the first rule's error that is not so. -/
def toldR (r : Rc) (l : List (Bool × Int)) : Rc × Int := match l.find? fun x => !x.1 with
  | some x => (Rc.zero, x.2)
  | none => (r, 0)
def fst0 (l : List Int) : Int := l.getD 0 0
def nowN (now : Int) : Int := min (max now 0) 1099511627776
def keptI (b : Br) (id : Int) : Option Nat := if inB id (0, 1099511627776) = true then b.findK id else none
def keptR (b : Br) (id : Int) : Bool × Int := match keptI b id with
  | none => (false, 191)
  | some _ => (true, 0)
def keptK (b : Br) (id : Int) : Kp := match keptI b id with
  | none => ⟨0, 0, 0, 0, 0, 0, false, false⟩
  | some i => b.kAt i
def bit01 (l : List Int) : Bool := decide (l.length < 2) || inB (l.getD 1 0) (0, 1)
/-- An order's record, and its error. -/
def Br.ask (b : Br) (o : Rc) (now : Int) : Rc × Int := match o.k.toNat with
  | 1 => toldR ⟨2, o.l⟩ [(decide (cfE o.l = 0), cfE o.l)]
  | 2 => toldR ⟨11, [fst0 o.l, nowN now]⟩ [(decide ((o.l.length : Int) = 1), 2), (inB (fst0 o.l) (1, 1099511627776), 2), (b.set && !b.act, 190)]
  | 3 => toldR ⟨12, []⟩ [(decide ((o.l.length : Int) = 0), 2), (b.act, 190)]
  | 4 => toldR ⟨13, []⟩ [(decide ((o.l.length : Int) = 0), 2), (b.act, 190)]
  | 5 => toldR ⟨9, o.l⟩ [(decide ((o.l.length : Int) = 2), 2), (bit01 o.l, 2), keptR b (fst0 o.l)]
  | 6 => toldR ⟨10, o.l⟩ [(decide ((o.l.length : Int) = 1), 2), keptR b (fst0 o.l), ((keptK b (fst0 o.l)).held && !(keptK b (fst0 o.l)).co, 190)]
  | 7 => toldR ⟨15, []⟩ [(decide ((o.l.length : Int) = 0), 2), (b.act, 190), (b.rf.pa, 190)]
  | _ => (Rc.zero, 2)
def Br.doo (b : Br) (o : Rc) (now : Int) : Br := if (b.ask o now).2 = 0 then b.apply (b.ask o now).1 else b
end Go.Proofs.YtcppphgpbaablaaDoor
namespace Go.Proofs.YtcppphgpbaablaaDoor
set_option linter.unusedVariables false
open Go.RowKit
theorem Cf.in_ve {c : Cf} (h : c.ok = true) : 1 ≤ c.ve ∧ c.ve ≤ 1099511627776 := inB_iff.1 (fOk_iff.1 (Cf.ok_f h) 12 (by omega))
theorem okc_ve {c : Cf} {v : Int} (h : c.ok = true) (h1 : 1 ≤ v ∧ v ≤ 1099511627776) : ({ c with ve := v } : Cf).ok = true :=
  have f := fOk_iff.1 (Cf.ok_f h)
  Cf.ok_mk (fOk_iff.2 fun
    | 0, _ => f 0 (by omega) | 1, _ => f 1 (by omega) | 2, _ => f 2 (by omega) | 3, _ => f 3 (by omega) | 4, _ => f 4 (by omega) | 5, _ => f 5 (by omega) | 6, _ => f 6 (by omega) | 7, _ => f 7 (by omega) | 8, _ => f 8 (by omega) | 9, _ => f 9 (by omega) | 10, _ => f 10 (by omega) | 11, _ => f 11 (by omega)
    | 12, _ => inB_iff.2 h1
    | k + 13, h => by omega) (Cf.ok_m (c := c) h) (Cf.ok_s (c := c) h) (Cf.ok_l (c := c) h)
def Kp.ip (k : Kp) : Int × UInt8 := (k.id, k.ph)
theorem idn_of {b c : Br} (hk : c.kps.map Kp.ip = b.kps.map Kp.ip) (k : Nat) : c.idn k = b.idn k ∧ c.phn k = b.phn k := by
  have e := congrArg (fun l => l[k]?) hk
  simp only [List.getElem?_map] at e
  unfold Br.idn Br.phn
  cases h1 : c.kps[k]? with
  | none =>
    cases h2 : b.kps[k]? with
    | none => exact ⟨rfl, rfl⟩
    | some y => rw [h1, h2] at e; cases e
  | some x =>
    cases h2 : b.kps[k]? with
    | none => rw [h1, h2] at e; cases e
    | some y =>
      rw [h1, h2] at e
      simp only [Option.map_some, Option.some.injEq, Kp.ip, Prod.mk.injEq] at e
      simp only [e.1, e.2, and_self]
theorem Br.Ok.of {b c : Br} (h : b.Ok) (he : c.ep = b.ep) (hs : c.sq = b.sq) (hi : c.its = b.its) (hk : c.kps.map Kp.ip = b.kps.map Kp.ip)
    (hr : c.rf.st.toNat = 1 → (1 ≤ c.rf.fr ∧ c.rf.fr ≤ 1099511627776) ∧ 1 ≤ c.rf.ta ∧ c.rf.ta ≤ 1099511627776) (hu : c.set = false → b.set = false ∧ c.rf.st.toNat = 0) (hc : c.set = true → c.cf.ok = true) : c.Ok := by
  have ht : ∀ k, c.tk k = b.tk k := fun k => by simp only [Br.tk, hi]
  have hlt : ∀ k, c.lastT k = b.lastT k := fun k => by cases k <;> simp [Br.lastT, ht]
  have hn := idn_of hk
  have hli : ∀ k, c.lastI k = b.lastI k := fun k => by cases k <;> simp [Br.lastI, hn]
  have hkl : c.kps.length = b.kps.length := by have := congrArg List.length hk; simpa using this
  refine ⟨by rw [he]; exact h.ep, by rw [hs]; exact h.sq, fun k hk' => ?_, fun k hk' => ?_, hr, fun hset => ?_, hc⟩
  · rw [hi] at hk'
    have := h.its k hk'
    exact ⟨by rw [hlt, ht]; exact this.lo, by rw [ht, hs]; exact this.hi⟩
  · rw [hkl] at hk'
    have := h.kps k hk'
    exact ⟨by rw [hli, (hn k).1]; exact this.lo, by rw [(hn k).1]; exact this.hi, by rw [(hn k).2]; exact this.p1, by rw [(hn k).2]; exact this.p2⟩
  · obtain ⟨h1, h2⟩ := hu hset
    exact ⟨by rw [hi]; exact (h.un h1).1, h2⟩
theorem set_ip {l : List Kp} {i : Nat} (h : i < l.length) {x : Kp} (hx : x.ip = l[i].ip) : (l.set i x).map Kp.ip = l.map Kp.ip := by
  refine List.ext_getElem (by simp) fun k h1 h2 => ?_
  simp only [List.getElem_map, List.getElem_set]
  split
  · rename_i e; subst e; exact hx
  · rfl
theorem idn_lt {b : Br} (h : b.Ok) {j : Nat} : ∀ {i : Nat}, j < i → i < b.kps.length → b.idn j < b.idn i
  | 0, h1, _ => by omega
  | i + 1, h1, h2 => by
    have h3 : b.idn i < b.idn (i + 1) := (h.kps (i + 1) h2).lo
    rcases Nat.lt_succ_iff_lt_or_eq.1 h1 with h4 | rfl
    · have := idn_lt h h4 (by omega); omega
    · exact h3
theorem id_pos {b : Br} (h : b.Ok) {i : Nat} (hi : i < b.kps.length) : 1 ≤ b.kps[i].id ∧ b.kps[i].id ≤ 1099511627776 := by
  have h1 := (h.kps i hi).hi
  rw [idn_at hi] at h1
  refine ⟨?_, h1⟩
  have h0 : (0 : Int) < b.idn 0 := (h.kps 0 (by omega)).lo
  rw [← idn_at hi]
  rcases Nat.eq_zero_or_pos i with rfl | hp
  · omega
  · have := idn_lt h hp hi; omega
theorem findK_self {b : Br} (h : b.Ok) {i : Nat} (hi : i < b.kps.length) : b.findK b.kps[i].id = some i := by
  unfold Br.findK
  rw [List.findIdx?_eq_some_iff_getElem]
  refine ⟨hi, by simp, fun j hj => ?_⟩
  have := idn_lt h hj hi
  rw [idn_at hi, idn_at (show j < b.kps.length by omega)] at this
  simp only [decide_eq_true_eq]
  omega
theorem findK_ip (b : Br) (id : Int) : b.findK id = (b.kps.map Kp.ip).findIdx? fun x => decide (x.1 = id) := by
  rw [List.findIdx?_map]; rfl
theorem findK_of {b c : Br} (hk : c.kps.map Kp.ip = b.kps.map Kp.ip) (id : Int) : c.findK id = b.findK id := by
  rw [findK_ip, findK_ip, hk]
theorem told1 (r : Rc) (p : Bool) (e : Int) : toldR r [(p, e)] = if p = true then (r, 0) else (Rc.zero, e) := by cases p <;> rfl
theorem told2 (r : Rc) (p q : Bool) (e f : Int) : toldR r [(p, e), (q, f)] = if p = true then (if q = true then (r, 0) else (Rc.zero, f)) else (Rc.zero, e) := by cases p <;> cases q <;> rfl
theorem told3 (r : Rc) (p q s : Bool) (e f g : Int) : toldR r [(p, e), (q, f), (s, g)] = if p = true then (if q = true then (if s = true then (r, 0) else (Rc.zero, g)) else (Rc.zero, f)) else (Rc.zero, e) := by cases p <;> cases q <;> cases s <;> rfl
theorem set_of_act {b : Br} (h : b.Ok) (ha : b.act = true) : b.set = true := by
  cases hs : b.set
  · have := (h.un hs).2
    simp only [Br.act, decide_eq_true_eq] at ha
    omega
  · rfl
theorem act_rf {b : Br} (h : b.Ok) (ha : b.act = true) : (1 ≤ b.rf.fr ∧ b.rf.fr ≤ 1099511627776) ∧ 1 ≤ b.rf.ta ∧ b.rf.ta ≤ 1099511627776 := h.rf (of_decide_eq_true ha)
theorem ok_begin {b : Br} (h : b.Ok) {v now : Int} (hv : v ≤ 1099511627776) : (b.begin1 v now).Ok := by
  unfold Br.begin1
  split
  · rename_i hc
    simp only [Bool.and_eq_true, decide_eq_true_eq, Bool.not_eq_true'] at hc
    have hcf := h.cf hc.1.1
    exact h.of rfl rfl rfl rfl (fun _ => ⟨Cf.in_ve hcf, hc.2, hv⟩) (fun hs => by have hs' : b.set = false := hs; rw [hc.1.1] at hs'; cases hs') (fun _ => hcf)
  · exact h
theorem ok_canc {b : Br} (h : b.Ok) : b.canc.Ok := by
  unfold Br.canc
  split
  · rename_i ha
    exact h.of rfl rfl rfl rfl (fun hx => absurd (show (3 : Nat) = 1 from hx) (by decide)) (fun hs => by have hs' : b.set = false := hs; rw [set_of_act h ha] at hs'; cases hs') h.cf
  · exact h
theorem ok_roll {b : Br} (h : b.Ok) : b.roll.Ok := by
  unfold Br.roll
  split
  · rename_i ha
    exact h.of rfl rfl rfl rfl (fun hx => ⟨(act_rf h ha).1, (act_rf h ha).1⟩) (fun hs => by have hs' : b.set = false := hs; rw [set_of_act h ha] at hs'; cases hs') h.cf
  · exact h
theorem ok_go1 {b : Br} (h : b.Ok) : b.go1.Ok := by
  unfold Br.go1
  split
  · rename_i ha
    split
    · exact h.of rfl rfl rfl rfl (fun hx => act_rf (b := b) h ha) (fun hs => by have hs' : b.set = false := hs; rw [set_of_act h ha] at hs'; cases hs') h.cf
    · exact h
  · exact h
theorem ok_set {b : Br} (h : b.Ok) {i : Nat} (hi : i < b.kps.length) {x : Kp} (hx : x.ip = b.kps[i].ip) : (b.onK1 i x).Ok :=
  h.of rfl rfl rfl (set_ip hi hx) h.rf (fun hs => ⟨hs, (h.un hs).2⟩) h.cf
theorem ok_guard {b : Br} (h : b.Ok) (id g : Int) : (b.guard id g).Ok := by
  unfold Br.guard
  split
  · exact h
  · rename_i i hf
    obtain ⟨hi, _⟩ := findK_some hf
    split
    · exact ok_set h hi (by rw [kAt_eq hi]; rfl)
    · exact h
theorem ok_compl {b : Br} (h : b.Ok) (id : Int) : (b.compl id).Ok := by
  unfold Br.compl
  split
  · exact h
  · rename_i i hf
    obtain ⟨hi, _⟩ := findK_some hf
    exact ok_set h hi (by rw [kAt_eq hi]; rfl)
theorem ok_group {b : Br} (h : b.Ok) (l : List Int) : (b.group l).Ok := by
  unfold Br.group
  split
  · rename_i he
    have hc := of_ok (ofE_0 he)
    have hst : b.set = false → b.rf.st.toNat = 0 := fun hs => (h.un hs).2
    refine h.of rfl rfl rfl rfl h.rf (fun hs => by cases hs) (fun _ => ?_)
    show (if b.set = true then { cfOf l with ve := b.cf.ve } else cfOf l).ok = true
    split
    · rename_i hs; exact okc_ve hc (Cf.in_ve (h.cf hs))
    · exact hc
  · exact h
theorem fineN_iff {n : Int} : fineN n = true ↔ 0 ≤ n ∧ n ≤ 1099511627776 := by simp [fineN]
theorem numsOk_fine {l : List Int} (h : ∀ n ∈ l, fineN n = true) : numsOk l = true := by
  simp only [numsOk, List.all_eq_true, Bool.and_eq_true, decide_eq_true_eq]
  exact fun n hn => fineN_iff.1 (h n hn)
theorem row_fine {c : Cf} (h : c.ok = true) : ∀ n ∈ c.rowN, fineN n = true := by
  intro n hn
  rw [Cf.rowN, if_pos h] at hn
  rw [fineN_iff]
  have f := fOk_iff.1 (Cf.ok_f h)
  rcases List.mem_append.1 hn with hn | hn
  · simp only [Cf.nums, List.mem_cons, List.not_mem_nil, or_false] at hn
    have g := fun k hk => inB_iff.1 (f k hk)
    have g0 := g 0 (by omega); have g1 := g 1 (by omega); have g2 := g 2 (by omega); have g3 := g 3 (by omega); have g4 := g 4 (by omega); have g5 := g 5 (by omega); have g6 := g 6 (by omega); have g7 := g 7 (by omega); have g8 := g 8 (by omega); have g9 := g 9 (by omega); have g10 := g 10 (by omega); have g11 := g 11 (by omega); have g12 := g 12 (by omega)
    simp only [Cf.nth, Cf.nums, limAt, lims, List.getD_cons_zero, List.getD_cons_succ] at g0 g1 g2 g3 g4 g5 g6 g7 g8 g9 g10 g11 g12
    rcases hn with rfl | rfl | rfl | rfl | rfl | rfl | rfl | rfl | rfl | rfl | rfl | rfl | rfl <;> omega
  · rcases List.mem_append.1 hn with hn | hn
    · rw [List.mem_singleton] at hn
      rw [hn, Cf.skN]; split <;> omega
    · obtain ⟨k, hk, rfl⟩ := List.mem_iff_getElem.1 hn
      have h1 := mOk_iff.1 (Cf.ok_s h) k hk
      rw [mOkAt, getDE hk, Bool.and_eq_true] at h1
      have := inB_iff.1 h1.1
      simp only at this
      omega
theorem rc_row {l : List Int} (h : cfE l = 0) : (⟨2, l⟩ : Rc).ok = true ∧ numsOk l = true := by
  have h0 := ofE_0 h
  have h1 := of_ok h0
  have h2 := row_of h0
  have h3 := row_fine h1
  have h4 := cf_row_len h1
  have h5 := Cf.ok_m h1
  rw [h2] at h3 h4
  refine ⟨Rc.ok_iff.2 ⟨okLen_iff.2 ?_, h3⟩, numsOk_fine h3⟩
  show (1 ≤ 2 ∧ 2 < 17) ∧ 14 ≤ l.length ∧ l.length ≤ 18
  omega
theorem nowN_in (now : Int) : 0 ≤ nowN now ∧ nowN now ≤ 1099511627776 := by unfold nowN; omega
theorem keptR_1 {b : Br} {id : Int} (h : (keptR b id).1 = true) : (0 ≤ id ∧ id ≤ 1099511627776) ∧ ∃ i, b.findK id = some i ∧ keptI b id = some i := by
  unfold keptR at h
  split at h
  · cases h
  · rename_i i hi
    have h2 := hi
    unfold keptI at h2
    split at h2
    · rename_i h3; exact ⟨inB_iff.1 h3, i, h2, hi⟩
    · cases h2
theorem keptR_2 {b : Br} {id : Int} : ((keptR b id).1 = true ∧ keptR b id = (true, 0)) ∨ keptR b id = (false, 191) := by
  unfold keptR
  split
  · exact .inr rfl
  · exact .inl ⟨rfl, rfl⟩
theorem ok_of_fine {k : UInt8} {l : List Int} (h1 : okLen k.toNat l.length = true) (h2 : ∀ n ∈ l, fineN n = true) : (⟨k, l⟩ : Rc).ok = true := Rc.ok_iff.2 ⟨h1, h2⟩
theorem apply_2 {b : Br} {l : List Int} (h : numsOk l = true) : b.apply ⟨2, l⟩ = b.group l := by
  unfold Br.apply
  rw [if_pos h]; rfl
theorem apply_k {b : Br} {k : UInt8} {l : List Int} (h : numsOk l = true) (hk : k.toNat ≠ 2) : b.apply ⟨k, l⟩ = b.deed k.toNat l := by
  unfold Br.apply
  rw [if_pos h]; exact if_neg hk
theorem ok_2 {b : Br} {l : List Int} (h : numsOk l = true) (hg : (b.group l).Ok) : (b.apply ⟨2, l⟩).Ok := by rw [apply_2 h]; exact hg
theorem ok_k {b : Br} (k : UInt8) {l : List Int} (h : numsOk l = true) (hk : k.toNat ≠ 2) (hg : (b.deed k.toNat l).Ok) : (b.apply ⟨k, l⟩).Ok := by rw [apply_k h hk]; exact hg
/-- What may be ordered: an error comes with no record; else the record may be, and the brain behind it. -/
theorem ask_fits {b : Br} (h : b.Ok) (o : Rc) (now : Int) : ((b.ask o now).2 ≠ 0 → (b.ask o now).1 = Rc.zero) ∧ ((b.ask o now).2 = 0 → (b.ask o now).1.ok = true ∧ (b.apply (b.ask o now).1).Ok) := by
  have hn := nowN_in now
  obtain ⟨ok_, l⟩ := o
  unfold Br.ask
  split
  · rw [told1]
    split
    · rename_i he
      have he' : cfE l = 0 := of_decide_eq_true he
      have hr := rc_row he'
      refine ⟨fun h0 => absurd rfl h0, fun _ => ⟨hr.1, ok_2 hr.2 (ok_group h l)⟩⟩
    · rename_i he
      exact ⟨fun _ => rfl, fun h0 => absurd (decide_eq_true h0) he⟩
  · rw [told3]
    split
    · rename_i h1
      split
      · rename_i h2
        split
        · have hv := inB_iff.1 h2
          simp only at hv
          have hf : ∀ n ∈ [fst0 l, nowN now], fineN n = true := by
            intro n hn'
            simp only [List.mem_cons, List.not_mem_nil, or_false] at hn'
            rcases hn' with rfl | rfl
            · exact fineN_iff.2 (by omega)
            · exact fineN_iff.2 hn
          refine ⟨fun h0 => absurd rfl h0, fun _ => ⟨ok_of_fine (show okLen 11 2 = true by decide) hf, ok_k 11 (numsOk_fine hf) (by decide) (ok_begin h hv.2)⟩⟩
        · exact ⟨fun _ => rfl, fun h0 => absurd h0 (by decide)⟩
      · exact ⟨fun _ => rfl, fun h0 => absurd h0 (by decide)⟩
    · exact ⟨fun _ => rfl, fun h0 => absurd h0 (by decide)⟩
  · rw [told2]
    split
    · split
      · exact ⟨fun h0 => absurd rfl h0, fun _ => ⟨by decide, ok_k 12 (by decide) (by decide) (ok_canc h)⟩⟩
      · exact ⟨fun _ => rfl, fun h0 => absurd h0 (by decide)⟩
    · exact ⟨fun _ => rfl, fun h0 => absurd h0 (by decide)⟩
  · rw [told2]
    split
    · split
      · exact ⟨fun h0 => absurd rfl h0, fun _ => ⟨by decide, ok_k 13 (by decide) (by decide) (ok_roll h)⟩⟩
      · exact ⟨fun _ => rfl, fun h0 => absurd h0 (by decide)⟩
    · exact ⟨fun _ => rfl, fun h0 => absurd h0 (by decide)⟩
  · rw [show keptR b (fst0 l) = ((keptR b (fst0 l)).1, (keptR b (fst0 l)).2) from rfl, told3]
    split
    · rename_i h1
      split
      · rename_i h2
        split
        · rename_i h3
          obtain ⟨hv, i, hi, _⟩ := keptR_1 h3
          match l, h1 with
          | [a, c], _ =>
            have hb : inB c (0, 1) = true := by simpa [bit01] using h2
            have hb' := inB_iff.1 hb
            have hv' : 0 ≤ a ∧ a ≤ 1099511627776 := hv
            simp only at hb'
            have hf : ∀ n ∈ [a, c], fineN n = true := by
              intro n hn'
              simp only [List.mem_cons, List.not_mem_nil, or_false] at hn'
              rcases hn' with rfl | rfl
              · exact fineN_iff.2 hv'
              · exact fineN_iff.2 (by omega)
            refine ⟨fun h0 => absurd rfl h0, fun _ => ⟨ok_of_fine (show okLen 9 2 = true by decide) hf, ok_k 9 (numsOk_fine hf) (by decide) (ok_guard h a c)⟩⟩
          | [], h1 => exact absurd (of_decide_eq_true h1) (by simp)
          | [a], h1 => exact absurd (of_decide_eq_true h1) (by simp)
          | a :: c :: d :: l, h1 => exact absurd (of_decide_eq_true h1) (by simp; omega)
        · rename_i h3
          rcases keptR_2 (b := b) (id := fst0 l) with h4 | h4
          · exact absurd h4.1 h3
          · rw [h4]; exact ⟨fun _ => rfl, fun h0 => absurd h0 (by decide)⟩
      · exact ⟨fun _ => rfl, fun h0 => absurd h0 (by decide)⟩
    · exact ⟨fun _ => rfl, fun h0 => absurd h0 (by decide)⟩
  · rw [show keptR b (fst0 l) = ((keptR b (fst0 l)).1, (keptR b (fst0 l)).2) from rfl, told3]
    split
    · rename_i h1
      split
      · rename_i h3
        split
        · rename_i h2
          obtain ⟨hv, i, hi, _⟩ := keptR_1 h3
          match l, h1 with
          | [a], _ =>
            have hv' : 0 ≤ a ∧ a ≤ 1099511627776 := hv
            have hf : ∀ n ∈ [a], fineN n = true := by
              intro n hn'
              rw [List.mem_singleton] at hn'
              subst hn'
              exact fineN_iff.2 hv'
            refine ⟨fun h0 => absurd rfl h0, fun _ => ⟨ok_of_fine (show okLen 10 1 = true by decide) hf, ok_k 10 (numsOk_fine hf) (by decide) (ok_compl h a)⟩⟩
          | [], h1 => exact absurd (of_decide_eq_true h1) (by simp)
          | a :: c :: l, h1 => exact absurd (of_decide_eq_true h1) (by simp; omega)
        · exact ⟨fun _ => rfl, fun h0 => absurd h0 (by decide)⟩
      · rename_i h3
        rcases keptR_2 (b := b) (id := fst0 l) with h4 | h4
        · exact absurd h4.1 h3
        · rw [h4]; exact ⟨fun _ => rfl, fun h0 => absurd h0 (by decide)⟩
    · exact ⟨fun _ => rfl, fun h0 => absurd h0 (by decide)⟩
  · rw [told3]
    split
    · split
      · split
        · exact ⟨fun h0 => absurd rfl h0, fun _ => ⟨by decide, ok_k 15 (by decide) (by decide) (ok_go1 h)⟩⟩
        · exact ⟨fun _ => rfl, fun h0 => absurd h0 (by decide)⟩
      · exact ⟨fun _ => rfl, fun h0 => absurd h0 (by decide)⟩
    · exact ⟨fun _ => rfl, fun h0 => absurd h0 (by decide)⟩
  · exact ⟨fun _ => rfl, fun h0 => absurd h0 (by decide)⟩
theorem doo_ok {b : Br} (h : b.Ok) (o : Rc) (now : Int) : (b.doo o now).Ok := by
  unfold Br.doo
  split
  · rename_i h0; exact ((ask_fits h o now).2 h0).2
  · exact h
end Go.Proofs.YtcppphgpbaablaaDoor
namespace Go.Proofs.YtcppphgpbaablaaDoor
set_option linter.unusedVariables false
open Go.RowKit
theorem ask_conf {b : Br} {l : List Int} {now : Int} : b.ask ⟨1, l⟩ now = if cfE l = 0 then (⟨2, l⟩, 0) else (Rc.zero, cfE l) := by
  show toldR ⟨2, l⟩ [(decide (cfE l = 0), cfE l)] = _
  rw [told1]; simp only [decide_eq_true_eq]
theorem conf_no {b : Br} {c : Cf} (now : Int) (h : ¬ c.ok = true) : b.doo ⟨1, c.rowN⟩ now = b ∧ (b.ask ⟨1, c.rowN⟩ now).2 = 70 := by
  have e : b.ask ⟨1, c.rowN⟩ now = (Rc.zero, 70) := by rw [row_no h, ask_conf]; rfl
  exact ⟨by rw [Br.doo, e]; rfl, by rw [e]⟩
def wantC (b : Br) (c : Cf) : Cf := if b.set = true then { c with ve := b.cf.ve } else c
theorem conf_yes {b : Br} {c : Cf} (now : Int) (h : c.ok = true) : b.doo ⟨1, c.rowN⟩ now = { b with cf := wantC b c, set := true } ∧ (b.ask ⟨1, c.rowN⟩ now).2 = 0 := by
  have e0 := ofE_row h
  have e : b.ask ⟨1, c.rowN⟩ now = (⟨2, c.rowN⟩, 0) := by rw [ask_conf, if_pos e0]
  refine ⟨?_, by rw [e]⟩
  rw [Br.doo, e, if_pos rfl, apply_2 (rc_row e0).2, Br.group, if_pos e0, of_row h]; rfl
theorem ask_start {b : Br} {v now : Int} (h1 : 1 ≤ v) (h2 : v ≤ 1099511627776) : b.ask ⟨2, [v]⟩ now = if (b.set && !b.act) = true then (⟨11, [v, nowN now]⟩, 0) else (Rc.zero, 190) := by
  show toldR ⟨11, [v, nowN now]⟩ [(decide (((1 : Nat) : Int) = 1), 2), (inB v (1, 1099511627776), 2), (b.set && !b.act, 190)] = _
  rw [told3, if_pos (by decide), if_pos (inB_iff.2 ⟨h1, h2⟩)]
theorem nums_start {v now : Int} (h1 : 1 ≤ v) (h2 : v ≤ 1099511627776) : numsOk [v, nowN now] = true := by
  have := nowN_in now
  refine numsOk_fine fun n hn => fineN_iff.2 ?_
  simp only [List.mem_cons, List.not_mem_nil, or_false] at hn
  rcases hn with rfl | rfl <;> omega
theorem start_yes {b : Br} {v now : Int} (h1 : 1 ≤ v) (h2 : v ≤ 1099511627776) (hs : b.set = true) (ha : b.act = false) : b.doo ⟨2, [v]⟩ now = b.start v (nowN now) ∧ (b.ask ⟨2, [v]⟩ now).2 = 0 := by
  have e : b.ask ⟨2, [v]⟩ now = (⟨11, [v, nowN now]⟩, 0) := by rw [ask_start h1 h2, hs, ha]; rfl
  refine ⟨?_, by rw [e]⟩
  rw [Br.doo, e, if_pos rfl, apply_k (nums_start h1 h2) (by decide)]
  show b.begin1 v (nowN now) = _
  rw [Br.begin1, if_pos (by rw [hs, ha]; simpa using h1)]
theorem start_no {b : Br} {v now : Int} (h1 : 1 ≤ v) (h2 : v ≤ 1099511627776) (ha : b.act = true) : b.doo ⟨2, [v]⟩ now = b ∧ (b.ask ⟨2, [v]⟩ now).2 = 190 := by
  have e : b.ask ⟨2, [v]⟩ now = (Rc.zero, 190) := by rw [ask_start h1 h2, ha, if_neg (by simp)]
  exact ⟨by rw [Br.doo, e]; rfl, by rw [e]⟩
theorem start_any {b : Br} {v now : Int} (h1 : 1 ≤ v) (h2 : v ≤ 1099511627776) (hs : b.set = true) : ∃ d : Br, b.doo ⟨2, [v]⟩ now = d ∧ (b.ask ⟨2, [v]⟩ now).2 = (if b.act = true then 190 else 0) ∧ d.act = true ∧ d.set = true ∧ d.its = b.its ∧ d.kps = b.kps ∧ d.cf = b.cf := by
  by_cases ha : b.act = true
  · obtain ⟨g1, g2⟩ := start_no (now := now) h1 h2 ha
    exact ⟨b, g1, by rw [g2, if_pos ha], ha, hs, rfl, rfl, rfl⟩
  · obtain ⟨g1, g2⟩ := start_yes (now := now) h1 h2 hs (by simpa using ha)
    exact ⟨_, g1, by rw [g2, if_neg ha], rfl, hs, rfl, rfl, rfl⟩
theorem ask_canc {b : Br} {now : Int} : b.ask ⟨3, []⟩ now = if b.act = true then (⟨12, []⟩, 0) else (Rc.zero, 190) := by
  show toldR ⟨12, []⟩ [(decide (((0 : Nat) : Int) = 0), 2), (b.act, 190)] = _
  rw [told2, if_pos (by decide)]
theorem ask_roll {b : Br} {now : Int} : b.ask ⟨4, []⟩ now = if b.act = true then (⟨13, []⟩, 0) else (Rc.zero, 190) := by
  show toldR ⟨13, []⟩ [(decide (((0 : Nat) : Int) = 0), 2), (b.act, 190)] = _
  rw [told2, if_pos (by decide)]
theorem ask_go {b : Br} {now : Int} : b.ask ⟨7, []⟩ now = if b.act = true then (if b.rf.pa = true then (⟨15, []⟩, 0) else (Rc.zero, 190)) else (Rc.zero, 190) := by
  show toldR ⟨15, []⟩ [(decide (((0 : Nat) : Int) = 0), 2), (b.act, 190), (b.rf.pa, 190)] = _
  rw [told3, if_pos (by decide)]
theorem canc_yes {b : Br} (now : Int) (ha : b.act = true) : b.doo ⟨3, []⟩ now = b.cancel ∧ (b.ask ⟨3, []⟩ now).2 = 0 := by
  have e : b.ask ⟨3, []⟩ now = (⟨12, []⟩, 0) := by rw [ask_canc, if_pos ha]
  refine ⟨?_, by rw [e]⟩
  rw [Br.doo, e, if_pos rfl, apply_k (by decide) (by decide)]
  show b.canc = _
  rw [Br.canc, if_pos ha]
theorem canc_no {b : Br} (now : Int) (ha : b.act = false) : b.doo ⟨3, []⟩ now = b ∧ (b.ask ⟨3, []⟩ now).2 = 190 := by
  have e : b.ask ⟨3, []⟩ now = (Rc.zero, 190) := by rw [ask_canc, if_neg (by simp [ha])]
  exact ⟨by rw [Br.doo, e]; rfl, by rw [e]⟩
theorem roll_yes {b : Br} (now : Int) (ha : b.act = true) : b.doo ⟨4, []⟩ now = { b with rf := { b.rf with ta := b.rf.fr } } ∧ (b.ask ⟨4, []⟩ now).2 = 0 := by
  have e : b.ask ⟨4, []⟩ now = (⟨13, []⟩, 0) := by rw [ask_roll, if_pos ha]
  refine ⟨?_, by rw [e]⟩
  rw [Br.doo, e, if_pos rfl, apply_k (by decide) (by decide)]
  show b.roll = _
  rw [Br.roll, if_pos ha]
theorem roll_no {b : Br} (now : Int) (ha : b.act = false) : b.doo ⟨4, []⟩ now = b ∧ (b.ask ⟨4, []⟩ now).2 = 190 := by
  have e : b.ask ⟨4, []⟩ now = (Rc.zero, 190) := by rw [ask_roll, if_neg (by simp [ha])]
  exact ⟨by rw [Br.doo, e]; rfl, by rw [e]⟩
theorem ogo_no {b : Br} (now : Int) (ha : b.act = false) : b.doo ⟨7, []⟩ now = b ∧ (b.ask ⟨7, []⟩ now).2 = 190 := by
  have e : b.ask ⟨7, []⟩ now = (Rc.zero, 190) := by rw [ask_go, if_neg (by simp [ha])]
  exact ⟨by rw [Br.doo, e]; rfl, by rw [e]⟩
theorem ask_guard {b : Br} {i : Nat} {id g now : Int} (hid : 0 ≤ id ∧ id ≤ 1099511627776) (hf : b.findK id = some i) : b.ask ⟨5, [id, g]⟩ now = if inB g (0, 1) = true then (⟨9, [id, g]⟩, 0) else (Rc.zero, 2) := by
  have ek : keptR b id = (true, 0) := by rw [keptR, keptI, if_pos (inB_iff.2 hid), hf]
  show toldR ⟨9, [id, g]⟩ [(decide (((2 : Nat) : Int) = 2), 2), (bit01 [id, g], 2), keptR b id] = _
  rw [ek, told3, if_pos (by decide), show bit01 [id, g] = inB g (0, 1) from rfl, if_pos rfl]
theorem guard_yes {b : Br} {i : Nat} {id : Int} (now : Int) (g : Bool) (hid : 0 ≤ id ∧ id ≤ 1099511627776) (hf : b.findK id = some i) : b.doo ⟨5, [id, if g = true then 1 else 0]⟩ now = b.onK1 i { b.kAt i with gu := g } ∧ (b.ask ⟨5, [id, if g = true then 1 else 0]⟩ now).2 = 0 := by
  have hg : inB (if g = true then 1 else 0) (0, 1) = true := by cases g <;> decide
  have e : b.ask ⟨5, [id, if g = true then 1 else 0]⟩ now = (⟨9, [id, if g = true then 1 else 0]⟩, 0) := by rw [ask_guard hid hf, if_pos hg]
  refine ⟨?_, by rw [e]⟩
  have hn : numsOk [id, if g = true then 1 else 0] = true := numsOk_fine fun n hn => fineN_iff.2 (by
    simp only [List.mem_cons, List.not_mem_nil, or_false] at hn
    rcases hn with rfl | rfl
    · exact hid
    · split <;> omega)
  rw [Br.doo, e, if_pos rfl, apply_k hn (by decide)]
  show b.guard id _ = _
  rw [Br.guard, hf]
  cases g <;> rfl
theorem guard_two {b : Br} {i : Nat} {id : Int} (now : Int) (hid : 0 ≤ id ∧ id ≤ 1099511627776) (hf : b.findK id = some i) : b.doo ⟨5, [id, 2]⟩ now = b ∧ (b.ask ⟨5, [id, 2]⟩ now).2 = 2 := by
  have e : b.ask ⟨5, [id, 2]⟩ now = (Rc.zero, 2) := by rw [ask_guard hid hf]; rfl
  exact ⟨by rw [Br.doo, e]; rfl, by rw [e]⟩
def Kp.may (k : Kp) : Bool := k.held && !k.co
theorem compl_any {b : Br} {i : Nat} {id : Int} (now : Int) (hid : 0 ≤ id ∧ id ≤ 1099511627776) (hf : b.findK id = some i) : b.doo ⟨6, [id]⟩ now = (if (b.kAt i).may = true then b.onK1 i { b.kAt i with co := true } else b) ∧ (b.ask ⟨6, [id]⟩ now).2 = (if (b.kAt i).may = true then 0 else 190) := by
  have e1 : keptI b id = some i := by rw [keptI, if_pos (inB_iff.2 hid), hf]
  have ek : keptR b id = (true, 0) := by rw [keptR, e1]
  have ek2 : keptK b id = b.kAt i := by rw [keptK, e1]
  have e : b.ask ⟨6, [id]⟩ now = if (b.kAt i).may = true then (⟨10, [id]⟩, 0) else (Rc.zero, 190) := by
    show toldR ⟨10, [id]⟩ [(decide (((1 : Nat) : Int) = 1), 2), keptR b id, ((keptK b id).held && !(keptK b id).co, 190)] = _
    rw [ek, ek2, told3, if_pos (by decide), if_pos rfl]; rfl
  by_cases hm : (b.kAt i).may = true
  · rw [if_pos hm] at e
    rw [if_pos hm, if_pos hm]
    refine ⟨?_, by rw [e]⟩
    have hn : numsOk [id] = true := numsOk_fine fun n hn => fineN_iff.2 (by rw [List.mem_singleton] at hn; subst hn; exact hid)
    rw [Br.doo, e, if_pos rfl, apply_k hn (by decide)]
    show b.compl id = _
    have h1 : (b.kAt i).held = true := by simp only [Kp.may, Bool.and_eq_true] at hm; exact hm.1
    rw [Br.compl, hf]
    simp only [h1, Bool.or_true]
  · rw [if_neg hm] at e
    rw [if_neg hm, if_neg hm]
    exact ⟨by rw [Br.doo, e]; rfl, by rw [e]⟩
theorem onK1_find {b : Br} {i : Nat} {x : Kp} (h : i < b.kps.length) (hx : x.ip = b.kps[i].ip) (id : Int) : (b.onK1 i x).findK id = b.findK id := findK_of (set_ip h hx) id
theorem onK1_at {b : Br} {i : Nat} {x : Kp} (h : i < b.kps.length) : (b.onK1 i x).kAt i = x := by
  have h' : i < (b.onK1 i x).kps.length := by simpa [Br.onK1] using h
  rw [kAt_eq h']
  simp [Br.onK1]
/-- The same brain but for one that is kept. -/
structure Near (b c : Br) (i : Nat) : Prop where
  its : c.its = b.its
  cf : c.cf = b.cf
  len : c.kps.length = b.kps.length
  other : ∀ j, j ≠ i → ∀ (h : j < b.kps.length) (h' : j < c.kps.length), c.kps[j] = b.kps[j]
theorem Near.refl (b : Br) (i : Nat) : Near b b i := ⟨rfl, rfl, rfl, fun _ _ _ _ => rfl⟩
theorem Near.set {b c : Br} {i : Nat} (h : Near b c i) (x : Kp) : Near b (c.onK1 i x) i := by
  refine ⟨h.its, h.cf, by rw [← h.len]; simp [Br.onK1], fun j hj h1 h2 => ?_⟩
  have h3 : j < c.kps.length := by rw [h.len]; exact h1
  rw [← h.other j hj h1 h3]
  simp only [Br.onK1]
  rw [List.getElem_set_ne (fun e => hj e.symm)]
theorem kept_laws {b : Br} (h : b.Ok) {i : Nat} (hi : i < b.kps.length) (now : Int) : ∃ d f g : Br,
    (b.doo ⟨5, [b.kps[i].id, 1]⟩ now = d ∧ (b.ask ⟨5, [b.kps[i].id, 1]⟩ now).2 = 0) ∧ (d.doo ⟨5, [b.kps[i].id, 0]⟩ now = f ∧ (d.ask ⟨5, [b.kps[i].id, 0]⟩ now).2 = 0) ∧
    (b.doo ⟨6, [b.kps[i].id]⟩ now = g ∧ (b.ask ⟨6, [b.kps[i].id]⟩ now).2 = if b.kps[i].may = true then 0 else 190) ∧ (g.doo ⟨6, [b.kps[i].id]⟩ now = g ∧ (g.ask ⟨6, [b.kps[i].id]⟩ now).2 = 190) ∧
    (b.doo ⟨5, [b.kps[i].id, 2]⟩ now = b ∧ (b.ask ⟨5, [b.kps[i].id, 2]⟩ now).2 = 2) ∧ Near b d i ∧ Near b f i ∧ Near b g i ∧ (d.kAt i).gu = true ∧ (f.kAt i).gu = false ∧ (b.kps[i].may = true → (g.kAt i).co = true) := by
  have hp := id_pos h hi
  have hid : 0 ≤ b.kps[i].id ∧ b.kps[i].id ≤ 1099511627776 := by omega
  have hf := findK_self h hi
  have hk := kAt_eq hi
  have e1 := guard_yes now true hid hf
  have hi1 : i < (b.onK1 i { b.kAt i with gu := true }).kps.length := by simpa [Br.onK1] using hi
  have hf1 : (b.onK1 i { b.kAt i with gu := true }).findK b.kps[i].id = some i := by rw [onK1_find hi (by rw [hk]; rfl)]; exact hf
  have e2 := guard_yes now false hid hf1
  have e3 := compl_any now hid hf
  rw [hk] at e3
  have e5 := guard_two now hid hf
  have n1 := (Near.refl b i).set { b.kAt i with gu := true }
  refine ⟨_, _, _, e1, e2, e3, ?_, e5, n1, n1.set _, ?_, by rw [onK1_at hi], by rw [onK1_at hi1], fun hm => ?_⟩
  · by_cases hm : b.kps[i].may = true
    · rw [if_pos hm]
      have hf2 : (b.onK1 i { b.kps[i] with co := true }).findK b.kps[i].id = some i := (onK1_find (x := { b.kps[i] with co := true }) hi rfl _).trans hf
      have e4 := compl_any now hid hf2
      rw [onK1_at hi, show ({ b.kps[i] with co := true } : Kp).may = false by simp [Kp.may], if_neg (by decide), if_neg (by decide)] at e4
      exact e4
    · rw [if_neg hm]
      rw [if_neg hm, if_neg hm] at e3
      exact e3
  · split
    · exact (Near.refl b i).set _
    · exact Near.refl b i
  · rw [if_pos hm, onK1_at hi]
theorem at_place (a : Int) {n : Nat} (h : 0 < n) (h2 : n ≤ 1000) : (-(1000 : Int) ≤ a.tmod n ∧ a.tmod n ≤ 1000) ∧ ∃ i : Nat, i < n ∧ (a.tmod n + n).tmod n = (i : Int) := by
  have h3 : a.tmod n < n := Int.tmod_lt_of_pos a (by omega)
  have h4 : -(n : Int) < a.tmod n := Int.lt_tmod_of_pos a (by omega)
  refine ⟨by omega, ((a.tmod n + n).tmod n).toNat, ?_, ?_⟩
  · have := Int.tmod_lt_of_pos (a.tmod n + n) (show (0 : Int) < n by omega); omega
  · have := Int.tmod_nonneg (n : Int) (show 0 ≤ a.tmod n + n by omega); omega
end Go.Proofs.YtcppphgpbaablaaDoor
