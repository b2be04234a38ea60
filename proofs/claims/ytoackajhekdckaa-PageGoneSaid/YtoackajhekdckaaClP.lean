/-
Clouds, plainly.
-/
import Derived.Test.YtoackajhekdckaaSlP
namespace Go.Proofs.Ytoackajhekdckaa
set_option linter.unusedVariables false
open Go.RowKit
structure Bx where
  id : Int
  tok : Int
  ver : Int
  zon : Int
  tag : Bool
  on : Bool
  gone : Bool
  well : Bool
  lb : UInt8
  unt : Int
  fen : Int
def Bx.cs (b : Bx) : List Value := [.int .i64 b.id, .int .i64 b.tok, .int .i64 b.ver, .int .i64 b.zon, .bool b.tag, .bool b.on, .bool b.gone, .bool b.well, .int .u8 b.lb.toNat, .int .i64 b.unt, .int .i64 b.fen]
def Bx.v (b : Bx) : Value := .agg b.cs.toArray
def Bx.zero : Bx := ⟨0, 0, 0, 0, false, false, false, false, 0, 0, 0⟩
theorem Bx.cs_inj {a b : Bx} : a.cs = b.cs ↔ a = b := by
  obtain ⟨a1, a2, a3, a4, a5, a6, a7, a8, a9, a10, a11⟩ := a
  obtain ⟨b1, b2, b3, b4, b5, b6, b7, b8, b9, b10, b11⟩ := b
  have h9 : ((a9.toNat : Nat) : Int) = (b9.toNat : Int) ↔ a9 = b9 := by rw [Int.ofNat_inj]; exact ⟨UInt8.toNat_inj.1, fun h => by rw [h]⟩
  simp [Bx.cs, h9]
theorem Bx.all_inj {a b : Bx} : (a.id = b.id ∧ a.tok = b.tok ∧ a.ver = b.ver ∧ a.zon = b.zon ∧ a.tag = b.tag ∧ a.on = b.on ∧ a.gone = b.gone ∧ a.well = b.well ∧ a.lb = b.lb ∧ a.unt = b.unt ∧ a.fen = b.fen) ↔ a = b := by
  cases a; cases b; simp
instance : DecidableEq Bx := fun a b => decidable_of_iff (a.id = b.id ∧ a.tok = b.tok ∧ a.ver = b.ver ∧ a.zon = b.zon ∧ a.tag = b.tag ∧ a.on = b.on ∧ a.gone = b.gone ∧ a.well = b.well ∧ a.lb = b.lb ∧ a.unt = b.unt ∧ a.fen = b.fen) Bx.all_inj
def bxsV (l : List Bx) : List Value := l.flatMap Bx.cs
theorem bxsV_len (l : List Bx) : (bxsV l).length = l.length * 11 := by
  induction l with
  | nil => rfl
  | cons b l ih => simp only [bxsV, List.flatMap_cons, List.length_append, List.length_cons] at ih ⊢; rw [ih]; simp [Bx.cs]; omega
theorem bxs_at {l : List Bx} {k : Nat} (h : k < l.length) : takeL (bxsV l) (k * 11) 11 = some l[k].cs := by
  induction l generalizing k with
  | nil => simp at h
  | cons b l ih =>
    cases k with
    | zero => simp [bxsV, Bx.cs, takeL]
    | succ k =>
      have h2 := ih (k := k) (by simpa using h)
      rw [show (k + 1) * 11 = k * 11 + 1 + 1 + 1 + 1 + 1 + 1 + 1 + 1 + 1 + 1 + 1 by omega]
      simp only [bxsV, List.flatMap_cons, Bx.cs, List.cons_append, List.nil_append, takeL, List.getElem_cons_succ] at h2 ⊢
      exact h2
theorem bxs_f {l : List Bx} {k : Nat} (h : k < l.length) (f : Nat) {v : Value} (hv : l[k].cs[f]? = some v) : (bxsV l)[k * 11 + f]? = some v := (takeL_spec (bxs_at h)).2 f v hv
theorem bxs_one (l : List Bx) : ∀ u ∈ bxsV l, u.oneCell' = true := by
  intro u hu
  obtain ⟨b, _, hb⟩ := List.mem_flatMap.1 hu
  simp only [Bx.cs, List.mem_cons, List.not_mem_nil, or_false] at hb
  rcases hb with rfl | rfl | rfl | rfl | rfl | rfl | rfl | rfl | rfl | rfl | rfl <;> rfl
theorem bxsV_app (l m : List Bx) : bxsV (l ++ m) = bxsV l ++ bxsV m := List.flatMap_append
/-- A box's field stored in the row. -/
theorem bxs_set {l : List Bx} {k : Nat} (h : k < l.length) (f : Nat) (hf : f < 11) (v : Value) (b : Bx) (hb : l[k].cs.set f v = b.cs) : (bxsV l).set (k * 11 + f) v = bxsV (l.set k b) := by
  induction l generalizing k with
  | nil => simp at h
  | cons c l ih =>
    cases k with
    | zero =>
      simp only [List.getElem_cons_zero] at hb
      simp only [bxsV, List.flatMap_cons, List.set_cons_zero, Nat.zero_mul, Nat.zero_add]
      rw [List.set_append_left _ _ (by simp [Bx.cs]; omega), hb]
    | succ k =>
      have h2 := ih (k := k) (by simpa using h) (by simpa using hb)
      simp only [bxsV, List.flatMap_cons, List.set_cons_succ] at h2 ⊢
      rw [List.set_append_right _ _ (by simp [Bx.cs]; omega)]
      rw [show (k + 1) * 11 + f - c.cs.length = k * 11 + f by simp [Bx.cs]; omega, h2]
theorem bxs_put {l : List Bx} {k : Nat} (h : k < l.length) (b : Bx) : putL (bxsV l) (k * 11) b.cs = some (bxsV (l.set k b)) := by
  induction l generalizing k with
  | nil => simp at h
  | cons c l ih =>
    cases k with
    | zero => simp [bxsV, Bx.cs, putL]
    | succ k =>
      have h2 := ih (k := k) (by simpa using h)
      rw [show (k + 1) * 11 = k * 11 + 1 + 1 + 1 + 1 + 1 + 1 + 1 + 1 + 1 + 1 + 1 by omega]
      simp only [bxsV, List.flatMap_cons, List.set_cons_succ] at h2 ⊢
      rw [show c.cs = [.int .i64 c.id, .int .i64 c.tok, .int .i64 c.ver, .int .i64 c.zon, .bool c.tag, .bool c.on, .bool c.gone, .bool c.well, .int .u8 c.lb.toNat, .int .i64 c.unt, .int .i64 c.fen] from rfl]
      simp only [List.cons_append, List.nil_append, putL, h2]
theorem bxsV_inj {l m : List Bx} : bxsV l = bxsV m ↔ l = m := by
  refine ⟨fun h => ?_, fun h => by rw [h]⟩
  have hl : l.length = m.length := by
    have := congrArg List.length h
    rw [bxsV_len, bxsV_len] at this; omega
  refine List.ext_getElem hl fun k h1 h2 => ?_
  have h3 := bxs_at h1
  rw [h, bxs_at h2] at h3
  exact (Bx.cs_inj.1 (Option.some.inj h3)).symm
structure Cl where
  bs : List Bx
  fl : Int
  dr : Int
  now : Int
  ti : Bool
def Cl.cs (c : Cl) (x : AdC) : List Value := [.slice x.1 c.bs.length x.2, .int .i64 c.fl, .int .i64 c.dr, .int .i64 c.now, .bool c.ti]
def Cl.v (c : Cl) (x : AdC) : Value := .agg (c.cs x).toArray
def Cl.row (c : Cl) (x : AdC) : Res := .row 33 11 (.slice x.1 c.bs.length x.2) c.bs.length (bxsV c.bs)
theorem Cl.cs_one (c : Cl) (x : AdC) : ∀ u ∈ c.cs x, u.oneCell' = true := by
  simp [Cl.cs, Value.oneCell']
def sameC (a b : Cl) : Bool := decide (a.bs = b.bs) && decide (a.fl = b.fl) && decide (a.dr = b.dr) && decide (a.now = b.now) && decide (a.ti = b.ti)
theorem sameC_iff {a b : Cl} : sameC a b = true ↔ a = b := by
  cases a; cases b; simp [sameC, and_assoc]
theorem sameC_no {a b : Cl} (h : a ≠ b) : sameC a b = false := Bool.eq_false_iff.2 fun h1 => h (sameC_iff.1 h1)
def okN (n : Int) : Bool := decide (0 ≤ n ∧ n ≤ 1099511627776)
theorem okN_iff {n : Int} : okN n = true ↔ 0 ≤ n ∧ n ≤ 1099511627776 := by simp [okN]
theorem okN_not {n : Int} : okN n = false ↔ ¬ (0 ≤ n ∧ n ≤ 1099511627776) := by rw [← okN_iff]; simp
/-- May a box be, at that place? -/
def Bx.okAt (b : Bx) (i : Nat) : Prop := b.id = (i : Int) + 1 ∧ okN b.tok = true ∧ okN b.ver = true ∧ okN b.zon = true ∧ b.lb.toNat ≤ 2 ∧ (b.lb.toNat ≠ 0 → b.on = true) ∧ (b.gone = true → b.on = false)
open Classical in
noncomputable def Bx.okB (b : Bx) (i : Nat) : Bool := decide (b.okAt i)
theorem okB_eq {b : Bx} {i : Nat} {v : Bool} (h : v = true ↔ b.okAt i) : b.okB i = v := by
  rw [Bool.eq_iff_iff, h]; simp [Bx.okB]
theorem okB_yes {b : Bx} {i : Nat} : b.okB i = true ↔ b.okAt i := by simp [Bx.okB]
/-- The boxes may be. -/
def okB (l : List Bx) : Prop := ∀ i, (h : i < l.length) → l[i].okAt i ∧ ∀ k, (hk : k < i) → 0 < l[i].tok → l[k].tok ≠ l[i].tok
structure Cl.Ok (c : Cl) : Prop where
  len : c.bs.length ≤ 60
  fl : okN c.fl = true
  dr : okN c.dr = true
  now : okN c.now = true
  bs : okB c.bs
open Classical in
noncomputable def Cl.ok (c : Cl) : Bool := decide c.Ok
theorem Cl.ok_iff {c : Cl} : c.ok = true ↔ c.Ok := by simp [Cl.ok]
theorem Cl.ok_no {c : Cl} (h : ¬ c.Ok) : c.ok = false := by simp [Cl.ok, h]
theorem Cl.ok_not {c : Cl} : c.ok = false ↔ ¬ c.Ok := by simp [Cl.ok]
def Bx.cnt (b : Bx) : Bool := b.on && b.well && decide (b.lb = 1)
def Cl.H (c : Cl) : Nat := c.bs.countP Bx.cnt
/-- A box's place. -/
def fnd (l : List Bx) (id : Int) : Option Nat := l.findIdx? fun b => decide (b.id = id) && !b.gone
def fndI (l : List Bx) (id : Int) : Int := match fnd l id with
  | some i => (i : Int)
  | none => -1
theorem fnd_some {l : List Bx} {id : Int} {i : Nat} (h : fnd l id = some i) : ∃ hi : i < l.length, l[i].id = id ∧ l[i].gone = false := by
  rw [fnd, List.findIdx?_eq_some_iff_getElem] at h
  obtain ⟨hi, h1, _⟩ := h
  exact ⟨hi, by simpa using h1⟩
theorem fnd_none {l : List Bx} {id : Int} (h : fnd l id = none) : ∀ b ∈ l, b.id = id → b.gone = true := by
  rw [fnd, List.findIdx?_eq_none_iff] at h
  intro b hb hid
  have := h b hb
  simpa [hid] using this
theorem fnd_here {l : List Bx} {id : Int} {i : Nat} (hi : i < l.length) (h1 : l[i].id = id) (h2 : l[i].gone = false) (h3 : ∀ j, (hj : j < i) → ¬ (l[j].id = id ∧ l[j].gone = false)) : fnd l id = some i := by
  rw [fnd, List.findIdx?_eq_some_iff_getElem]
  refine ⟨hi, by simp [h1, h2], fun j hj => ?_⟩
  have := h3 j hj
  simpa using this
theorem fnd_not {l : List Bx} {id : Int} (h3 : ∀ j, (hj : j < l.length) → ¬ (l[j].id = id ∧ l[j].gone = false)) : fnd l id = none := by
  rw [fnd, List.findIdx?_eq_none_iff]
  intro b hb
  obtain ⟨j, hj, rfl⟩ := List.mem_iff_getElem.1 hb
  have := h3 j hj
  simpa using this
end Go.Proofs.Ytoackajhekdckaa
