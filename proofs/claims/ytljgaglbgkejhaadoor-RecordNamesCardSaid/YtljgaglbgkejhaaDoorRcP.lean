/-
Records, plainly.
-/
import Derived.Test.YtljgaglbgkejhaaDoorSlP
import Derived.Test.YtljgaglbgkejhaaDoorNumQ
namespace Go.Proofs.YtljgaglbgkejhaaDoor
set_option linter.unusedVariables false
open Go.RowKit
structure Rc where
  k : UInt8
  l : List Int
def Rc.cs (r : Rc) (x : AdC) : List Value := [.int .u8 r.k.toNat, .slice x.1 r.l.length x.2]
def Rc.v (r : Rc) (x : AdC) : Value := .agg (r.cs x).toArray
def Rc.row (r : Rc) (x : AdC) : Res := .row 3 1 (.slice x.1 r.l.length x.2) r.l.length (i64s r.l)
def Rc.zero : Rc := ⟨0, []⟩
/-- How many numbers each kind has: the fewest, the most. -/
def bnd : List (Nat × Nat) := [(0, 0), (0, 0), (14, 18), (3, 3), (3, 3), (1, 1), (3, 3), (1, 1), (5, 5), (2, 2), (1, 1), (2, 2), (0, 0), (0, 0), (1, 1), (0, 0), (0, 0)]
def bndAt (k : Nat) : Nat × Nat := bnd.getD k (0, 0)
def okLen (k n : Nat) : Bool := (decide (1 ≤ k) && decide (k < 17)) && (decide ((bndAt k).1 ≤ n) && decide (n ≤ (bndAt k).2))
def Rc.ok (r : Rc) : Bool := okLen r.k.toNat r.l.length && r.l.all fineN
theorem okLen_iff {k n : Nat} : okLen k n = true ↔ (1 ≤ k ∧ k < 17) ∧ ((bndAt k).1 ≤ n ∧ n ≤ (bndAt k).2) := by simp [okLen]
theorem Rc.ok_iff {r : Rc} : r.ok = true ↔ okLen r.k.toNat r.l.length = true ∧ ∀ n ∈ r.l, fineN n = true := by simp [Rc.ok]
theorem bnd_le : ∀ {k : Nat}, k < 17 → (bndAt k).1 ≤ 14 ∧ (bndAt k).2 ≤ 18
  | 0, _ => by decide | 1, _ => by decide | 2, _ => by decide | 3, _ => by decide | 4, _ => by decide | 5, _ => by decide | 6, _ => by decide | 7, _ => by decide | 8, _ => by decide | 9, _ => by decide | 10, _ => by decide | 11, _ => by decide | 12, _ => by decide
  | 13, _ => by decide | 14, _ => by decide | 15, _ => by decide | 16, _ => by decide
  | k + 17, h => by omega
theorem Rc.ok_len {r : Rc} (h : r.ok = true) : 1 ≤ r.k.toNat ∧ r.k.toNat < 17 ∧ r.l.length ≤ 18 := by
  have h1 := okLen_iff.1 (Rc.ok_iff.1 h).1
  have h2 := bnd_le h1.1.2
  omega
/-- The kinds' names. -/
def nameL : List (List UInt8) := [[], [98, 111, 111, 116], [99, 111, 110, 102], [105, 110, 116, 101, 110, 116], [109, 97, 100, 101], [102, 97, 105, 108], [112, 104, 97, 115, 101], [103, 111, 110, 101], [116, 97, 107, 101], [103, 117, 97, 114, 100],
  [99, 111, 109, 112, 108, 101, 116, 101], [115, 116, 97, 114, 116], [99, 97, 110, 99, 101, 108], [114, 111, 108, 108], [112, 97, 117, 115, 101], [103, 111], [100, 111, 110, 101]]
def nameOf (k : Nat) : List UInt8 := nameL.getD k []
/-- A record's row. -/
def Rc.nums (r : Rc) : List Int := ((r.k.toNat : Nat) : Int) :: r.l
def Rc.bytes (r : Rc) : List UInt8 := if r.ok = true then rowsB r.nums else []
def Rc.putE (r : Rc) : Int := if r.ok = true then 0 else 2
/-- The record of a row, whether it may be or not. -/
def rcRaw (l : List Nat) : Rc := ⟨UInt8.ofNat (l.getD 0 0), (l.drop 1).map Int.ofNat⟩
def rcGood (t : List Nat × List UInt8 × Nat) : Bool := (decide (t.2.2 = 0) && decide (t.2.1.length = 0)) && ((decide (0 < t.1.length) && decide (t.1.getD 0 0 < 17)) && (rcRaw t.1).ok)
def rcOf (b : List UInt8) : Rc := if rcGood (takeRowN b) = true then rcRaw (takeRowN b).1 else Rc.zero
def rcE (b : List UInt8) : Int := if rcGood (takeRowN b) = true then 0 else 11
def sameR (a b : Rc) : Bool := decide (a.k = b.k) && decide (a.l = b.l)
theorem sameR_iff {a b : Rc} : sameR a b = true ↔ a = b := by
  obtain ⟨a1, a2⟩ := a
  obtain ⟨b1, b2⟩ := b
  simp [sameR]
/-- Records in a row. -/
abbrev Rcs := List (AdC × Rc)
def rcsV (zs : Rcs) : List Value := zs.flatMap fun z => z.2.cs z.1
def Fact.rcs (zs : Rcs) : Fact := ⟨fun X W => ∀ z ∈ zs, (Fact.rd z.1.1 (i64s z.2.l)).p X W, fun X X' W W' h hf hx z hz => (Fact.rd z.1.1 (i64s z.2.l)).fr X X' W W' (h z hz) hf hx⟩
theorem rcsV_len (zs : Rcs) : (rcsV zs).length = zs.length * 2 := by
  induction zs with
  | nil => rfl
  | cons z zs ih => simp only [rcsV, List.flatMap_cons, List.length_append, List.length_cons] at ih ⊢; rw [ih]; simp [Rc.cs]; omega
theorem rcs_at {zs : Rcs} {k : Nat} (h : k < zs.length) : takeL (rcsV zs) (k * 2) 2 = some (zs[k].2.cs zs[k].1) := by
  induction zs generalizing k with
  | nil => simp at h
  | cons z zs ih =>
    cases k with
    | zero => simp [rcsV, Rc.cs, takeL]
    | succ k =>
      have h2 := ih (k := k) (by simpa using h)
      rw [show (k + 1) * 2 = k * 2 + 1 + 1 by omega]
      simp only [rcsV, List.flatMap_cons, Rc.cs, List.cons_append, List.nil_append, takeL, List.getElem_cons_succ] at h2 ⊢
      exact h2
theorem u8_eq {a b : UInt8} : ((a.toNat : Nat) : Int) = (b.toNat : Int) ↔ a = b := by
  rw [Int.ofNat_inj]; exact ⟨UInt8.toNat_inj.1, fun h => by rw [h]⟩
theorem u8_lt (a : UInt8) : a.toNat < 256 := a.toNat_lt
theorem rc_rowOk {r : Rc} (h : r.ok = true) : rowOk r.nums = true := by
  have h1 := Rc.ok_len h
  have h2 := (Rc.ok_iff.1 h).2
  simp only [rowOk, Bool.and_eq_true, decide_eq_true_eq, Bool.not_eq_true']
  refine ⟨by simp [Rc.nums]; omega, ?_⟩
  rw [List.any_eq_false]
  intro n hn
  rcases List.mem_cons.1 hn with rfl | hn
  · simp [fineN]; omega
  · simp [h2 n hn]
end Go.Proofs.YtljgaglbgkejhaaDoor
