/-
Texts of other layers, in one: RcP, RcQ, LRa, LRb, LRr, LRs.
-/
import Derived.Test.YtcohgnagffibcaaDoorMs
import Derived.Test.YtcohgnagffibcaaDoorMn
namespace Go.Proofs.YtcohgnagffibcaaDoor
set_option linter.unusedVariables false
open Go.RowKit
structure Rc where
  k : UInt8
  l : List Int
def Rc.cs (r : Rc) (x : AdC) : List Value := [.int .u8 r.k.toNat, .slice x.1 r.l.length x.2]
def Rc.v (r : Rc) (x : AdC) : Value := .agg (r.cs x).toArray
def Rc.row (r : Rc) (x : AdC) : Res := .row 3 1 (.slice x.1 r.l.length x.2) r.l.length (i64s r.l)
def Rc.zero : Rc := ⟨0, []⟩
/-- How many numbers each kind has: the fewest, the most. -/
def bnd : List (Nat × Nat) := [(0, 0), (0, 0), (14, 18), (3, 3), (3, 3), (1, 1), (3, 3), (1, 1), (5, 5), (2, 2), (1, 1), (2, 2), (0, 0), (0, 0), (1, 1), (0, 0), (0, 0)]
def bndAt (k : Nat) : Nat × Nat := bnd.getD k (0, 0)
def okLen (k n : Nat) : Bool := (decide (1 ≤ k) && decide (k < 17)) && (decide ((bndAt k).1 ≤ n) && decide (n ≤ (bndAt k).2))
def Rc.ok (r : Rc) : Bool := okLen r.k.toNat r.l.length && r.l.all fineN
theorem okLen_iff {k n : Nat} : okLen k n = true ↔ (1 ≤ k ∧ k < 17) ∧ ((bndAt k).1 ≤ n ∧ n ≤ (bndAt k).2) := by simp [okLen]
theorem Rc.ok_iff {r : Rc} : r.ok = true ↔ okLen r.k.toNat r.l.length = true ∧ ∀ n ∈ r.l, fineN n = true := by simp [Rc.ok]
theorem bnd_le : ∀ {k : Nat}, k < 17 → (bndAt k).1 ≤ 14 ∧ (bndAt k).2 ≤ 18
  | 0, _ => by decide | 1, _ => by decide | 2, _ => by decide | 3, _ => by decide | 4, _ => by decide | 5, _ => by decide | 6, _ => by decide | 7, _ => by decide | 8, _ => by decide | 9, _ => by decide | 10, _ => by decide | 11, _ => by decide | 12, _ => by decide
  | 13, _ => by decide | 14, _ => by decide | 15, _ => by decide | 16, _ => by decide
  | k + 17, h => by omega
theorem Rc.ok_len {r : Rc} (h : r.ok = true) : 1 ≤ r.k.toNat ∧ r.k.toNat < 17 ∧ r.l.length ≤ 18 := by
  have h1 := okLen_iff.1 (Rc.ok_iff.1 h).1
  have h2 := bnd_le h1.1.2
  omega
/-- The kinds' names. -/
def nameL : List (List UInt8) := [[], [98, 111, 111, 116], [99, 111, 110, 102], [105, 110, 116, 101, 110, 116], [109, 97, 100, 101], [102, 97, 105, 108], [112, 104, 97, 115, 101], [103, 111, 110, 101], [116, 97, 107, 101], [103, 117, 97, 114, 100],
  [99, 111, 109, 112, 108, 101, 116, 101], [115, 116, 97, 114, 116], [99, 97, 110, 99, 101, 108], [114, 111, 108, 108], [112, 97, 117, 115, 101], [103, 111], [100, 111, 110, 101]]
def nameOf (k : Nat) : List UInt8 := nameL.getD k []
/-- A record's row. -/
def Rc.nums (r : Rc) : List Int := ((r.k.toNat : Nat) : Int) :: r.l
def Rc.bytes (r : Rc) : List UInt8 := if r.ok = true then rowsB r.nums else []
def Rc.putE (r : Rc) : Int := if r.ok = true then 0 else 2
/-- The record of a row, whether it may be or not. -/
def rcRaw (l : List Nat) : Rc := ⟨UInt8.ofNat (l.getD 0 0), (l.drop 1).map Int.ofNat⟩
def rcGood (t : List Nat × List UInt8 × Nat) : Bool := (decide (t.2.2 = 0) && decide (t.2.1.length = 0)) && ((decide (0 < t.1.length) && decide (t.1.getD 0 0 < 17)) && (rcRaw t.1).ok)
def rcOf (b : List UInt8) : Rc := if rcGood (takeRowN b) = true then rcRaw (takeRowN b).1 else Rc.zero
def rcE (b : List UInt8) : Int := if rcGood (takeRowN b) = true then 0 else 11
def sameR (a b : Rc) : Bool := decide (a.k = b.k) && decide (a.l = b.l)
theorem sameR_iff {a b : Rc} : sameR a b = true ↔ a = b := by
  obtain ⟨a1, a2⟩ := a
  obtain ⟨b1, b2⟩ := b
  simp [sameR]
/-- Records in a row. -/
abbrev Rcs := List (AdC × Rc)
def rcsV (zs : Rcs) : List Value := zs.flatMap fun z => z.2.cs z.1
def Fact.rcs (zs : Rcs) : Fact := ⟨fun X W => ∀ z ∈ zs, (Fact.rd z.1.1 (i64s z.2.l)).p X W, fun X X' W W' h hf hx z hz => (Fact.rd z.1.1 (i64s z.2.l)).fr X X' W W' (h z hz) hf hx⟩
theorem rcsV_len (zs : Rcs) : (rcsV zs).length = zs.length * 2 := by
  induction zs with
  | nil => rfl
  | cons z zs ih => simp only [rcsV, List.flatMap_cons, List.length_append, List.length_cons] at ih ⊢; rw [ih]; simp [Rc.cs]; omega
theorem rcs_at {zs : Rcs} {k : Nat} (h : k < zs.length) : takeL (rcsV zs) (k * 2) 2 = some (zs[k].2.cs zs[k].1) := by
  induction zs generalizing k with
  | nil => simp at h
  | cons z zs ih =>
    cases k with
    | zero => simp [rcsV, Rc.cs, takeL]
    | succ k =>
      have h2 := ih (k := k) (by simpa using h)
      rw [show (k + 1) * 2 = k * 2 + 1 + 1 by omega]
      simp only [rcsV, List.flatMap_cons, Rc.cs, List.cons_append, List.nil_append, takeL, List.getElem_cons_succ] at h2 ⊢
      exact h2
theorem u8_eq {a b : UInt8} : ((a.toNat : Nat) : Int) = (b.toNat : Int) ↔ a = b := by
  rw [Int.ofNat_inj]; exact ⟨UInt8.toNat_inj.1, fun h => by rw [h]⟩
theorem u8_lt (a : UInt8) : a.toNat < 256 := a.toNat_lt
theorem rc_rowOk {r : Rc} (h : r.ok = true) : rowOk r.nums = true := by
  have h1 := Rc.ok_len h
  have h2 := (Rc.ok_iff.1 h).2
  simp only [rowOk, Bool.and_eq_true, decide_eq_true_eq, Bool.not_eq_true']
  refine ⟨by simp [Rc.nums]; omega, ?_⟩
  rw [List.any_eq_false]
  intro n hn
  rcases List.mem_cons.1 hn with rfl | hn
  · simp [fineN]; omega
  · simp [h2 n hn]
end Go.Proofs.YtcohgnagffibcaaDoor
namespace Go.Proofs.YtcohgnagffibcaaDoor
set_option linter.unusedVariables false
open Go.RowKit
theorem rc_fine {r : Rc} (h : r.ok = true) : ∀ n ∈ r.nums, fineN n = true := (rowOk_fine (rc_rowOk h)).2
theorem rc_raw {r : Rc} (h : r.ok = true) : rcRaw (r.nums.map Int.toNat) = r := by
  have h1 := rc_fine h
  obtain ⟨k, l⟩ := r
  simp only [Rc.nums, List.map_cons, rcRaw, List.getD_cons_zero, List.drop_one, List.tail_cons, List.map_map]
  congr 1
  · simp
  · conv => rhs; rw [← List.map_id l]
    refine List.map_congr_left fun n hn => ?_
    have := h1 n (List.mem_cons_of_mem _ hn)
    simp only [fineN, decide_eq_true_eq] at this
    simp; omega
theorem rc_take {r : Rc} (h : r.ok = true) (b : List UInt8) : takeRowN (r.bytes ++ b) = (r.nums.map Int.toNat, b, 0) := by
  rw [Rc.bytes, if_pos h]
  exact takeRow_put (rc_rowOk h) b
theorem rc_take0 {r : Rc} (h : r.ok = true) : takeRowN r.bytes = (r.nums.map Int.toNat, [], 0) := by
  have := rc_take h []
  rwa [List.append_nil] at this
theorem rc_head {r : Rc} (h : r.ok = true) : (r.nums.map Int.toNat).getD 0 0 < 17 := by
  have := Rc.ok_len h
  simp [Rc.nums]; omega
theorem rcOf_bytes {r : Rc} (h : r.ok = true) : rcOf r.bytes = r ∧ rcE r.bytes = 0 := by
  have hg : rcGood (takeRowN r.bytes) = true := by
    rw [rc_take0 h]
    simp only [rcGood, rc_raw h, h]
    have := rc_head h
    simp only [List.length_map, Bool.and_true, Bool.and_eq_true, decide_eq_true_eq, List.length_nil, and_self, true_and]
    exact ⟨by simp [Rc.nums], this⟩
  refine ⟨?_, if_pos hg⟩
  rw [rcOf, if_pos hg, rc_take0 h]
  exact rc_raw h
theorem rcE_more {r : Rc} (h : r.ok = true) (y : UInt8) : rcE (r.bytes ++ [y]) = 11 := by
  refine if_neg ?_
  rw [rc_take h]
  simp [rcGood]
theorem rcE_cut {r : Rc} (h : r.ok = true) : rcE r.bytes.dropLast = 11 := by
  refine if_neg ?_
  have := takeRow_cut (rc_rowOk h)
  rw [Rc.bytes, if_pos h]
  simp [rcGood, this]
theorem putB_pos (n : Int) : 0 < (putB n).length := List.length_pos_iff.2 (putB_ne n)
theorem bytes_two {r : Rc} (h : r.ok = true) : 2 ≤ r.bytes.length := by
  rw [Rc.bytes, if_pos h, rowsB, Rc.nums, List.flatMap_cons, List.length_append, List.length_append]
  have h1 := putB_pos (((r.k.toNat : Int) :: r.l).length)
  have h2 := putB_pos (r.k.toNat : Int)
  omega
theorem bytes_le {r : Rc} : r.bytes.length ≤ 1000 := by
  by_cases h : r.ok = true
  · have hl := Rc.ok_len h
    rw [Rc.bytes, if_pos h, rowsB, List.length_append]
    have h1 := putB_len (r.nums.length)
    have h2 := flat_len r.nums
    have h3 : r.nums.length = r.l.length + 1 := rfl
    omega
  · rw [Rc.bytes, if_neg h]; simp
theorem rc_good {b : List UInt8} (h : rcE b = 0) : rcGood (takeRowN b) = true := by
  unfold rcE at h
  split at h
  · assumption
  · simp at h
theorem rcE_or (b : List UInt8) : rcE b = 0 ∨ (rcE b = 11 ∧ rcOf b = Rc.zero) := by
  unfold rcE rcOf
  split
  · exact .inl rfl
  · exact .inr ⟨rfl, rfl⟩
theorem rc_only {b : List UInt8} (h : rcE b = 0) : (rcOf b).ok = true ∧ (rcOf b).bytes = b := by
  have hg := rc_good h
  have hof : rcOf b = rcRaw (takeRowN b).1 := if_pos hg
  simp only [rcGood, Bool.and_eq_true, decide_eq_true_eq] at hg
  obtain ⟨⟨h0, h1⟩, ⟨h2, h3⟩, h4⟩ := hg
  rw [hof]
  refine ⟨h4, ?_⟩
  have h5 := takeRow_only (b := b) (l := (takeRowN b).1) (r := (takeRowN b).2.1) (by rw [← h0])
  rw [List.eq_nil_of_length_eq_zero h1, List.append_nil] at h5
  have hn : (rcRaw (takeRowN b).1).nums = (takeRowN b).1.map Int.ofNat := by
    cases hl : (takeRowN b).1 with
    | nil => rw [hl] at h2; simp at h2
    | cons x l =>
      rw [hl] at h3
      simp only [List.getD_cons_zero] at h3
      have := u8_of (x := x) (by omega)
      simp only [Rc.nums, rcRaw, List.getD_cons_zero, this, List.drop_one, List.tail_cons, List.map_cons]
      rfl
  rw [Rc.bytes, if_pos h4, hn]
  exact h5.2
theorem take_app {α : Type} {x y : List α} (h : x.take (min x.length y.length) = y.take (min x.length y.length)) : (∃ z, y = x ++ z) ∨ ∃ z, x = y ++ z := by
  rcases Nat.le_total x.length y.length with hl | hl
  · rw [Nat.min_eq_left hl, List.take_length] at h
    exact .inl ⟨y.drop x.length, by conv => lhs; rw [← List.take_append_drop x.length y, ← h]⟩
  · rw [Nat.min_eq_right hl, List.take_length] at h
    exact .inr ⟨x.drop y.length, by conv => lhs; rw [← List.take_append_drop y.length x, h]⟩
theorem rc_pre {r s : Rc} (hr : r.ok = true) (hs : s.ok = true) {z : List UInt8} (h : s.bytes = r.bytes ++ z) : r = s := by
  have h1 := rc_take0 hs
  rw [h, rc_take hr] at h1
  rw [← rc_raw hr, ← rc_raw hs, (Prod.mk.inj h1).1]
theorem rc_apart {r s : Rc} (hr : r.ok = true) (hs : s.ok = true) : r.bytes.take (min r.bytes.length s.bytes.length) = s.bytes.take (min r.bytes.length s.bytes.length) ↔ r = s := by
  refine ⟨fun h => ?_, fun h => by rw [h]⟩
  rcases take_app h with ⟨z, hz⟩ | ⟨z, hz⟩
  · exact rc_pre hr hs hz
  · exact (rc_pre hs hr hz).symm
theorem bnd_same : ∀ {k : Nat}, k ≠ 2 → (bndAt k).1 = (bndAt k).2
  | 0, _ => rfl | 1, _ => rfl | 2, h => (h rfl).elim | 3, _ => rfl | 4, _ => rfl | 5, _ => rfl | 6, _ => rfl | 7, _ => rfl | 8, _ => rfl | 9, _ => rfl | 10, _ => rfl | 11, _ => rfl | 12, _ => rfl | 13, _ => rfl | 14, _ => rfl | 15, _ => rfl | 16, _ => rfl
  | k + 17, _ => rfl
theorem rc_no_len {k : UInt8} {l : List Int} (h : okLen k.toNat l.length = false) : (⟨k, l⟩ : Rc).ok = false := by rw [Rc.ok, h]; rfl
theorem rc_len_no {r : Rc} (h : r.ok = true) (h2 : r.k.toNat ≠ 2) {l : List Int} (hl : l.length ≠ r.l.length) : (⟨r.k, l⟩ : Rc).ok = false := by
  refine rc_no_len ?_
  rw [Bool.eq_false_iff, ne_eq, okLen_iff]
  have h1 := okLen_iff.1 (Rc.ok_iff.1 h).1
  have := bnd_same h2
  omega
theorem rc_k0_no (l : List Int) : (⟨0, l⟩ : Rc).ok = false := rc_no_len (by rw [Bool.eq_false_iff, ne_eq, okLen_iff]; simp)
theorem rc_k17_no (l : List Int) : (⟨17, l⟩ : Rc).ok = false := rc_no_len (by rw [Bool.eq_false_iff, ne_eq, okLen_iff]; simp)
theorem rc_set_no {k : UInt8} {l : List Int} {i : Nat} {n : Int} (hi : i < l.length) (hn : fineN n = false) : (⟨k, l.set i n⟩ : Rc).ok = false := by
  rw [Bool.eq_false_iff]
  intro h
  have := (Rc.ok_iff.1 h).2 n (List.mem_set hi n)
  rw [hn] at this; cases this
theorem name_pos : ∀ {k : Nat}, 1 ≤ k → k < 17 → nameOf k ≠ []
  | 0, h, _ => by omega | 1, _, _ => by decide | 2, _, _ => by decide | 3, _, _ => by decide | 4, _, _ => by decide | 5, _, _ => by decide | 6, _, _ => by decide | 7, _, _ => by decide | 8, _, _ => by decide | 9, _, _ => by decide | 10, _, _ => by decide
  | 11, _, _ => by decide | 12, _, _ => by decide | 13, _, _ => by decide | 14, _, _ => by decide | 15, _, _ => by decide | 16, _, _ => by decide
  | k + 17, _, h => by omega
theorem name_none {k : Nat} (h : ¬ (1 ≤ k ∧ k < 17)) : nameOf k = [] := by
  by_cases h0 : k = 0
  · subst h0; rfl
  · rw [nameOf, List.getD_eq_getElem?_getD, List.getElem?_eq_none (by simp [nameL]; omega)]; rfl
theorem name_inj16 : ∀ a, a < 17 → ∀ b, b < 17 → 1 ≤ a → nameOf a = nameOf b → a = b := by decide
theorem name_inj {a b : Nat} (h : 1 ≤ a ∧ a < 17) : nameOf a = nameOf b ↔ a = b := by
  refine ⟨fun hn => ?_, fun h => by rw [h]⟩
  by_cases hb : b < 17
  · exact name_inj16 a h.2 b hb h.1 hn
  · rw [name_none (k := b) (by omega)] at hn
    exact absurd hn (name_pos h.1 h.2)
end Go.Proofs.YtcohgnagffibcaaDoor
namespace Go.Proofs.YtcohgnagffibcaaDoor
set_option linter.unusedVariables false
open Go.RowKit
attribute [local irreducible] Res.blk Res.row Fact.rd
/-- The table of how many numbers kinds have. -/
def manyV (m : Nat → AdC) : List Value := (List.range 17).map fun i => if i = 0 then .slice none 0 0 else .slice (m i).1 2 (m i).2
theorem many_at (m : Nat → AdC) {k : Nat} (h : k < 17) : (manyV m)[k * 1]? = some (if k = 0 then .slice none 0 0 else .slice (m k).1 2 (m k).2) := by
  rw [Nat.mul_one, manyV, List.getElem?_map, List.getElem?_range h]; rfl
def bndV (k : Nat) : List Value := [.int .i64 (((bndAt k).1 : Nat) : Int), .int .i64 (((bndAt k).2 : Nat) : Int)]
def Fact.many (m : Nat → AdC) : Fact := ⟨fun X W => (Fact.rd (some ⟨0, 0, none⟩) (manyV m)).p X W ∧ ∀ i, 1 ≤ i → i < 17 → (Fact.rd (m i).1 (bndV i)).p X W, fun X X' W W' h hf hx =>
  ⟨(Fact.rd (some ⟨0, 0, none⟩) (manyV m)).fr X X' W W' h.1 hf hx, fun i h1 h2 => (Fact.rd (m i).1 (bndV i)).fr X X' W W' (h.2 i h1 h2) hf hx⟩⟩
theorem numbers_ct (r : Rc) (x : AdC) : Ct Tryd.prog 68 [r.v x] [] [] (fun b : Nat => .func (.func 76) #[] #[.pointer (some ⟨b, 0, none⟩)]) (fun b => [.blk b 43 (r.cs x)]) (fun _ => []) := by
  refine Ct.of _ Tryd.func68 Tryd.ntmps68 rfl rfl (fun X W => ?_)
  refine Jc.seq ?_
  refine Jc.region ?_
  refine Jl.box rfl (by rfl) ?_
  intro b1
  refine Jl.pv (PR.assign rfl) ?_
  refine Jl.nil ?_
  refine Jq.thenN ?_
  refine Jc.seq ?_
  refine Jc.region ?_
  refine Jl.pv (PR.makeFunc rfl rfl) ?_
  refine Jl.pv (PR.assign rfl) ?_
  refine Jl.nil ?_
  refine Jq.thenN ?_
  refine Jc.ret ?_
  exact Jq.fin b1 (.inl rfl) rfl (RetVs.tmp rfl RetVs.nil) rfl (by repeat (first | exact Take.nil | apply Take.cons (by repeat (first | exact Del.here | apply Del.there)))) (by repeat (first | exact trivial | refine And.intro (by repeat (first | exact Mem.here | apply Mem.there)) ?_))
def nvals (l : List Int) (k : Nat) : List Value := [.bool (fineN (l.getD k 0))]
theorem fineN_if {n : Int} {a b : Bool} (h1 : a = decide (0 ≤ n)) (h2 : b = decide (n ≤ 1099511627776)) : fineN n = (a && b) := by subst h1 h2; simp [fineN]
theorem numbers1_it (r : Rc) (x : AdC) (b : Nat) (hn : r.l.length ≤ 1000000) : It Tryd.prog 76 [.pointer (some ⟨b, 0, none⟩)] [.blk b 43 (r.cs x)] [.rd x.1 (i64s r.l)] r.l.length (nvals r.l) := by
  refine It.of _ Tryd.func76 Tryd.ntmps76 rfl rfl (by rfl) (by simp only [List.mem_singleton]; rintro φ rfl; exact Fact.rd_old _ _) (fun W l cl clx hy => ?_)
  refine Jc.seq ?_
  refine Jc.region ?_
  refine Jl.pv (PR.fieldAddr rfl tfl43_1) ?_
  refine Jl.pv (PR.load1 rfl tsh41 (by repeat (first | exact Has.here | apply Has.there)) (by rfl)) ?_
  refine Jl.pv (PR.len rfl tsl41) ?_
  refine Jl.pv (PR.move rfl) ?_
  refine Jl.nil ?_
  refine Jq.thenN ?_
  refine Jc.block ?_
  refine Jc.loop (σ := { k : Nat // k ≤ r.l.length }) (fun s => [(8, .int .i64 (s.1 : Int)), (7, .int .i64 (r.l.length : Int)), (6, .slice x.1 r.l.length x.2), (0, .func (.yield l) #[] #[])]) (fun _ => [.blk b 43 (r.cs x)]) (fun s => [cl s.1, .rd x.1 (i64s r.l)]) (fun s => r.l.length - s.1) ⟨0, Nat.zero_le _⟩ (by repeat (first | exact trivial | refine And.intro rfl ?_)) rfl (by repeat (first | exact trivial | refine And.intro (by repeat (first | exact Mem.here | apply Mem.there)) ?_)) ?_
  rintro ⟨k, hk⟩
  show Jc _ _ _ _ _ _ [(8, Value.int .i64 (k : Int)), (7, .int .i64 (r.l.length : Int)), (6, .slice x.1 r.l.length x.2), (0, .func (.yield l) #[] #[])] [.blk b 43 (r.cs x)] [cl k, .rd x.1 (i64s r.l)]
  refine Jc.seq ?_
  refine Jc.region ?_
  refine Jl.pv (PR.lss _ rfl rfl rfl) ?_
  refine Jl.nil ?_
  refine Jq.thenN ?_
  refine Jc.seq ?_
  refine Jc.cond rfl (fun hlt => ?_) (fun hlt => ?_)
  · try replace hlt := of_decide_eq_true hlt
    have hlt' : k < r.l.length := by omega
    refine Jc.skip ?_
    refine Jq.thenN ?_
    refine Jc.seq ?_
    refine Jc.block ?_
    refine Jc.seq ?_
    refine Jc.region ?_
    refine Jl.pv (PR.idx1 k rfl rfl tsl41 (by repeat (first | exact Mem.here | apply Mem.there)) (by simp) rfl hlt') ?_
    refine Jl.pv (PR.loadR rfl tsh3 (by repeat (first | exact Mem.here | apply Mem.there)) (getd hlt')) ?_
    refine Jl.pv (PR.assign rfl) ?_
    refine Jl.nil ?_
    refine Jq.thenN ?_
    refine Jc.seq ?_
    refine Jc.region ?_
    refine Jl.pv (PR.move rfl) ?_
    refine Jl.pv (PR.move rfl) ?_
    refine Jl.pv (PR.geq _ rfl rfl rfl) ?_
    refine Jl.pv (PR.move rfl) ?_
    refine Jl.bsplit (fun g15 => ?_) (fun g15 => ?_)
    · try replace g15 := of_decide_eq_true g15
      have hv : nvals r.l k = [.bool (decide (r.l.getD k 0 ≤ 1099511627776))] := by rw [nvals, fineN_if rfl rfl, decide_eq_true g15, Bool.true_and]
      refine Jl.on rfl rfl ?_
      refine Jl.pv (PR.move rfl) ?_
      refine Jl.on rfl rfl ?_
      refine Jl.pv (PR.leq _ rfl rfl rfl) ?_
      refine Jl.pv (PR.pickT rfl rfl) ?_
      refine hy _ _ _ _ _ _ _ _ _ _ _ _ _ _ k hlt' rfl (by rw [hv]; rfl) (by repeat (first | exact Mem.here | apply Mem.there)) rfl ?_ ?_
      · refine Jl.pv (PR.not rfl) ?_
        refine Jl.nil ?_
        refine Jq.thenN ?_
        refine Jc.condF rfl ?_
        refine Jc.skip ?_
        refine Jq.blkN ?_
        refine Jq.thenN ?_
        refine Jc.region ?_
        refine Jl.pv (PR.add ((k + 1 : Nat) : Int) rfl rfl (by rw [w64 (by omega) (by omega)]; rfl)) ?_
        refine Jl.pv (PR.move rfl) ?_
        refine Jl.nil ?_
        refine Jq.again ⟨k + 1, hlt'⟩ (by simp only; omega) (by repeat (first | exact trivial | refine And.intro rfl ?_)) rfl (by repeat (first | exact trivial | refine And.intro (by repeat (first | exact Mem.here | apply Mem.there)) ?_))
      · refine Jl.pv (PR.not rfl) ?_
        refine Jl.nil ?_
        refine Jq.thenN ?_
        refine Jc.condT rfl ?_
        refine Jc.ret ?_
        refine Jq.blkR ?_
        refine Jq.thenR ?_
        refine Jq.thenR ?_
        refine Jq.blkR ?_
        exact Jq.itStop (.inl rfl) hlt' (by repeat (first | exact Mem.here | apply Mem.there))
    · try replace g15 := of_decide_eq_false g15
      have hv : nvals r.l k = [.bool false] := by rw [nvals, fineN_if rfl rfl, decide_eq_false g15, Bool.false_and]
      refine Jl.offS rfl rfl rfl ?_
      refine Jl.offS rfl rfl rfl ?_
      refine Jl.pv (PR.pickF rfl rfl) ?_
      refine hy _ _ _ _ _ _ _ _ _ _ _ _ _ _ k hlt' rfl (by rw [hv]; rfl) (by repeat (first | exact Mem.here | apply Mem.there)) rfl ?_ ?_
      · refine Jl.pv (PR.not rfl) ?_
        refine Jl.nil ?_
        refine Jq.thenN ?_
        refine Jc.condF rfl ?_
        refine Jc.skip ?_
        refine Jq.blkN ?_
        refine Jq.thenN ?_
        refine Jc.region ?_
        refine Jl.pv (PR.add ((k + 1 : Nat) : Int) rfl rfl (by rw [w64 (by omega) (by omega)]; rfl)) ?_
        refine Jl.pv (PR.move rfl) ?_
        refine Jl.nil ?_
        refine Jq.again ⟨k + 1, hlt'⟩ (by simp only; omega) (by repeat (first | exact trivial | refine And.intro rfl ?_)) rfl (by repeat (first | exact trivial | refine And.intro (by repeat (first | exact Mem.here | apply Mem.there)) ?_))
      · refine Jl.pv (PR.not rfl) ?_
        refine Jl.nil ?_
        refine Jq.thenN ?_
        refine Jc.condT rfl ?_
        refine Jc.ret ?_
        refine Jq.blkR ?_
        refine Jq.thenR ?_
        refine Jq.thenR ?_
        refine Jq.blkR ?_
        exact Jq.itStop (.inl rfl) hlt' (by repeat (first | exact Mem.here | apply Mem.there))
  · try replace hlt := of_decide_eq_false hlt
    refine Jc.exit ?_
    refine Jq.thenX ?_
    refine Jq.thenX ?_
    refine Jq.blkX ?_
    rw [show k = r.l.length by omega]; exact Jq.itDone (.inr rfl) (by repeat (first | exact Mem.here | apply Mem.there))
theorem right_ct (r : Rc) (x : AdC) (m : Nat → AdC) (hn : r.l.length ≤ 1000000) : Ct Tryd.prog 56 [r.v x] [] [.rd x.1 (i64s r.l), .many m] (fun _ : Unit => .bool r.ok) (fun _ => []) (fun _ => []) := by
  obtain ⟨A, cA⟩ := x
  have hno : okLen r.k.toNat r.l.length = false → r.ok = false := fun h => by rw [Rc.ok, h]; rfl
  obtain ⟨k, hk⟩ : ∃ k, k = r.k.toNat := ⟨_, rfl⟩
  rw [← hk] at hno
  by_cases h17 : 17 ≤ k
  · rw [hno (by rw [Bool.eq_false_iff, ne_eq, okLen_iff]; omega)]
    refine Ct.of _ Tryd.func56 Tryd.ntmps56 rfl rfl (fun X W => ?_)
    refine Jc.seq ?_
    refine Jc.region ?_
    refine Jl.box rfl (by rfl) ?_
    intro b1
    refine Jl.alloc tze4 ?_
    intro b2
    refine Jl.nil ?_
    refine Jq.thenN ?_
    refine Jc.seq ?_
    refine Jc.seq ?_
    refine Jc.drawn [0, 1, 3, 7, 15, 31, 63, 127, 255, 511, 1023, 2047, 4095, 8191, 2047, 18431, 51199, 116735, 247807, 509951, 1048575, 2097151, 4194303, 8388607, 16777215, 33554431, 8388607, 75497471, 209715199, 478150655, 1015021567, 2088763391, 4294967295, 8589934591] ([(0, false), (1, false), (2, false), (3, false), (4, false), (5, false), (6, false), (7, false), (8, false), (9, false), (10, false), (11, false), (12, false), (13, false), (14, false), (15, false), (16, false), (17, false), (18, false), (19, false), (20, false), (21, false), (22, false), (23, false), (24, false), (25, false), (26, false), (27, false), (28, false), (29, false), (30, false), (31, false), (32, false), (33, false)], []) [] tmx (by kernel_rfl) ?_
    refine Dh.JH.nil ?_
    refine Dh.JB.pv rfl trivial (fun _ => PR.fieldAddr rfl tfl43_0) ?_
    refine Dh.JB.rd [.blk _ _ _] rfl trivial (by repeat (first | exact Take.nil | apply Take.cons (by repeat (first | exact Del.here | apply Del.there)))) (fun _ => PR.load1 rfl tsh5 Has.here (by rfl)) ?_
    refine Dh.JB.pv rfl trivial (fun _ => PR.geq true rfl rfl (by simp; omega)) ?_
    refine Dh.JB.pv rfl trivial (fun _ => PR.move rfl) ?_
    refine Dh.JB.off rfl ⟨_, rfl, .inr rfl⟩ ?_
    refine Dh.JB.off rfl ⟨_, rfl, .inr rfl⟩ ?_
    refine Dh.JB.off rfl ⟨_, rfl, .inr rfl⟩ ?_
    refine Dh.JB.off rfl ⟨_, rfl, .inr rfl⟩ ?_
    refine Dh.JB.off rfl ⟨_, rfl, .inr rfl⟩ ?_
    refine Dh.JB.pv rfl trivial (fun _ => PR.pickT rfl rfl) ?_
    refine Dh.JB.pv rfl trivial (fun _ => PR.move rfl) ?_
    refine Dh.JB.off rfl ⟨_, rfl, .inr rfl⟩ ?_
    refine Dh.JB.off rfl ⟨_, rfl, .inr rfl⟩ ?_
    refine Dh.JB.off rfl ⟨_, rfl, .inr rfl⟩ ?_
    refine Dh.JB.off rfl ⟨_, rfl, .inr rfl⟩ ?_
    refine Dh.JB.off rfl ⟨_, rfl, .inr rfl⟩ ?_
    refine Dh.JB.off rfl ⟨_, rfl, .inr rfl⟩ ?_
    refine Dh.JB.off rfl ⟨_, rfl, .inr rfl⟩ ?_
    refine Dh.JB.off rfl ⟨_, rfl, .inr rfl⟩ ?_
    refine Dh.JB.off rfl ⟨_, rfl, .inr rfl⟩ ?_
    refine Dh.JB.off rfl ⟨_, rfl, .inr rfl⟩ ?_
    refine Dh.JB.pv rfl trivial (fun _ => PR.pickT rfl rfl) ?_
    refine Dh.JB.pv rfl trivial (fun _ => PR.move rfl) ?_
    refine Dh.JB.off rfl ⟨_, rfl, .inr rfl⟩ ?_
    refine Dh.JB.off rfl ⟨_, rfl, .inr rfl⟩ ?_
    refine Dh.JB.off rfl ⟨_, rfl, .inr rfl⟩ ?_
    refine Dh.JB.off rfl ⟨_, rfl, .inr rfl⟩ ?_
    refine Dh.JB.off rfl ⟨_, rfl, .inr rfl⟩ ?_
    refine Dh.JB.off rfl ⟨_, rfl, .inr rfl⟩ ?_
    refine Dh.JB.off rfl ⟨_, rfl, .inr rfl⟩ ?_
    refine Dh.JB.off rfl ⟨_, rfl, .inr rfl⟩ ?_
    refine Dh.JB.off rfl ⟨_, rfl, .inr rfl⟩ ?_
    refine Dh.JB.off rfl ⟨_, rfl, .inr rfl⟩ ?_
    refine Dh.JB.pv rfl trivial (fun _ => PR.pickT rfl rfl) ?_
    refine Dh.JB.nil ?_
    refine Dh.JL.nil ?_
    refine Jq.thenN ?_
    refine Jc.condT rfl ?_
    refine Jc.seq ?_
    refine Jc.region ?_
    refine Jl.store1 rfl tsh4 rfl (by rfl) (by repeat (first | exact Swap.here | apply Swap.there)) (by rfl) ?_
    refine Jl.nil ?_
    refine Jq.thenN ?_
    refine Jc.ret ?_
    refine Jq.thenR ?_
    exact Jq.fin () (.inl rfl) rfl (RetVs.cell1 rfl (by repeat (first | exact Has.here | apply Has.there)) tsh4 (by rfl) RetVs.nil) rfl (by repeat (first | exact Take.nil | apply Take.cons (by repeat (first | exact Del.here | apply Del.there)))) (by repeat (first | exact trivial | refine And.intro (by repeat (first | exact Mem.here | apply Mem.there)) ?_))
  · by_cases h0 : k = 0
    · rw [hno (by rw [Bool.eq_false_iff, ne_eq, okLen_iff]; omega)]
      refine Ct.of _ Tryd.func56 Tryd.ntmps56 rfl rfl (fun X W => ?_)
      refine Jc.fact (.rd (some ⟨0, 0, none⟩) (manyV m)) (φ := .many m) (by repeat (first | exact Mem.here | apply Mem.there)) (fun X W h => h.1) ?_
      refine Jc.seq ?_
      refine Jc.region ?_
      refine Jl.box rfl (by rfl) ?_
      intro b1
      refine Jl.alloc tze4 ?_
      intro b2
      refine Jl.nil ?_
      refine Jq.thenN ?_
      refine Jc.seq ?_
      refine Jc.seq ?_
      refine Jc.drawn [0, 1, 3, 7, 15, 31, 63, 127, 255, 511, 1023, 2047, 4095, 8191, 2047, 18431, 51199, 116735, 247807, 509951, 1048575, 2097151, 4194303, 8388607, 16777215, 33554431, 8388607, 75497471, 209715199, 478150655, 1015021567, 2088763391, 4294967295, 8589934591] ([(0, false), (1, false), (2, false), (3, false), (4, false), (5, false), (6, false), (7, false), (8, false), (9, false), (10, false), (11, false), (12, false), (13, false), (14, false), (15, false), (16, false), (17, false), (18, false), (19, false), (20, false), (21, false), (22, false), (23, false), (24, false), (25, false), (26, false), (27, false), (28, false), (29, false), (30, false), (31, false), (32, false), (33, false)], []) [] tmx (by kernel_rfl) ?_
      refine Dh.JH.nil ?_
      refine Dh.JB.pv rfl trivial (fun _ => PR.fieldAddr rfl tfl43_0) ?_
      refine Dh.JB.rd [.blk _ _ _] rfl trivial (by repeat (first | exact Take.nil | apply Take.cons (by repeat (first | exact Del.here | apply Del.there)))) (fun _ => PR.load1 rfl tsh5 Has.here (by rfl)) ?_
      refine Dh.JB.pv rfl trivial (fun _ => PR.geq false rfl rfl (by simp; omega)) ?_
      refine Dh.JB.pv rfl trivial (fun _ => PR.move rfl) ?_
      refine Dh.JB.pv rfl ⟨_, rfl, rfl⟩ (fun _ => PR.fieldAddr rfl tfl43_0) ?_
      refine Dh.JB.rd [.blk _ _ _] rfl ⟨_, rfl, rfl⟩ (by repeat (first | exact Take.nil | apply Take.cons (by repeat (first | exact Del.here | apply Del.there)))) (fun _ => PR.load1 rfl tsh5 Has.here (by rfl)) ?_
      refine Dh.JB.pv rfl ⟨_, rfl, rfl⟩ (fun _ => PR.idxRA r.k.toNat rfl rfl tar91 rfl (by omega)) ?_
      refine Dh.JB.pv rfl ⟨_, rfl, rfl⟩ (fun _ => PR.loadR rfl tsh41 (by repeat (first | exact Mem.here | apply Mem.there)) ((many_at m (by omega)).trans (by rw [← hk, if_pos h0]))) ?_
      refine Dh.JB.pv rfl ⟨_, rfl, rfl⟩ (fun _ => PR.eqlNil true rfl tsl41 rfl) ?_
      refine Dh.JB.pv rfl trivial (fun _ => PR.pickF rfl rfl) ?_
      refine Dh.JB.pv rfl trivial (fun _ => PR.move rfl) ?_
      refine Dh.JB.off rfl ⟨_, rfl, .inr rfl⟩ ?_
      refine Dh.JB.off rfl ⟨_, rfl, .inr rfl⟩ ?_
      refine Dh.JB.off rfl ⟨_, rfl, .inr rfl⟩ ?_
      refine Dh.JB.off rfl ⟨_, rfl, .inr rfl⟩ ?_
      refine Dh.JB.off rfl ⟨_, rfl, .inr rfl⟩ ?_
      refine Dh.JB.off rfl ⟨_, rfl, .inr rfl⟩ ?_
      refine Dh.JB.off rfl ⟨_, rfl, .inr rfl⟩ ?_
      refine Dh.JB.off rfl ⟨_, rfl, .inr rfl⟩ ?_
      refine Dh.JB.off rfl ⟨_, rfl, .inr rfl⟩ ?_
      refine Dh.JB.off rfl ⟨_, rfl, .inr rfl⟩ ?_
      refine Dh.JB.pv rfl trivial (fun _ => PR.pickT rfl rfl) ?_
      refine Dh.JB.pv rfl trivial (fun _ => PR.move rfl) ?_
      refine Dh.JB.off rfl ⟨_, rfl, .inr rfl⟩ ?_
      refine Dh.JB.off rfl ⟨_, rfl, .inr rfl⟩ ?_
      refine Dh.JB.off rfl ⟨_, rfl, .inr rfl⟩ ?_
      refine Dh.JB.off rfl ⟨_, rfl, .inr rfl⟩ ?_
      refine Dh.JB.off rfl ⟨_, rfl, .inr rfl⟩ ?_
      refine Dh.JB.off rfl ⟨_, rfl, .inr rfl⟩ ?_
      refine Dh.JB.off rfl ⟨_, rfl, .inr rfl⟩ ?_
      refine Dh.JB.off rfl ⟨_, rfl, .inr rfl⟩ ?_
      refine Dh.JB.off rfl ⟨_, rfl, .inr rfl⟩ ?_
      refine Dh.JB.off rfl ⟨_, rfl, .inr rfl⟩ ?_
      refine Dh.JB.pv rfl trivial (fun _ => PR.pickT rfl rfl) ?_
      refine Dh.JB.nil ?_
      refine Dh.JL.nil ?_
      refine Jq.thenN ?_
      refine Jc.condT rfl ?_
      refine Jc.seq ?_
      refine Jc.region ?_
      refine Jl.store1 rfl tsh4 rfl (by rfl) (by repeat (first | exact Swap.here | apply Swap.there)) (by rfl) ?_
      refine Jl.nil ?_
      refine Jq.thenN ?_
      refine Jc.ret ?_
      refine Jq.thenR ?_
      exact Jq.fin () (.inl rfl) rfl (RetVs.cell1 rfl (by repeat (first | exact Has.here | apply Has.there)) tsh4 (by rfl) RetVs.nil) rfl (by repeat (first | exact Take.nil | apply Take.cons (by repeat (first | exact Del.here | apply Del.there)))) (by repeat (first | exact trivial | refine And.intro (by repeat (first | exact Mem.here | apply Mem.there)) ?_))
    · have hb := bnd_le (show k < 17 by omega)
      refine Ct.of _ Tryd.func56 Tryd.ntmps56 rfl rfl (fun X W => ?_)
      refine Jc.fact (.rd (some ⟨0, 0, none⟩) (manyV m)) (φ := .many m) (by repeat (first | exact Mem.here | apply Mem.there)) (fun X W h => h.1) ?_
      refine Jc.fact (.rd (m k).1 (bndV k)) (φ := .many m) (by repeat (first | exact Mem.here | apply Mem.there)) (fun X W h => h.2 k (by omega) (by omega)) ?_
      refine Jc.pure (p := (m k).1.isNone = false) (φ := .rd (m k).1 (bndV k)) (by repeat (first | exact Mem.here | apply Mem.there)) (fun X W h => ?_) fun hsome => ?_
      · cases hm : (m k).1 with
        | some a => rfl
        | none => rw [hm] at h; exact absurd (Fact.rd_none h) (by simp [bndV])
      refine Jc.seq ?_
      refine Jc.region ?_
      refine Jl.box rfl (by rfl) ?_
      intro b1
      refine Jl.alloc tze4 ?_
      intro b2
      refine Jl.nil ?_
      refine Jq.thenN ?_
      refine Jc.seq ?_
      refine Jc.seq ?_
      refine Jc.drawn [0, 1, 3, 7, 15, 31, 63, 127, 255, 511, 1023, 2047, 4095, 8191, 2047, 18431, 51199, 116735, 247807, 509951, 1048575, 2097151, 4194303, 8388607, 16777215, 33554431, 8388607, 75497471, 209715199, 478150655, 1015021567, 2088763391, 4294967295, 8589934591] ([(0, false), (1, false), (2, false), (3, false), (4, false), (5, false), (6, false), (7, false), (8, false), (9, false), (10, false), (11, false), (12, false), (13, false), (14, false), (15, false), (16, false), (17, false), (18, false), (19, false), (20, false), (21, false), (22, false), (23, false), (24, false), (25, false), (26, false), (27, false), (28, false), (29, false), (30, false), (31, false), (32, false), (33, false)], []) [] tmx (by kernel_rfl) ?_
      refine Dh.JH.nil ?_
      refine Dh.JB.pv rfl trivial (fun _ => PR.fieldAddr rfl tfl43_0) ?_
      refine Dh.JB.rd [.blk _ _ _] rfl trivial (by repeat (first | exact Take.nil | apply Take.cons (by repeat (first | exact Del.here | apply Del.there)))) (fun _ => PR.load1 rfl tsh5 Has.here (by rfl)) ?_
      refine Dh.JB.pv rfl trivial (fun _ => PR.geq false rfl rfl (by simp; omega)) ?_
      refine Dh.JB.pv rfl trivial (fun _ => PR.move rfl) ?_
      refine Dh.JB.pv rfl ⟨_, rfl, rfl⟩ (fun _ => PR.fieldAddr rfl tfl43_0) ?_
      refine Dh.JB.rd [.blk _ _ _] rfl ⟨_, rfl, rfl⟩ (by repeat (first | exact Take.nil | apply Take.cons (by repeat (first | exact Del.here | apply Del.there)))) (fun _ => PR.load1 rfl tsh5 Has.here (by rfl)) ?_
      refine Dh.JB.pv rfl ⟨_, rfl, rfl⟩ (fun _ => PR.idxRA r.k.toNat rfl rfl tar91 rfl (by omega)) ?_
      refine Dh.JB.pv rfl ⟨_, rfl, rfl⟩ (fun _ => PR.loadR rfl tsh41 (by repeat (first | exact Mem.here | apply Mem.there)) ((many_at m (by omega)).trans (by rw [← hk, if_neg h0]))) ?_
      refine Dh.JB.pv rfl ⟨_, rfl, rfl⟩ (fun _ => PR.eqlNil false rfl tsl41 hsome) ?_
      refine Dh.JB.pv rfl trivial (fun _ => PR.pickF rfl rfl) ?_
      refine Dh.JB.pv rfl trivial (fun _ => PR.move rfl) ?_
      refine Dh.JB.pv rfl ⟨_, rfl, rfl⟩ (fun _ => PR.fieldAddr rfl tfl43_1) ?_
      refine Dh.JB.rd [.blk _ _ _] rfl ⟨_, rfl, rfl⟩ (by repeat (first | exact Take.nil | apply Take.cons (by repeat (first | exact Del.here | apply Del.there)))) (fun _ => PR.load1 rfl tsh41 Has.here (by rfl)) ?_
      refine Dh.JB.pv rfl ⟨_, rfl, rfl⟩ (fun _ => PR.len rfl tsl41) ?_
      refine Dh.JB.pv rfl ⟨_, rfl, rfl⟩ (fun _ => PR.fieldAddr rfl tfl43_0) ?_
      refine Dh.JB.rd [.blk _ _ _] rfl ⟨_, rfl, rfl⟩ (by repeat (first | exact Take.nil | apply Take.cons (by repeat (first | exact Del.here | apply Del.there)))) (fun _ => PR.load1 rfl tsh5 Has.here (by rfl)) ?_
      refine Dh.JB.pv rfl ⟨_, rfl, rfl⟩ (fun _ => PR.idxRA r.k.toNat rfl rfl tar91 rfl (by omega)) ?_
      refine Dh.JB.pv rfl ⟨_, rfl, rfl⟩ (fun _ => PR.loadR rfl tsh41 (by repeat (first | exact Mem.here | apply Mem.there)) ((many_at m (by omega)).trans (by rw [← hk, if_neg h0]))) ?_
      refine Dh.JB.pv rfl ⟨_, rfl, rfl⟩ (fun _ => PR.idx1 0 rfl rfl tsl41 (by repeat (first | exact Mem.here | apply Mem.there)) (by simp [bndV]) rfl (by omega)) ?_
      refine Dh.JB.pv rfl ⟨_, rfl, rfl⟩ (fun _ => PR.loadR rfl tsh3 (by repeat (first | exact Mem.here | apply Mem.there)) rfl) ?_
      refine Dh.JB.pv rfl ⟨_, rfl, rfl⟩ (fun _ => PR.lss _ rfl rfl rfl) ?_
      refine Dh.JB.pv rfl trivial (fun _ => PR.pickF rfl rfl) ?_
      refine Dh.JB.pv rfl trivial (fun _ => PR.move rfl) ?_
      refine Dh.JB.bsplit (fun g26 => ?_) (fun g26 => ?_)
      · try replace g26 := of_decide_eq_true g26
        have hro : r.ok = false := hno (by rw [Bool.eq_false_iff, ne_eq, okLen_iff]; omega)
        refine Dh.JB.off rfl ⟨_, rfl, .inr rfl⟩ ?_
        refine Dh.JB.off rfl ⟨_, rfl, .inr rfl⟩ ?_
        refine Dh.JB.off rfl ⟨_, rfl, .inr rfl⟩ ?_
        refine Dh.JB.off rfl ⟨_, rfl, .inr rfl⟩ ?_
        refine Dh.JB.off rfl ⟨_, rfl, .inr rfl⟩ ?_
        refine Dh.JB.off rfl ⟨_, rfl, .inr rfl⟩ ?_
        refine Dh.JB.off rfl ⟨_, rfl, .inr rfl⟩ ?_
        refine Dh.JB.off rfl ⟨_, rfl, .inr rfl⟩ ?_
        refine Dh.JB.off rfl ⟨_, rfl, .inr rfl⟩ ?_
        refine Dh.JB.off rfl ⟨_, rfl, .inr rfl⟩ ?_
        refine Dh.JB.pv rfl trivial (fun _ => PR.pickT rfl rfl) ?_
        refine Dh.JB.nil ?_
        refine Dh.JL.nil ?_
        refine Jq.thenN ?_
        refine Jc.condT rfl ?_
        refine Jc.seq ?_
        refine Jc.region ?_
        refine Jl.store1 rfl tsh4 rfl (by rfl) (by repeat (first | exact Swap.here | apply Swap.there)) (by rfl) ?_
        refine Jl.nil ?_
        refine Jq.thenN ?_
        refine Jc.ret ?_
        refine Jq.thenR ?_
        exact Jq.fin () (.inl rfl) rfl (RetVs.cell1 rfl (by repeat (first | exact Has.here | apply Has.there)) tsh4 (by rfl) RetVs.nil) (by rw [hro]; rfl) (by repeat (first | exact Take.nil | apply Take.cons (by repeat (first | exact Del.here | apply Del.there)))) (by repeat (first | exact trivial | refine And.intro (by repeat (first | exact Mem.here | apply Mem.there)) ?_))
      · try replace g26 := of_decide_eq_false g26
        refine Dh.JB.pv rfl ⟨_, rfl, rfl⟩ (fun _ => PR.fieldAddr rfl tfl43_1) ?_
        refine Dh.JB.rd [.blk _ _ _] rfl ⟨_, rfl, rfl⟩ (by repeat (first | exact Take.nil | apply Take.cons (by repeat (first | exact Del.here | apply Del.there)))) (fun _ => PR.load1 rfl tsh41 Has.here (by rfl)) ?_
        refine Dh.JB.pv rfl ⟨_, rfl, rfl⟩ (fun _ => PR.len rfl tsl41) ?_
        refine Dh.JB.pv rfl ⟨_, rfl, rfl⟩ (fun _ => PR.fieldAddr rfl tfl43_0) ?_
        refine Dh.JB.rd [.blk _ _ _] rfl ⟨_, rfl, rfl⟩ (by repeat (first | exact Take.nil | apply Take.cons (by repeat (first | exact Del.here | apply Del.there)))) (fun _ => PR.load1 rfl tsh5 Has.here (by rfl)) ?_
        refine Dh.JB.pv rfl ⟨_, rfl, rfl⟩ (fun _ => PR.idxRA r.k.toNat rfl rfl tar91 rfl (by omega)) ?_
        refine Dh.JB.pv rfl ⟨_, rfl, rfl⟩ (fun _ => PR.loadR rfl tsh41 (by repeat (first | exact Mem.here | apply Mem.there)) ((many_at m (by omega)).trans (by rw [← hk, if_neg h0]))) ?_
        refine Dh.JB.pv rfl ⟨_, rfl, rfl⟩ (fun _ => PR.idx1 1 rfl rfl tsl41 (by repeat (first | exact Mem.here | apply Mem.there)) (by simp [bndV]) rfl (by omega)) ?_
        refine Dh.JB.pv rfl ⟨_, rfl, rfl⟩ (fun _ => PR.loadR rfl tsh3 (by repeat (first | exact Mem.here | apply Mem.there)) rfl) ?_
        refine Dh.JB.pv rfl ⟨_, rfl, rfl⟩ (fun _ => PR.gtr _ rfl rfl rfl) ?_
        refine Dh.JB.pv rfl trivial (fun _ => PR.pickF rfl rfl) ?_
        refine Dh.JB.nil ?_
        refine Dh.JL.nil ?_
        refine Jq.thenN ?_
        refine Jc.cond rfl (fun h1 => ?_) (fun h1 => ?_)
        · try replace h1 := of_decide_eq_true h1
          have hro : r.ok = false := hno (by rw [Bool.eq_false_iff, ne_eq, okLen_iff]; omega)
          refine Jc.seq ?_
          refine Jc.region ?_
          refine Jl.store1 rfl tsh4 rfl (by rfl) (by repeat (first | exact Swap.here | apply Swap.there)) (by rfl) ?_
          refine Jl.nil ?_
          refine Jq.thenN ?_
          refine Jc.ret ?_
          refine Jq.thenR ?_
          exact Jq.fin () (.inl rfl) rfl (RetVs.cell1 rfl (by repeat (first | exact Has.here | apply Has.there)) tsh4 (by rfl) RetVs.nil) (by rw [hro]; rfl) (by repeat (first | exact Take.nil | apply Take.cons (by repeat (first | exact Del.here | apply Del.there)))) (by repeat (first | exact trivial | refine And.intro (by repeat (first | exact Mem.here | apply Mem.there)) ?_))
        · try replace h1 := of_decide_eq_false h1
          have hol : okLen r.k.toNat r.l.length = true := by rw [okLen_iff, ← hk]; omega
          refine Jc.skip ?_
          refine Jq.thenN ?_
          refine Jc.seq ?_
          refine Jc.seq ?_
          refine Jc.region ?_
          refine Jl.pv (PR.loadW rfl tsh43 (by repeat (first | exact Has.here | apply Has.there)) (by rfl)) ?_
          refine Jl.call (numbers_ct r (A, cA)) en68 (by rfl) (by repeat (first | exact Take.nil | apply Take.cons (by repeat (first | exact Del.here | apply Del.there)))) (by repeat (first | exact trivial | refine And.intro (by repeat (first | exact Mem.here | apply Mem.there)) ?_)) ?_
          rintro b39
          refine Jl.nil ?_
          refine Jq.thenN ?_
          refine Jc.block ?_
          refine Jc.range (σ := Unit) (τ := Unit) (Inv := fun k _ => ∀ j, j < k → fineN (r.l.getD j 0) = true) (Rs := fun _ => [.blk b2 4 [.bool false], .blk b1 43 (r.cs (A, cA))]) (Φs := fun _ => []) (InvX := fun e _ _ => e = .ret ∧ r.ok = false) (RsX := fun _ => [.blk b2 4 [.bool false], .blk b1 43 (r.cs (A, cA))]) (ΦsX := fun _ => []) (vals := nvals r.l) rfl en76 (numbers1_it r (A, cA) b39 hn) (by repeat (first | exact Take.nil | apply Take.cons (by repeat (first | exact Del.here | apply Del.there)))) (by repeat (first | exact trivial | refine And.intro (by repeat (first | exact Mem.here | apply Mem.there)) ?_)) (fun _ => rfl) rfl () (fun _ h => by omega) rfl (by repeat (first | exact trivial | refine And.intro (by repeat (first | exact Mem.here | apply Mem.there)) ?_)) ?_ ?_ ?_
          · rintro j ⟨⟩ hj hI l C1
            show Jc _ _ _ _ _ _ (psetL [40] [.bool (fineN (r.l.getD j 0))] _) [.blk b2 4 [.bool false], .blk b1 43 (r.cs (A, cA))] []
            refine Jc.region ?_
            refine Jl.pv (PR.assign rfl) ?_
            refine Jl.nil ?_
            refine Jq.assigned (fun C2 => ?_)
            refine Jc.block ?_
            refine Jc.seq ?_
            refine Jc.region ?_
            refine Jl.pv (PR.move rfl) ?_
            refine Jl.pv (PR.not rfl) ?_
            refine Jl.nil ?_
            refine Jq.thenN ?_
            refine Jc.cond rfl (fun h2 => ?_) (fun h2 => ?_)
            · try replace h2 := of_decide_eq_true h2
              replace h2 := not_true h2
              refine Jc.seq ?_
              refine Jc.region ?_
              refine Jl.store1 rfl tsh4 rfl (by rfl) (by repeat (first | exact Swap.here | apply Swap.there)) (by rfl) ?_
              refine Jl.nil ?_
              refine Jq.thenN ?_
              refine Jc.ret ?_
              refine Jq.blkR ?_
              exact Jq.nextR () ⟨rfl, by rw [Bool.eq_false_iff]; intro h; have := (Rc.ok_iff.1 h).2 (r.l.getD j 0) (by rw [getDE hj]; exact List.getElem_mem _); rw [h2] at this; cases this⟩ rfl (by repeat (first | exact trivial | refine And.intro (by repeat (first | exact Mem.here | apply Mem.there)) ?_))
            · try replace h2 := of_decide_eq_false h2
              replace h2 := not_false h2
              refine Jc.skip ?_
              refine Jq.blkN ?_
              exact Jq.next () (fun i hi => (Nat.lt_succ_iff_lt_or_eq.1 hi).elim (hI i) (fun e => by rw [e]; exact h2)) rfl (by repeat (first | exact trivial | refine And.intro (by repeat (first | exact Mem.here | apply Mem.there)) ?_))
          · rintro ⟨⟩ D0 hI
            have hro : r.ok = true := Rc.ok_iff.2 ⟨hol, fun n hn => by
              obtain ⟨j, hj, rfl⟩ := List.mem_iff_getElem.1 hn
              rw [← getDE hj]; exact hI j hj⟩
            refine Jq.blkN ?_
            refine Jq.thenN ?_
            refine Jc.seq ?_
            refine Jc.region ?_
            refine Jl.store1 rfl tsh4 rfl (by rfl) (by repeat (first | exact Swap.here | apply Swap.there)) (by rfl) ?_
            refine Jl.nil ?_
            refine Jq.thenN ?_
            refine Jc.ret ?_
            exact Jq.finM (Ds := [D0]) () (.inl rfl) rfl (by repeat (first | exact Take.nil | apply Take.cons (by repeat (first | exact Del.here | apply Del.there)))) (RetVs.cell1 rfl (by repeat (first | exact Has.here | apply Has.there)) tsh4 (by rfl) RetVs.nil) (by rw [hro]; rfl) (by repeat (first | exact Take.nil | apply Take.cons (by repeat (first | exact Del.here | apply Del.there)))) (by repeat (first | exact trivial | refine And.intro (by repeat (first | exact Mem.here | apply Mem.there)) ?_))
          · rintro e j t D0 hj ⟨rfl, hro⟩
            skip
            refine Jc.ret ?_
            refine Jq.blkR ?_
            refine Jq.thenR ?_
            exact Jq.finM (Ds := [D0]) () (.inl rfl) rfl (by repeat (first | exact Take.nil | apply Take.cons (by repeat (first | exact Del.here | apply Del.there)))) (RetVs.cell1 rfl (by repeat (first | exact Has.here | apply Has.there)) tsh4 (by rfl) RetVs.nil) (by rw [hro]; rfl) (by repeat (first | exact Take.nil | apply Take.cons (by repeat (first | exact Del.here | apply Del.there)))) (by repeat (first | exact trivial | refine And.intro (by repeat (first | exact Mem.here | apply Mem.there)) ?_))
theorem of_ct (k : UInt8) (A : Option Addr) (c : Nat) (l : List Int) (hn : l.length ≤ 1000000) : Ct Tryd.prog 55 [.int .u8 k.toNat, .slice A l.length c] [] [.rd A (i64s l)] (⟨k, l⟩ : Rc).v (fun x => [(⟨k, l⟩ : Rc).row x]) (fun _ => []) := by
  refine Ct.of _ Tryd.func55 Tryd.ntmps55 rfl rfl (fun X W => ?_)
  refine Jc.seq ?_
  refine Jc.region ?_
  refine Jl.alloc tze43 ?_
  intro b4
  refine Jl.nil ?_
  refine Jq.thenN ?_
  refine Jc.seq ?_
  refine Jc.region ?_
  refine Jl.pv (PR.move rfl) ?_
  refine Jl.pv (PR.move rfl) ?_
  refine Jl.call (iclone_ct A c l (by omega)) en67 (by rfl) (by repeat (first | exact Take.nil | apply Take.cons (by repeat (first | exact Del.here | apply Del.there)))) (by repeat (first | exact trivial | refine And.intro (by repeat (first | exact Mem.here | apply Mem.there)) ?_)) ?_
  rintro ⟨A7, c7⟩
  refine Jl.pv (PR.build (by rfl) tze43 tpl43_0_1 (by rfl)) ?_
  refine Jl.storeW rfl tsh43 rfl (by rfl) (by simp [Value.oneCell']) (by repeat (first | exact Swap.here | apply Swap.there)) (by rfl) ?_
  refine Jl.nil ?_
  refine Jq.thenN ?_
  refine Jc.ret ?_
  exact Jq.fin (A7, c7) (.inl rfl) rfl (RetVs.cellA rfl (by repeat (first | exact Has.here | apply Has.there)) tsh43 (by rfl) RetVs.nil) rfl (by repeat (first | exact Take.nil | apply Take.cons (by repeat (first | exact Del.here | apply Del.there)))) (by repeat (first | exact trivial | refine And.intro (by repeat (first | exact Mem.here | apply Mem.there)) ?_))
theorem rcput_ct (r : Rc) (x : AdC) (m : Nat → AdC) (hn : r.l.length ≤ 1000000) : Ct Tryd.prog 45 [r.v x] [] [.rd x.1 (i64s r.l), .many m] (fun x : AdC => .tuple #[.slice x.1 r.bytes.length x.2, .int .i64 r.putE]) (fun x => [.row 5 1 (.slice x.1 r.bytes.length x.2) r.bytes.length (u8s r.bytes)]) (fun _ => []) := by
  obtain ⟨A, cA⟩ := x
  by_cases hok : r.ok = true
  · have e1 : r.bytes = rowsB r.nums := if_pos hok
    have e2 : r.putE = 0 := if_pos hok
    have hl := Rc.ok_len hok
    have hro := rc_rowOk hok
    rw [e1, e2]
    refine Ct.of _ Tryd.func45 Tryd.ntmps45 rfl rfl (fun X W => ?_)
    refine Jc.seq ?_
    refine Jc.region ?_
    refine Jl.box rfl (by rfl) ?_
    intro b1
    refine Jl.pv (PR.assign rfl) ?_
    refine Jl.pv (PR.assign rfl) ?_
    refine Jl.nil ?_
    refine Jq.thenN ?_
    refine Jc.seq ?_
    refine Jc.seq ?_
    refine Jc.region ?_
    refine Jl.pv (PR.loadW rfl tsh43 (by repeat (first | exact Has.here | apply Has.there)) (by rfl)) ?_
    refine Jl.call (right_ct r (A, cA) m hn) en56 (by rfl) (by repeat (first | exact Take.nil | apply Take.cons (by repeat (first | exact Del.here | apply Del.there)))) (by repeat (first | exact trivial | refine And.intro (by repeat (first | exact Mem.here | apply Mem.there)) ?_)) ?_
    rintro ⟨⟩
    refine Jl.as (.bool true) (congrArg Value.bool hok) ?_
    refine Jl.pv (PR.not rfl) ?_
    refine Jl.nil ?_
    refine Jq.thenN ?_
    refine Jc.condF rfl ?_
    refine Jc.skip ?_
    refine Jq.thenN ?_
    refine Jc.seq ?_
    refine Jc.region ?_
    refine Jl.pv (PR.fieldAddr rfl tfl43_0) ?_
    refine Jl.pv (PR.load1 rfl tsh5 (by repeat (first | exact Has.here | apply Has.there)) (by rfl)) ?_
    refine Jl.pv (PR.conv ((r.k.toNat : Nat) : Int) rfl Tryd.underlying5 Tryd.underlying3 (w64 (by omega) (by omega))) ?_
    refine Jl.buildSlice (by rfl) tsl41 tzr41_1 (by rfl) (by rfl) ?_
    intro b10
    refine Jl.pv (PR.fieldAddr rfl tfl43_1) ?_
    refine Jl.pv (PR.load1 rfl tsh41 (by repeat (first | exact Has.here | apply Has.there)) (by rfl)) ?_
    refine Jl.seal (by repeat (first | exact Del.here | apply Del.there)) ?_
    refine Jl.buildSlice (by rfl) tsl98 tzr98_2 (by rfl) (by rfl) ?_
    intro b13
    refine Jl.seal (by repeat (first | exact Del.here | apply Del.there)) ?_
    refine Jl.slNil ?_
    refine Jl.slCons ((A, cA), r.l.length, i64s r.l) (by repeat (first | exact Mem.here | apply Mem.there)) (by repeat (first | exact Mem.here | apply Mem.there)) ?_
    refine Jl.slCons ((some ⟨b10, 0, none⟩, 1), 1, i64s [((r.k.toNat : Nat) : Int)]) (by repeat (first | exact Mem.here | apply Mem.there)) (by repeat (first | exact Mem.here | apply Mem.there)) ?_
    refine Jl.call (iconcat_at (l := r.nums) [((some ⟨b10, 0, none⟩, 1), 1, i64s [((r.k.toNat : Nat) : Int)]), ((A, cA), r.l.length, i64s r.l)] (by simp) (by simp [sumS]; omega) (by simp) (by simp [i64s, Value.oneCell']) rfl (by simp [flatS, Rc.nums]) (by simp [sumS, Rc.nums]; omega)) en61 (by rfl) (by repeat (first | exact Take.nil | apply Take.cons (by repeat (first | exact Del.here | apply Del.there)))) (by repeat (first | exact trivial | refine And.intro (by repeat (first | exact Mem.here | apply Mem.there)) ?_)) ?_
    rintro ⟨A14, c14⟩
    refine Jl.sealR (by repeat (first | exact Del.here | apply Del.there)) ?_
    refine Jl.call (row_at (l := r.nums) (m := rowsB r.nums) (r := 0) (by simp [Rc.nums]; omega) (if_pos hro) (if_pos hro)) en60 (by rfl) (by repeat (first | exact Take.nil | apply Take.cons (by repeat (first | exact Del.here | apply Del.there)))) (by repeat (first | exact trivial | refine And.intro (by repeat (first | exact Mem.here | apply Mem.there)) ?_)) ?_
    rintro ⟨A15, c15⟩
    refine Jl.pv (PR.extract rfl (by rfl)) ?_
    refine Jl.pv (PR.extract rfl (by rfl)) ?_
    refine Jl.pv (PR.assign rfl) ?_
    refine Jl.pv (PR.assign rfl) ?_
    refine Jl.nil ?_
    refine Jq.thenN ?_
    refine Jc.ret ?_
    exact Jq.fin (A15, c15) (.inl rfl) rfl (RetVs.tmp rfl (RetVs.tmp rfl RetVs.nil)) rfl (by repeat (first | exact Take.nil | apply Take.cons (by repeat (first | exact Del.here | apply Del.there)))) (by repeat (first | exact trivial | refine And.intro (by repeat (first | exact Mem.here | apply Mem.there)) ?_))
  · have e1 : r.bytes = [] := if_neg hok
    have e2 : r.putE = 2 := if_neg hok
    rw [e1, e2]
    refine Ct.of _ Tryd.func45 Tryd.ntmps45 rfl rfl (fun X W => ?_)
    refine Jc.seq ?_
    refine Jc.region ?_
    refine Jl.box rfl (by rfl) ?_
    intro b1
    refine Jl.pv (PR.assign rfl) ?_
    refine Jl.pv (PR.assign rfl) ?_
    refine Jl.nil ?_
    refine Jq.thenN ?_
    refine Jc.seq ?_
    refine Jc.seq ?_
    refine Jc.region ?_
    refine Jl.pv (PR.loadW rfl tsh43 (by repeat (first | exact Has.here | apply Has.there)) (by rfl)) ?_
    refine Jl.call (right_ct r (A, cA) m hn) en56 (by rfl) (by repeat (first | exact Take.nil | apply Take.cons (by repeat (first | exact Del.here | apply Del.there)))) (by repeat (first | exact trivial | refine And.intro (by repeat (first | exact Mem.here | apply Mem.there)) ?_)) ?_
    rintro ⟨⟩
    refine Jl.as (.bool false) (congrArg Value.bool (by simpa using hok)) ?_
    refine Jl.pv (PR.not rfl) ?_
    refine Jl.nil ?_
    refine Jq.thenN ?_
    refine Jc.condT rfl ?_
    refine Jc.seq ?_
    refine Jc.region ?_
    refine Jl.pv (PR.assign rfl) ?_
    refine Jl.pv (PR.assign rfl) ?_
    refine Jl.nil ?_
    refine Jq.thenN ?_
    refine Jc.ret ?_
    refine Jq.thenR ?_
    refine Jq.nilRow 5 1 ?_
    exact Jq.fin (none, 0) (.inl rfl) rfl (RetVs.tmp rfl (RetVs.tmp rfl RetVs.nil)) rfl (by repeat (first | exact Take.nil | apply Take.cons (by repeat (first | exact Del.here | apply Del.there)))) (by repeat (first | exact trivial | refine And.intro (by repeat (first | exact Mem.here | apply Mem.there)) ?_))
theorem rc_one (r : Rc) (x : AdC) : ∀ u ∈ r.cs x, u.oneCell' = true := by simp [Rc.cs, Value.oneCell']
theorem natI_at {l : List Nat} {k : Nat} (h : k < l.length) : (natI l)[k]? = some (.int .i64 ((l.getD k 0 : Nat) : Int)) := by rw [List.getD_eq_getElem?_getD, List.getElem?_eq_getElem h]; simp [natI, h]
theorem natI_drop (l : List Nat) : ((natI l).drop (1 * 1)).take ((((l.drop 1).map Int.ofNat).length) * 1) = i64s ((l.drop 1).map Int.ofNat) := by
  rw [List.take_of_length_le (by simp [natI])]
  rw [natI, i64s, ← List.map_drop, List.map_map, Nat.mul_one]; rfl
theorem takeRow_40 (b : List UInt8) : (takeRowN b).1.length ≤ 40 := by
  by_cases h : (takeRowN b).2.2 = 0
  · have h1 := takeRow_only (b := b) (l := (takeRowN b).1) (r := (takeRowN b).2.1) (by rw [← h])
    have := (rowOk_fine h1.1).1
    simpa using this
  · rw [(takeRow_bad h).1]; simp
theorem take1_ct (A : Option Addr) (cA : Nat) (b : List UInt8) (m : Nat → AdC) (hn : b.length ≤ 1000000) (hc : b.length ≤ cA) : Ct Tryd.prog 40 [.slice A b.length cA] [] [.rd A (u8s b), .many m] (fun x : AdC => .tuple #[(rcOf b).v x, .int .i64 (rcE b)]) (fun x => [(rcOf b).row x]) (fun _ => []) := by
  obtain ⟨tl, tr, te, ht⟩ : ∃ tl tr te, takeRowN b = (tl, tr, te) := ⟨_, _, _, rfl⟩
  have htr : Ct Tryd.prog 54 [.slice A b.length cA] [] [.rd A (u8s b)] (fun x : OA × OA => .tuple #[.slice x.1.1 tl.length x.1.2, .slice x.2.1 tr.length x.2.2, .int .i64 te]) (fun x => [.row 3 1 (.slice x.1.1 tl.length x.1.2) tl.length (natI tl)]) (fun x => [.rd x.2.1 (u8s tr), .is (tr.length ≤ x.2.2)]) := by
    have h0 := takeRow_ct A cA b hn hc
    rw [ht] at h0
    exact h0
  have htl : tl.length ≤ 40 := by have := takeRow_40 b; rw [ht] at this; exact this
  have hgd : rcGood (takeRowN b) = ((decide (te = 0) && decide (tr.length = 0)) && ((decide (0 < tl.length) && decide (tl.getD 0 0 < 17)) && (rcRaw tl).ok)) := by rw [ht]; rfl
  have hno : rcGood (takeRowN b) = false → rcOf b = Rc.zero ∧ rcE b = 11 := fun h => ⟨if_neg (by rw [h]; simp), if_neg (by rw [h]; simp)⟩
  have hye : rcGood (takeRowN b) = true → rcOf b = rcRaw tl ∧ rcE b = 0 := fun h => ⟨by rw [rcOf, if_pos h, ht], if_pos h⟩
  refine Ct.of _ Tryd.func40 Tryd.ntmps40 rfl rfl (fun X W => ?_)
  refine Jc.seq ?_
  refine Jc.region ?_
  refine Jl.alloc tze43 ?_
  intro b2
  refine Jl.pv (PR.assign rfl) ?_
  refine Jl.nil ?_
  refine Jq.thenN ?_
  refine Jc.scope (σ := { _u : Unit // rcGood (takeRowN b) = false } × Rc × AdC) (fun _ => [(2, .pointer (some ⟨b2, 0, none⟩))]) (fun s => [.blk b2 43 (s.2.1.cs s.2.2)]) (fun _ => []) (fun _ => 0) (l := 0) rfl ?_ ?_
  · rintro ⟨⟨_, hbad⟩, r0, x0⟩
    refine Jc.seq ?_
    refine Jc.region ?_
    refine Jl.pv (PR.build (by rfl) tze43 tpl43_ (by rfl)) ?_
    refine Jl.storeW rfl tsh43 rfl (by rfl) (by first | exact rc_one _ _ | simp [Value.oneCell']) (by repeat (first | exact Swap.here | apply Swap.there)) (by rfl) ?_
    refine Jl.pv (PR.assign rfl) ?_
    refine Jl.nil ?_
    refine Jq.thenN ?_
    refine Jc.ret ?_
    refine Jq.jmpR ?_
    rw [(hno hbad).1, (hno hbad).2]
    refine Jq.nilRow 3 1 ?_
    exact Jq.fin (none, 0) (.inl rfl) rfl (RetVs.cellA rfl (by repeat (first | exact Has.here | apply Has.there)) tsh43 (by rfl) (RetVs.tmp rfl RetVs.nil)) rfl (by repeat (first | exact Take.nil | apply Take.cons (by repeat (first | exact Del.here | apply Del.there)))) (by repeat (first | exact trivial | refine And.intro (by repeat (first | exact Mem.here | apply Mem.there)) ?_))
  · intro hfirst0
    refine Jc.seq ?_
    refine Jc.region ?_
    refine Jl.pv (PR.move rfl) ?_
    refine Jl.call htr en54 (by rfl) (by repeat (first | exact Take.nil | apply Take.cons (by repeat (first | exact Del.here | apply Del.there)))) (by repeat (first | exact trivial | refine And.intro (by repeat (first | exact Mem.here | apply Mem.there)) ?_)) ?_
    rintro ⟨⟨A9, c9⟩, ⟨B9, d9⟩⟩
    refine Jl.sealC (by repeat (first | exact Del.here | apply Del.there)) (fun hc9 => ?_)
    refine Jl.pv (PR.move rfl) ?_
    refine Jl.pv (PR.extract rfl (by rfl)) ?_
    refine Jl.pv (PR.extract rfl (by rfl)) ?_
    refine Jl.pv (PR.extract rfl (by rfl)) ?_
    refine Jl.pv (PR.assign rfl) ?_
    refine Jl.pv (PR.assign rfl) ?_
    refine Jl.pv (PR.assign rfl) ?_
    refine Jl.nil ?_
    refine Jq.thenN ?_
    refine Jc.seq ?_
    refine Jc.seq ?_
    refine Jc.region ?_
    refine Jl.pv (PR.move rfl) ?_
    refine Jl.pv (PR.neq _ rfl rfl rfl) ?_
    refine Jl.pv (PR.move rfl) ?_
    refine Jl.bsplit (fun g15 => ?_) (fun g15 => ?_)
    · try replace g15 := of_decide_eq_true g15
      have hbad : rcGood (takeRowN b) = false := by rw [hgd, decide_eq_false (by omega)]; rfl
      refine Jl.offS rfl rfl rfl ?_
      refine Jl.offS rfl rfl rfl ?_
      refine Jl.offS rfl rfl rfl ?_
      refine Jl.pv (PR.pickT rfl rfl) ?_
      refine Jl.pv (PR.move rfl) ?_
      refine Jl.offS rfl rfl rfl ?_
      refine Jl.offS rfl rfl rfl ?_
      refine Jl.offS rfl rfl rfl ?_
      refine Jl.pv (PR.pickT rfl rfl) ?_
      refine Jl.pv (PR.move rfl) ?_
      refine Jl.offS rfl rfl rfl ?_
      refine Jl.offS rfl rfl rfl ?_
      refine Jl.offS rfl rfl rfl ?_
      refine Jl.offS rfl rfl rfl ?_
      refine Jl.pv (PR.pickT rfl rfl) ?_
      refine Jl.nil ?_
      refine Jq.thenN ?_
      refine Jc.condT rfl ?_
      refine Jc.goto ?_
      refine Jq.thenG ?_
      refine Jq.lessR (rs := [.blk b2 43 (Rc.zero.cs (none, 0))]) (by repeat (first | exact Take.nil | apply Take.cons (by repeat (first | exact Del.here | apply Del.there)))) ?_
      exact Jq.jmpA (⟨(), hbad⟩, Rc.zero, (none, 0)) (by repeat (first | exact trivial | refine And.intro rfl ?_)) rfl trivial
    · try replace g15 := of_decide_eq_false g15
      refine Jl.on rfl rfl ?_
      refine Jl.pv (PR.move rfl) ?_
      refine Jl.on rfl rfl ?_
      refine Jl.pv (PR.len rfl tsl22) ?_
      refine Jl.on rfl rfl ?_
      refine Jl.pv (PR.gtr _ rfl rfl rfl) ?_
      refine Jl.pv (PR.pickF rfl rfl) ?_
      refine Jl.pv (PR.move rfl) ?_
      refine Jl.bsplit (fun g20 => ?_) (fun g20 => ?_)
      · try replace g20 := of_decide_eq_true g20
        have hbad : rcGood (takeRowN b) = false := by rw [hgd, decide_eq_false (p := tr.length = 0) (by omega), Bool.and_false]; rfl
        refine Jl.offS rfl rfl rfl ?_
        refine Jl.offS rfl rfl rfl ?_
        refine Jl.offS rfl rfl rfl ?_
        refine Jl.pv (PR.pickT rfl rfl) ?_
        refine Jl.pv (PR.move rfl) ?_
        refine Jl.offS rfl rfl rfl ?_
        refine Jl.offS rfl rfl rfl ?_
        refine Jl.offS rfl rfl rfl ?_
        refine Jl.offS rfl rfl rfl ?_
        refine Jl.pv (PR.pickT rfl rfl) ?_
        refine Jl.nil ?_
        refine Jq.thenN ?_
        refine Jc.condT rfl ?_
        refine Jc.goto ?_
        refine Jq.thenG ?_
        refine Jq.lessR (rs := [.blk b2 43 (Rc.zero.cs (none, 0))]) (by repeat (first | exact Take.nil | apply Take.cons (by repeat (first | exact Del.here | apply Del.there)))) ?_
        exact Jq.jmpA (⟨(), hbad⟩, Rc.zero, (none, 0)) (by repeat (first | exact trivial | refine And.intro rfl ?_)) rfl trivial
      · try replace g20 := of_decide_eq_false g20
        refine Jl.on rfl rfl ?_
        refine Jl.pv (PR.move rfl) ?_
        refine Jl.on rfl rfl ?_
        refine Jl.pv (PR.len rfl tsl41) ?_
        refine Jl.on rfl rfl ?_
        refine Jl.pv (PR.eql _ rfl rfl rfl) ?_
        refine Jl.pv (PR.pickF rfl rfl) ?_
        refine Jl.pv (PR.move rfl) ?_
        refine Jl.bsplit (fun g25 => ?_) (fun g25 => ?_)
        · try replace g25 := of_decide_eq_true g25
          have hbad : rcGood (takeRowN b) = false := by rw [hgd, decide_eq_false (p := 0 < tl.length) (by omega), Bool.false_and, Bool.false_and, Bool.and_false]
          refine Jl.offS rfl rfl rfl ?_
          refine Jl.offS rfl rfl rfl ?_
          refine Jl.offS rfl rfl rfl ?_
          refine Jl.offS rfl rfl rfl ?_
          refine Jl.pv (PR.pickT rfl rfl) ?_
          refine Jl.nil ?_
          refine Jq.thenN ?_
          refine Jc.condT rfl ?_
          refine Jc.goto ?_
          refine Jq.thenG ?_
          refine Jq.lessR (rs := [.blk b2 43 (Rc.zero.cs (none, 0))]) (by repeat (first | exact Take.nil | apply Take.cons (by repeat (first | exact Del.here | apply Del.there)))) ?_
          exact Jq.jmpA (⟨(), hbad⟩, Rc.zero, (none, 0)) (by repeat (first | exact trivial | refine And.intro rfl ?_)) rfl trivial
        · try replace g25 := of_decide_eq_false g25
          have hlt : 0 < tl.length := by omega
          refine Jl.on rfl rfl ?_
          refine Jl.pv (PR.move rfl) ?_
          refine Jl.on rfl rfl ?_
          refine Jl.pv (PR.idx1 0 rfl rfl tsl41 (by repeat (first | exact Mem.here | apply Mem.there)) (by simp [natI]) rfl hlt) ?_
          refine Jl.on rfl rfl ?_
          refine Jl.pv (PR.loadR rfl tsh3 (by repeat (first | exact Mem.here | apply Mem.there)) (natI_at hlt)) ?_
          refine Jl.on rfl rfl ?_
          refine Jl.pv (PR.geq _ rfl rfl rfl) ?_
          refine Jl.pv (PR.pickF rfl rfl) ?_
          refine Jl.nil ?_
          refine Jq.thenN ?_
          refine Jc.cond rfl (fun h0 => ?_) (fun h0 => ?_)
          · try replace h0 := of_decide_eq_true h0
            have hbad : rcGood (takeRowN b) = false := by rw [hgd, decide_eq_false (p := tl.getD 0 0 < 17) (by omega), Bool.and_false, Bool.false_and, Bool.and_false]
            refine Jc.goto ?_
            refine Jq.thenG ?_
            refine Jq.lessR (rs := [.blk b2 43 (Rc.zero.cs (none, 0))]) (by repeat (first | exact Take.nil | apply Take.cons (by repeat (first | exact Del.here | apply Del.there)))) ?_
            exact Jq.jmpA (⟨(), hbad⟩, Rc.zero, (none, 0)) (by repeat (first | exact trivial | refine And.intro rfl ?_)) rfl trivial
          · try replace h0 := of_decide_eq_false h0
            have h17 : tl.getD 0 0 < 17 := by omega
            have hgd2 : rcGood (takeRowN b) = (rcRaw tl).ok := by rw [hgd, decide_eq_true (by omega), decide_eq_true (p := tr.length = 0) (by omega), decide_eq_true hlt, decide_eq_true h17]; rfl
            refine Jc.skip ?_
            refine Jq.thenN ?_
            refine Jc.seq ?_
            refine Jc.seq ?_
            refine Jc.drawn [0, 1, 3, 7, 0, 16, 63, 127] ([], []) [⟨[(0, false), (1, false), (2, false), (3, false), (4, false), (5, false)], [], 6⟩, ⟨[], [], 7⟩] tmx (by kernel_rfl) ?_
            refine Dh.JH.cons ?_
            refine Dh.JB.pv rfl trivial (fun _ => PR.move rfl) ?_
            refine Dh.JB.pv rfl trivial (fun _ => PR.idx1 0 rfl rfl tsl41 (by repeat (first | exact Mem.here | apply Mem.there)) (by simp [natI]) rfl hlt) ?_
            refine Dh.JB.pv rfl trivial (fun _ => PR.loadR rfl tsh3 (by repeat (first | exact Mem.here | apply Mem.there)) (natI_at hlt)) ?_
            refine Dh.JB.pv rfl trivial (fun _ => PR.conv (((UInt8.ofNat (tl.getD 0 0)).toNat : Nat) : Int) rfl Tryd.underlying3 Tryd.underlying5 (by rw [IntKind.wrap_u8, u8_of (by omega)]; omega)) ?_
            refine Dh.JB.pv rfl trivial (fun _ => PR.move rfl) ?_
            refine Dh.JB.slice 1 tl.length (((tl.drop 1).map Int.ofNat).length) (i64s ((tl.drop 1).map Int.ofNat)) rfl trivial rfl tsl41 rfl rfl (by repeat (first | exact Mem.here | apply Mem.there)) (by omega) (Nat.le_refl _) hc9 (by simp) (natI_drop tl) ?_
            intro A36 c36 hc36
            clear hc36
            refine Dh.JB.nil ?_
            refine Dh.JL.nil ?_
            refine Dh.JE.mk rfl (fun _ h => by cases h) (fun C3_6 => ?_)
            refine Jl.call (of_ct (UInt8.ofNat (tl.getD 0 0)) A36 c36 ((tl.drop 1).map Int.ofNat) (by simp; omega)) en55 (by rfl) (by repeat (first | exact Take.nil | apply Take.cons (by repeat (first | exact Del.here | apply Del.there)))) (by repeat (first | exact trivial | refine And.intro (by repeat (first | exact Mem.here | apply Mem.there)) ?_)) ?_
            rintro ⟨A37, c37⟩
            refine Jl.nil ?_
            refine Dh.Jq.segV (by repeat (first | exact Dh.FExt.refl | apply Dh.FExt.cons | apply Dh.FExt.app)) ?_ (by repeat (first | exact Dh.KeepL.nil | apply Dh.KeepL.anc (by rfl) | apply Dh.KeepL.keep (by repeat (first | exact Take.nil | apply Take.cons (by repeat (first | exact Del.here | apply Del.there))))))
            refine Dh.JH.cons ?_
            refine Dh.JB.nil ?_
            refine Dh.JL.nil ?_
            refine Dh.JE.mk rfl (fun _ h => by cases h) (fun C3_7 => ?_)
            refine Jl.storeW rfl tsh43 rfl (by rfl) (by first | exact rc_one _ _ | simp [Value.oneCell']) (by repeat (first | exact Swap.here | apply Swap.there)) (by rfl) ?_
            refine Jl.nil ?_
            refine Dh.Jq.segN (by repeat (first | exact Dh.FExt.refl | apply Dh.FExt.cons | apply Dh.FExt.app)) ?_ (by repeat (first | exact Dh.KeepL.nil | apply Dh.KeepL.anc (by rfl) | apply Dh.KeepL.keep (by repeat (first | exact Take.nil | apply Take.cons (by repeat (first | exact Del.here | apply Del.there))))))
            refine Dh.JH.nil ?_
            refine Dh.JB.nil ?_
            refine Dh.JL.nil ?_
            refine Jq.thenN ?_
            refine Jc.seq ?_
            refine Jc.region ?_
            refine Jl.pv (PR.loadW rfl tsh43 (by repeat (first | exact Has.here | apply Has.there)) (by rfl)) ?_
            refine Jl.calll (fs := []) (cs := []) (right_ct (rcRaw tl) (A37, c37) m (by simp [rcRaw]; omega)) en56 rfl (by rfl) (by rfl) (by repeat (first | exact Take.nil | apply Take.cons (by repeat (first | exact Del.here | apply Del.there)))) (ls := [(rcRaw tl).row (A37, c37)]) (by repeat (first | exact Take.nil | apply Take.cons (by repeat (first | exact Del.here | apply Del.there)))) (by repeat (first | exact Lends.nil | apply Lends.row | apply Lends.blk)) (by repeat (first | exact trivial | refine And.intro (by repeat (first | exact Mem.here | apply Mem.there)) ?_)) ?_
            rintro ⟨⟩
            refine Jl.nil ?_
            refine Jq.thenN ?_
            refine Jc.cond rfl (fun h1 => ?_) (fun h1 => ?_)
            · try replace h1 := of_decide_eq_true h1
              refine Jc.seq ?_
              refine Jc.region ?_
              refine Jl.pv (PR.loadW rfl tsh43 (by repeat (first | exact Has.here | apply Has.there)) (by rfl)) ?_
              refine Jl.storeW rfl tsh43 rfl (by rfl) (by first | exact rc_one _ _ | simp [Value.oneCell']) (by repeat (first | exact Swap.here | apply Swap.there)) (by rfl) ?_
              refine Jl.pv (PR.assign rfl) ?_
              refine Jl.nil ?_
              refine Jq.thenN ?_
              refine Jc.ret ?_
              refine Jq.thenR ?_
              refine Jq.jmpR ?_
              rw [(hye (hgd2.trans h1)).1, (hye (hgd2.trans h1)).2]
              exact Jq.fin (A37, c37) (.inl rfl) rfl (RetVs.cellA rfl (by repeat (first | exact Has.here | apply Has.there)) tsh43 (by rfl) (RetVs.tmp rfl RetVs.nil)) rfl (by repeat (first | exact Take.nil | apply Take.cons (by repeat (first | exact Del.here | apply Del.there)))) (by repeat (first | exact trivial | refine And.intro (by repeat (first | exact Mem.here | apply Mem.there)) ?_))
            · try replace h1 := of_decide_eq_false h1
              refine Jc.skip ?_
              refine Jq.thenN ?_
              refine Jc.seq ?_
              refine Jc.label ?_
              refine Jq.thenN ?_
              refine Jc.lessR (rs := [.blk b2 43 ((rcRaw tl).cs (A37, c37))]) (by repeat (first | exact Take.nil | apply Take.cons (by repeat (first | exact Del.here | apply Del.there)))) ?_
              exact Jc.at_ hfirst0 (⟨(), hgd2.trans h1⟩, rcRaw tl, (A37, c37)) (by repeat (first | exact trivial | refine And.intro rfl ?_)) rfl trivial
end Go.Proofs.YtcohgnagffibcaaDoor
namespace Go.Proofs.YtcohgnagffibcaaDoor
set_option linter.unusedVariables false
open Go.RowKit
attribute [local irreducible] Res.blk Res.row Fact.rd
abbrev strV (l : List UInt8) : Value := .string ⟨l.toArray⟩
/-- The table of names. -/
def okAll (zs : Rcs) : Bool := zs.all fun z => z.2.ok
theorem okAll_any (zs : Rcs) : (!zs.any fun z => !z.2.ok) = okAll zs := by
  induction zs with
  | nil => rfl
  | cons z zs ih => simp only [okAll, List.any_cons, List.all_cons, Bool.not_or, Bool.not_not] at ih ⊢; rw [ih]
end Go.Proofs.YtcohgnagffibcaaDoor
namespace Go.Proofs.YtcohgnagffibcaaDoor
set_option linter.unusedVariables false
open Go.RowKit
attribute [local irreducible] Res.blk Res.row Fact.rd
def rlo (k : Nat) : Int := if 1 ≤ k ∧ k < 17 then ((bndAt k).1 : Int) else -1
def rhi (k : Nat) : Int := if 1 ≤ k ∧ k < 17 then ((bndAt k).2 : Int) else -1

theorem rmany0_ct : Ct Tryd.prog 37 [.int .u8 ((0 : Nat) : Int)] [] [] (fun _ : Unit => .tuple #[.int .i64 (rlo 0), .int .i64 (rhi 0)]) (fun _ => []) (fun _ => []) := by
  refine Ct.of _ Tryd.func37 Tryd.ntmps37 rfl rfl (fun X W => ?_)
  refine Jc.seq ?_
  refine Jc.region ?_
  refine Jl.pv (PR.assign rfl) ?_
  refine Jl.pv (PR.assign rfl) ?_
  refine Jl.nil ?_
  refine Jq.thenN ?_
  refine Jc.seq ?_
  refine Jc.seq ?_
  refine Jc.region ?_
  refine Jl.pv (PR.move rfl) ?_
  refine Jl.nil ?_
  refine Jq.thenN ?_
  refine Jc.block ?_
  refine Jc.seq ?_
  refine Jc.region ?_
  refine Jl.pv (PR.eql false rfl rfl rfl) ?_
  refine Jl.pv (PR.assign rfl) ?_
  refine Jl.nil ?_
  refine Jq.thenN ?_
  refine Jc.condF rfl ?_
  refine Jc.seq ?_
  refine Jc.seq ?_
  refine Jc.region ?_
  refine Jl.pv (PR.eql false rfl rfl rfl) ?_
  refine Jl.pv (PR.assign rfl) ?_
  refine Jl.nil ?_
  refine Jq.thenN ?_
  refine Jc.condF rfl ?_
  refine Jc.seq ?_
  refine Jc.region ?_
  refine Jl.pv (PR.eql false rfl rfl rfl) ?_
  refine Jl.pv (PR.assign rfl) ?_
  refine Jl.nil ?_
  refine Jq.thenN ?_
  refine Jc.condF rfl ?_
  refine Jc.seq ?_
  refine Jc.region ?_
  refine Jl.pv (PR.eql false rfl rfl rfl) ?_
  refine Jl.pv (PR.assign rfl) ?_
  refine Jl.nil ?_
  refine Jq.thenN ?_
  refine Jc.condF rfl ?_
  refine Jc.seq ?_
  refine Jc.region ?_
  refine Jl.pv (PR.eql false rfl rfl rfl) ?_
  refine Jl.pv (PR.assign rfl) ?_
  refine Jl.nil ?_
  refine Jq.thenN ?_
  refine Jc.condF rfl ?_
  refine Jc.region ?_
  refine Jl.pv (PR.eql false rfl rfl rfl) ?_
  refine Jl.pv (PR.assign rfl) ?_
  refine Jl.nil ?_
  refine Jq.thenN ?_
  refine Jc.condF rfl ?_
  refine Jc.seq ?_
  refine Jc.seq ?_
  refine Jc.region ?_
  refine Jl.pv (PR.eql false rfl rfl rfl) ?_
  refine Jl.pv (PR.assign rfl) ?_
  refine Jl.nil ?_
  refine Jq.thenN ?_
  refine Jc.condF rfl ?_
  refine Jc.seq ?_
  refine Jc.region ?_
  refine Jl.pv (PR.eql false rfl rfl rfl) ?_
  refine Jl.pv (PR.assign rfl) ?_
  refine Jl.nil ?_
  refine Jq.thenN ?_
  refine Jc.condF rfl ?_
  refine Jc.seq ?_
  refine Jc.region ?_
  refine Jl.pv (PR.eql false rfl rfl rfl) ?_
  refine Jl.pv (PR.assign rfl) ?_
  refine Jl.nil ?_
  refine Jq.thenN ?_
  refine Jc.condF rfl ?_
  refine Jc.region ?_
  refine Jl.pv (PR.eql false rfl rfl rfl) ?_
  refine Jl.pv (PR.assign rfl) ?_
  refine Jl.nil ?_
  refine Jq.thenN ?_
  refine Jc.condF rfl ?_
  refine Jc.seq ?_
  refine Jc.seq ?_
  refine Jc.region ?_
  refine Jl.pv (PR.eql false rfl rfl rfl) ?_
  refine Jl.pv (PR.assign rfl) ?_
  refine Jl.nil ?_
  refine Jq.thenN ?_
  refine Jc.condF rfl ?_
  refine Jc.region ?_
  refine Jl.pv (PR.eql false rfl rfl rfl) ?_
  refine Jl.pv (PR.assign rfl) ?_
  refine Jl.nil ?_
  refine Jq.thenN ?_
  refine Jc.condF rfl ?_
  refine Jc.seq ?_
  refine Jc.seq ?_
  refine Jc.region ?_
  refine Jl.pv (PR.eql false rfl rfl rfl) ?_
  refine Jl.pv (PR.assign rfl) ?_
  refine Jl.nil ?_
  refine Jq.thenN ?_
  refine Jc.condF rfl ?_
  refine Jc.seq ?_
  refine Jc.region ?_
  refine Jl.pv (PR.eql false rfl rfl rfl) ?_
  refine Jl.pv (PR.assign rfl) ?_
  refine Jl.nil ?_
  refine Jq.thenN ?_
  refine Jc.condF rfl ?_
  refine Jc.region ?_
  refine Jl.pv (PR.eql false rfl rfl rfl) ?_
  refine Jl.pv (PR.assign rfl) ?_
  refine Jl.nil ?_
  refine Jq.thenN ?_
  refine Jc.condF rfl ?_
  refine Jc.seq ?_
  refine Jc.region ?_
  refine Jl.pv (PR.eql false rfl rfl rfl) ?_
  refine Jl.pv (PR.assign rfl) ?_
  refine Jl.nil ?_
  refine Jq.thenN ?_
  refine Jc.condF rfl ?_
  refine Jc.skip ?_
  refine Jq.blkN ?_
  refine Jq.thenN ?_
  refine Jc.seq ?_
  refine Jc.region ?_
  refine Jl.pv (PR.assign rfl) ?_
  refine Jl.pv (PR.assign rfl) ?_
  refine Jl.nil ?_
  refine Jq.thenN ?_
  refine Jc.ret ?_
  exact Jq.fin () (.inl rfl) rfl (RetVs.tmp rfl (RetVs.tmp rfl RetVs.nil)) rfl (by repeat (first | exact Take.nil | apply Take.cons (by repeat (first | exact Del.here | apply Del.there)))) (by repeat (first | exact trivial | refine And.intro (by repeat (first | exact Mem.here | apply Mem.there)) ?_))
theorem rmany1_ct : Ct Tryd.prog 37 [.int .u8 ((1 : Nat) : Int)] [] [] (fun _ : Unit => .tuple #[.int .i64 (rlo 1), .int .i64 (rhi 1)]) (fun _ => []) (fun _ => []) := by
  refine Ct.of _ Tryd.func37 Tryd.ntmps37 rfl rfl (fun X W => ?_)
  refine Jc.seq ?_
  refine Jc.region ?_
  refine Jl.pv (PR.assign rfl) ?_
  refine Jl.pv (PR.assign rfl) ?_
  refine Jl.nil ?_
  refine Jq.thenN ?_
  refine Jc.seq ?_
  refine Jc.seq ?_
  refine Jc.region ?_
  refine Jl.pv (PR.move rfl) ?_
  refine Jl.nil ?_
  refine Jq.thenN ?_
  refine Jc.block ?_
  refine Jc.seq ?_
  refine Jc.region ?_
  refine Jl.pv (PR.eql false rfl rfl rfl) ?_
  refine Jl.pv (PR.assign rfl) ?_
  refine Jl.nil ?_
  refine Jq.thenN ?_
  refine Jc.condF rfl ?_
  refine Jc.seq ?_
  refine Jc.seq ?_
  refine Jc.region ?_
  refine Jl.pv (PR.eql true rfl rfl rfl) ?_
  refine Jl.pv (PR.assign rfl) ?_
  refine Jl.nil ?_
  refine Jq.thenN ?_
  refine Jc.condT rfl ?_
  refine Jc.skip ?_
  refine Jq.thenN ?_
  refine Jc.condT rfl ?_
  refine Jc.seq ?_
  refine Jc.region ?_
  refine Jl.pv (PR.assign rfl) ?_
  refine Jl.pv (PR.assign rfl) ?_
  refine Jl.nil ?_
  refine Jq.thenN ?_
  refine Jc.ret ?_
  refine Jq.blkR ?_
  refine Jq.thenR ?_
  exact Jq.fin () (.inl rfl) rfl (RetVs.tmp rfl (RetVs.tmp rfl RetVs.nil)) rfl (by repeat (first | exact Take.nil | apply Take.cons (by repeat (first | exact Del.here | apply Del.there)))) (by repeat (first | exact trivial | refine And.intro (by repeat (first | exact Mem.here | apply Mem.there)) ?_))
  -- hint not used: k9
  -- hint not used: k10
  -- hint not used: k11
  -- hint not used: k12
  -- hint not used: k14
  -- hint not used: k15
  -- hint not used: k16
  -- hint not used: k17
  -- hint not used: k19
  -- hint not used: k20
  -- hint not used: k22
  -- hint not used: k23
  -- hint not used: k24
  -- hint not used: k26
theorem rmany2_ct : Ct Tryd.prog 37 [.int .u8 ((2 : Nat) : Int)] [] [] (fun _ : Unit => .tuple #[.int .i64 (rlo 2), .int .i64 (rhi 2)]) (fun _ => []) (fun _ => []) := by
  refine Ct.of _ Tryd.func37 Tryd.ntmps37 rfl rfl (fun X W => ?_)
  refine Jc.seq ?_
  refine Jc.region ?_
  refine Jl.pv (PR.assign rfl) ?_
  refine Jl.pv (PR.assign rfl) ?_
  refine Jl.nil ?_
  refine Jq.thenN ?_
  refine Jc.seq ?_
  refine Jc.seq ?_
  refine Jc.region ?_
  refine Jl.pv (PR.move rfl) ?_
  refine Jl.nil ?_
  refine Jq.thenN ?_
  refine Jc.block ?_
  refine Jc.seq ?_
  refine Jc.region ?_
  refine Jl.pv (PR.eql true rfl rfl rfl) ?_
  refine Jl.pv (PR.assign rfl) ?_
  refine Jl.nil ?_
  refine Jq.thenN ?_
  refine Jc.condT rfl ?_
  refine Jc.seq ?_
  refine Jc.region ?_
  refine Jl.pv (PR.assign rfl) ?_
  refine Jl.pv (PR.assign rfl) ?_
  refine Jl.nil ?_
  refine Jq.thenN ?_
  refine Jc.ret ?_
  refine Jq.blkR ?_
  refine Jq.thenR ?_
  exact Jq.fin () (.inl rfl) rfl (RetVs.tmp rfl (RetVs.tmp rfl RetVs.nil)) rfl (by repeat (first | exact Take.nil | apply Take.cons (by repeat (first | exact Del.here | apply Del.there)))) (by repeat (first | exact trivial | refine And.intro (by repeat (first | exact Mem.here | apply Mem.there)) ?_))
  -- hint not used: k8
  -- hint not used: k9
  -- hint not used: k10
  -- hint not used: k11
  -- hint not used: k12
  -- hint not used: k14
  -- hint not used: k15
  -- hint not used: k16
  -- hint not used: k17
  -- hint not used: k19
  -- hint not used: k20
  -- hint not used: k22
  -- hint not used: k23
  -- hint not used: k24
  -- hint not used: k26
theorem rmany3_ct : Ct Tryd.prog 37 [.int .u8 ((3 : Nat) : Int)] [] [] (fun _ : Unit => .tuple #[.int .i64 (rlo 3), .int .i64 (rhi 3)]) (fun _ => []) (fun _ => []) := by
  refine Ct.of _ Tryd.func37 Tryd.ntmps37 rfl rfl (fun X W => ?_)
  refine Jc.seq ?_
  refine Jc.region ?_
  refine Jl.pv (PR.assign rfl) ?_
  refine Jl.pv (PR.assign rfl) ?_
  refine Jl.nil ?_
  refine Jq.thenN ?_
  refine Jc.seq ?_
  refine Jc.seq ?_
  refine Jc.region ?_
  refine Jl.pv (PR.move rfl) ?_
  refine Jl.nil ?_
  refine Jq.thenN ?_
  refine Jc.block ?_
  refine Jc.seq ?_
  refine Jc.region ?_
  refine Jl.pv (PR.eql false rfl rfl rfl) ?_
  refine Jl.pv (PR.assign rfl) ?_
  refine Jl.nil ?_
  refine Jq.thenN ?_
  refine Jc.condF rfl ?_
  refine Jc.seq ?_
  refine Jc.seq ?_
  refine Jc.region ?_
  refine Jl.pv (PR.eql false rfl rfl rfl) ?_
  refine Jl.pv (PR.assign rfl) ?_
  refine Jl.nil ?_
  refine Jq.thenN ?_
  refine Jc.condF rfl ?_
  refine Jc.seq ?_
  refine Jc.region ?_
  refine Jl.pv (PR.eql false rfl rfl rfl) ?_
  refine Jl.pv (PR.assign rfl) ?_
  refine Jl.nil ?_
  refine Jq.thenN ?_
  refine Jc.condF rfl ?_
  refine Jc.seq ?_
  refine Jc.region ?_
  refine Jl.pv (PR.eql false rfl rfl rfl) ?_
  refine Jl.pv (PR.assign rfl) ?_
  refine Jl.nil ?_
  refine Jq.thenN ?_
  refine Jc.condF rfl ?_
  refine Jc.seq ?_
  refine Jc.region ?_
  refine Jl.pv (PR.eql false rfl rfl rfl) ?_
  refine Jl.pv (PR.assign rfl) ?_
  refine Jl.nil ?_
  refine Jq.thenN ?_
  refine Jc.condF rfl ?_
  refine Jc.region ?_
  refine Jl.pv (PR.eql false rfl rfl rfl) ?_
  refine Jl.pv (PR.assign rfl) ?_
  refine Jl.nil ?_
  refine Jq.thenN ?_
  refine Jc.condF rfl ?_
  refine Jc.seq ?_
  refine Jc.seq ?_
  refine Jc.region ?_
  refine Jl.pv (PR.eql false rfl rfl rfl) ?_
  refine Jl.pv (PR.assign rfl) ?_
  refine Jl.nil ?_
  refine Jq.thenN ?_
  refine Jc.condF rfl ?_
  refine Jc.seq ?_
  refine Jc.region ?_
  refine Jl.pv (PR.eql false rfl rfl rfl) ?_
  refine Jl.pv (PR.assign rfl) ?_
  refine Jl.nil ?_
  refine Jq.thenN ?_
  refine Jc.condF rfl ?_
  refine Jc.seq ?_
  refine Jc.region ?_
  refine Jl.pv (PR.eql false rfl rfl rfl) ?_
  refine Jl.pv (PR.assign rfl) ?_
  refine Jl.nil ?_
  refine Jq.thenN ?_
  refine Jc.condF rfl ?_
  refine Jc.region ?_
  refine Jl.pv (PR.eql false rfl rfl rfl) ?_
  refine Jl.pv (PR.assign rfl) ?_
  refine Jl.nil ?_
  refine Jq.thenN ?_
  refine Jc.condF rfl ?_
  refine Jc.seq ?_
  refine Jc.seq ?_
  refine Jc.region ?_
  refine Jl.pv (PR.eql false rfl rfl rfl) ?_
  refine Jl.pv (PR.assign rfl) ?_
  refine Jl.nil ?_
  refine Jq.thenN ?_
  refine Jc.condF rfl ?_
  refine Jc.region ?_
  refine Jl.pv (PR.eql false rfl rfl rfl) ?_
  refine Jl.pv (PR.assign rfl) ?_
  refine Jl.nil ?_
  refine Jq.thenN ?_
  refine Jc.condF rfl ?_
  refine Jc.seq ?_
  refine Jc.seq ?_
  refine Jc.region ?_
  refine Jl.pv (PR.eql true rfl rfl rfl) ?_
  refine Jl.pv (PR.assign rfl) ?_
  refine Jl.nil ?_
  refine Jq.thenN ?_
  refine Jc.condT rfl ?_
  refine Jc.skip ?_
  refine Jq.thenN ?_
  refine Jc.condT rfl ?_
  refine Jc.seq ?_
  refine Jc.region ?_
  refine Jl.pv (PR.assign rfl) ?_
  refine Jl.pv (PR.assign rfl) ?_
  refine Jl.nil ?_
  refine Jq.thenN ?_
  refine Jc.ret ?_
  refine Jq.blkR ?_
  refine Jq.thenR ?_
  exact Jq.fin () (.inl rfl) rfl (RetVs.tmp rfl (RetVs.tmp rfl RetVs.nil)) rfl (by repeat (first | exact Take.nil | apply Take.cons (by repeat (first | exact Del.here | apply Del.there)))) (by repeat (first | exact trivial | refine And.intro (by repeat (first | exact Mem.here | apply Mem.there)) ?_))
  -- hint not used: k23
  -- hint not used: k24
  -- hint not used: k26
theorem rmany4_ct : Ct Tryd.prog 37 [.int .u8 ((4 : Nat) : Int)] [] [] (fun _ : Unit => .tuple #[.int .i64 (rlo 4), .int .i64 (rhi 4)]) (fun _ => []) (fun _ => []) := by
  refine Ct.of _ Tryd.func37 Tryd.ntmps37 rfl rfl (fun X W => ?_)
  refine Jc.seq ?_
  refine Jc.region ?_
  refine Jl.pv (PR.assign rfl) ?_
  refine Jl.pv (PR.assign rfl) ?_
  refine Jl.nil ?_
  refine Jq.thenN ?_
  refine Jc.seq ?_
  refine Jc.seq ?_
  refine Jc.region ?_
  refine Jl.pv (PR.move rfl) ?_
  refine Jl.nil ?_
  refine Jq.thenN ?_
  refine Jc.block ?_
  refine Jc.seq ?_
  refine Jc.region ?_
  refine Jl.pv (PR.eql false rfl rfl rfl) ?_
  refine Jl.pv (PR.assign rfl) ?_
  refine Jl.nil ?_
  refine Jq.thenN ?_
  refine Jc.condF rfl ?_
  refine Jc.seq ?_
  refine Jc.seq ?_
  refine Jc.region ?_
  refine Jl.pv (PR.eql false rfl rfl rfl) ?_
  refine Jl.pv (PR.assign rfl) ?_
  refine Jl.nil ?_
  refine Jq.thenN ?_
  refine Jc.condF rfl ?_
  refine Jc.seq ?_
  refine Jc.region ?_
  refine Jl.pv (PR.eql false rfl rfl rfl) ?_
  refine Jl.pv (PR.assign rfl) ?_
  refine Jl.nil ?_
  refine Jq.thenN ?_
  refine Jc.condF rfl ?_
  refine Jc.seq ?_
  refine Jc.region ?_
  refine Jl.pv (PR.eql false rfl rfl rfl) ?_
  refine Jl.pv (PR.assign rfl) ?_
  refine Jl.nil ?_
  refine Jq.thenN ?_
  refine Jc.condF rfl ?_
  refine Jc.seq ?_
  refine Jc.region ?_
  refine Jl.pv (PR.eql false rfl rfl rfl) ?_
  refine Jl.pv (PR.assign rfl) ?_
  refine Jl.nil ?_
  refine Jq.thenN ?_
  refine Jc.condF rfl ?_
  refine Jc.region ?_
  refine Jl.pv (PR.eql false rfl rfl rfl) ?_
  refine Jl.pv (PR.assign rfl) ?_
  refine Jl.nil ?_
  refine Jq.thenN ?_
  refine Jc.condF rfl ?_
  refine Jc.seq ?_
  refine Jc.seq ?_
  refine Jc.region ?_
  refine Jl.pv (PR.eql false rfl rfl rfl) ?_
  refine Jl.pv (PR.assign rfl) ?_
  refine Jl.nil ?_
  refine Jq.thenN ?_
  refine Jc.condF rfl ?_
  refine Jc.seq ?_
  refine Jc.region ?_
  refine Jl.pv (PR.eql false rfl rfl rfl) ?_
  refine Jl.pv (PR.assign rfl) ?_
  refine Jl.nil ?_
  refine Jq.thenN ?_
  refine Jc.condF rfl ?_
  refine Jc.seq ?_
  refine Jc.region ?_
  refine Jl.pv (PR.eql false rfl rfl rfl) ?_
  refine Jl.pv (PR.assign rfl) ?_
  refine Jl.nil ?_
  refine Jq.thenN ?_
  refine Jc.condF rfl ?_
  refine Jc.region ?_
  refine Jl.pv (PR.eql false rfl rfl rfl) ?_
  refine Jl.pv (PR.assign rfl) ?_
  refine Jl.nil ?_
  refine Jq.thenN ?_
  refine Jc.condF rfl ?_
  refine Jc.seq ?_
  refine Jc.seq ?_
  refine Jc.region ?_
  refine Jl.pv (PR.eql false rfl rfl rfl) ?_
  refine Jl.pv (PR.assign rfl) ?_
  refine Jl.nil ?_
  refine Jq.thenN ?_
  refine Jc.condF rfl ?_
  refine Jc.region ?_
  refine Jl.pv (PR.eql false rfl rfl rfl) ?_
  refine Jl.pv (PR.assign rfl) ?_
  refine Jl.nil ?_
  refine Jq.thenN ?_
  refine Jc.condF rfl ?_
  refine Jc.seq ?_
  refine Jc.seq ?_
  refine Jc.region ?_
  refine Jl.pv (PR.eql false rfl rfl rfl) ?_
  refine Jl.pv (PR.assign rfl) ?_
  refine Jl.nil ?_
  refine Jq.thenN ?_
  refine Jc.condF rfl ?_
  refine Jc.seq ?_
  refine Jc.region ?_
  refine Jl.pv (PR.eql true rfl rfl rfl) ?_
  refine Jl.pv (PR.assign rfl) ?_
  refine Jl.nil ?_
  refine Jq.thenN ?_
  refine Jc.condT rfl ?_
  refine Jc.skip ?_
  refine Jq.thenN ?_
  refine Jc.condT rfl ?_
  refine Jc.seq ?_
  refine Jc.region ?_
  refine Jl.pv (PR.assign rfl) ?_
  refine Jl.pv (PR.assign rfl) ?_
  refine Jl.nil ?_
  refine Jq.thenN ?_
  refine Jc.ret ?_
  refine Jq.blkR ?_
  refine Jq.thenR ?_
  exact Jq.fin () (.inl rfl) rfl (RetVs.tmp rfl (RetVs.tmp rfl RetVs.nil)) rfl (by repeat (first | exact Take.nil | apply Take.cons (by repeat (first | exact Del.here | apply Del.there)))) (by repeat (first | exact trivial | refine And.intro (by repeat (first | exact Mem.here | apply Mem.there)) ?_))
  -- hint not used: k24
  -- hint not used: k26
theorem rmany5_ct : Ct Tryd.prog 37 [.int .u8 ((5 : Nat) : Int)] [] [] (fun _ : Unit => .tuple #[.int .i64 (rlo 5), .int .i64 (rhi 5)]) (fun _ => []) (fun _ => []) := by
  refine Ct.of _ Tryd.func37 Tryd.ntmps37 rfl rfl (fun X W => ?_)
  refine Jc.seq ?_
  refine Jc.region ?_
  refine Jl.pv (PR.assign rfl) ?_
  refine Jl.pv (PR.assign rfl) ?_
  refine Jl.nil ?_
  refine Jq.thenN ?_
  refine Jc.seq ?_
  refine Jc.seq ?_
  refine Jc.region ?_
  refine Jl.pv (PR.move rfl) ?_
  refine Jl.nil ?_
  refine Jq.thenN ?_
  refine Jc.block ?_
  refine Jc.seq ?_
  refine Jc.region ?_
  refine Jl.pv (PR.eql false rfl rfl rfl) ?_
  refine Jl.pv (PR.assign rfl) ?_
  refine Jl.nil ?_
  refine Jq.thenN ?_
  refine Jc.condF rfl ?_
  refine Jc.seq ?_
  refine Jc.seq ?_
  refine Jc.region ?_
  refine Jl.pv (PR.eql false rfl rfl rfl) ?_
  refine Jl.pv (PR.assign rfl) ?_
  refine Jl.nil ?_
  refine Jq.thenN ?_
  refine Jc.condF rfl ?_
  refine Jc.seq ?_
  refine Jc.region ?_
  refine Jl.pv (PR.eql false rfl rfl rfl) ?_
  refine Jl.pv (PR.assign rfl) ?_
  refine Jl.nil ?_
  refine Jq.thenN ?_
  refine Jc.condF rfl ?_
  refine Jc.seq ?_
  refine Jc.region ?_
  refine Jl.pv (PR.eql false rfl rfl rfl) ?_
  refine Jl.pv (PR.assign rfl) ?_
  refine Jl.nil ?_
  refine Jq.thenN ?_
  refine Jc.condF rfl ?_
  refine Jc.seq ?_
  refine Jc.region ?_
  refine Jl.pv (PR.eql false rfl rfl rfl) ?_
  refine Jl.pv (PR.assign rfl) ?_
  refine Jl.nil ?_
  refine Jq.thenN ?_
  refine Jc.condF rfl ?_
  refine Jc.region ?_
  refine Jl.pv (PR.eql false rfl rfl rfl) ?_
  refine Jl.pv (PR.assign rfl) ?_
  refine Jl.nil ?_
  refine Jq.thenN ?_
  refine Jc.condF rfl ?_
  refine Jc.seq ?_
  refine Jc.seq ?_
  refine Jc.region ?_
  refine Jl.pv (PR.eql true rfl rfl rfl) ?_
  refine Jl.pv (PR.assign rfl) ?_
  refine Jl.nil ?_
  refine Jq.thenN ?_
  refine Jc.condT rfl ?_
  refine Jc.skip ?_
  refine Jq.thenN ?_
  refine Jc.condT rfl ?_
  refine Jc.seq ?_
  refine Jc.region ?_
  refine Jl.pv (PR.assign rfl) ?_
  refine Jl.pv (PR.assign rfl) ?_
  refine Jl.nil ?_
  refine Jq.thenN ?_
  refine Jc.ret ?_
  refine Jq.blkR ?_
  refine Jq.thenR ?_
  exact Jq.fin () (.inl rfl) rfl (RetVs.tmp rfl (RetVs.tmp rfl RetVs.nil)) rfl (by repeat (first | exact Take.nil | apply Take.cons (by repeat (first | exact Del.here | apply Del.there)))) (by repeat (first | exact trivial | refine And.intro (by repeat (first | exact Mem.here | apply Mem.there)) ?_))
  -- hint not used: k15
  -- hint not used: k16
  -- hint not used: k17
  -- hint not used: k19
  -- hint not used: k20
  -- hint not used: k22
  -- hint not used: k23
  -- hint not used: k24
  -- hint not used: k26
theorem rmany6_ct : Ct Tryd.prog 37 [.int .u8 ((6 : Nat) : Int)] [] [] (fun _ : Unit => .tuple #[.int .i64 (rlo 6), .int .i64 (rhi 6)]) (fun _ => []) (fun _ => []) := by
  refine Ct.of _ Tryd.func37 Tryd.ntmps37 rfl rfl (fun X W => ?_)
  refine Jc.seq ?_
  refine Jc.region ?_
  refine Jl.pv (PR.assign rfl) ?_
  refine Jl.pv (PR.assign rfl) ?_
  refine Jl.nil ?_
  refine Jq.thenN ?_
  refine Jc.seq ?_
  refine Jc.seq ?_
  refine Jc.region ?_
  refine Jl.pv (PR.move rfl) ?_
  refine Jl.nil ?_
  refine Jq.thenN ?_
  refine Jc.block ?_
  refine Jc.seq ?_
  refine Jc.region ?_
  refine Jl.pv (PR.eql false rfl rfl rfl) ?_
  refine Jl.pv (PR.assign rfl) ?_
  refine Jl.nil ?_
  refine Jq.thenN ?_
  refine Jc.condF rfl ?_
  refine Jc.seq ?_
  refine Jc.seq ?_
  refine Jc.region ?_
  refine Jl.pv (PR.eql false rfl rfl rfl) ?_
  refine Jl.pv (PR.assign rfl) ?_
  refine Jl.nil ?_
  refine Jq.thenN ?_
  refine Jc.condF rfl ?_
  refine Jc.seq ?_
  refine Jc.region ?_
  refine Jl.pv (PR.eql false rfl rfl rfl) ?_
  refine Jl.pv (PR.assign rfl) ?_
  refine Jl.nil ?_
  refine Jq.thenN ?_
  refine Jc.condF rfl ?_
  refine Jc.seq ?_
  refine Jc.region ?_
  refine Jl.pv (PR.eql false rfl rfl rfl) ?_
  refine Jl.pv (PR.assign rfl) ?_
  refine Jl.nil ?_
  refine Jq.thenN ?_
  refine Jc.condF rfl ?_
  refine Jc.seq ?_
  refine Jc.region ?_
  refine Jl.pv (PR.eql false rfl rfl rfl) ?_
  refine Jl.pv (PR.assign rfl) ?_
  refine Jl.nil ?_
  refine Jq.thenN ?_
  refine Jc.condF rfl ?_
  refine Jc.region ?_
  refine Jl.pv (PR.eql false rfl rfl rfl) ?_
  refine Jl.pv (PR.assign rfl) ?_
  refine Jl.nil ?_
  refine Jq.thenN ?_
  refine Jc.condF rfl ?_
  refine Jc.seq ?_
  refine Jc.seq ?_
  refine Jc.region ?_
  refine Jl.pv (PR.eql false rfl rfl rfl) ?_
  refine Jl.pv (PR.assign rfl) ?_
  refine Jl.nil ?_
  refine Jq.thenN ?_
  refine Jc.condF rfl ?_
  refine Jc.seq ?_
  refine Jc.region ?_
  refine Jl.pv (PR.eql false rfl rfl rfl) ?_
  refine Jl.pv (PR.assign rfl) ?_
  refine Jl.nil ?_
  refine Jq.thenN ?_
  refine Jc.condF rfl ?_
  refine Jc.seq ?_
  refine Jc.region ?_
  refine Jl.pv (PR.eql false rfl rfl rfl) ?_
  refine Jl.pv (PR.assign rfl) ?_
  refine Jl.nil ?_
  refine Jq.thenN ?_
  refine Jc.condF rfl ?_
  refine Jc.region ?_
  refine Jl.pv (PR.eql false rfl rfl rfl) ?_
  refine Jl.pv (PR.assign rfl) ?_
  refine Jl.nil ?_
  refine Jq.thenN ?_
  refine Jc.condF rfl ?_
  refine Jc.seq ?_
  refine Jc.seq ?_
  refine Jc.region ?_
  refine Jl.pv (PR.eql false rfl rfl rfl) ?_
  refine Jl.pv (PR.assign rfl) ?_
  refine Jl.nil ?_
  refine Jq.thenN ?_
  refine Jc.condF rfl ?_
  refine Jc.region ?_
  refine Jl.pv (PR.eql false rfl rfl rfl) ?_
  refine Jl.pv (PR.assign rfl) ?_
  refine Jl.nil ?_
  refine Jq.thenN ?_
  refine Jc.condF rfl ?_
  refine Jc.seq ?_
  refine Jc.seq ?_
  refine Jc.region ?_
  refine Jl.pv (PR.eql false rfl rfl rfl) ?_
  refine Jl.pv (PR.assign rfl) ?_
  refine Jl.nil ?_
  refine Jq.thenN ?_
  refine Jc.condF rfl ?_
  refine Jc.seq ?_
  refine Jc.region ?_
  refine Jl.pv (PR.eql false rfl rfl rfl) ?_
  refine Jl.pv (PR.assign rfl) ?_
  refine Jl.nil ?_
  refine Jq.thenN ?_
  refine Jc.condF rfl ?_
  refine Jc.region ?_
  refine Jl.pv (PR.eql true rfl rfl rfl) ?_
  refine Jl.pv (PR.assign rfl) ?_
  refine Jl.nil ?_
  refine Jq.thenN ?_
  refine Jc.condT rfl ?_
  refine Jc.seq ?_
  refine Jc.region ?_
  refine Jl.pv (PR.assign rfl) ?_
  refine Jl.pv (PR.assign rfl) ?_
  refine Jl.nil ?_
  refine Jq.thenN ?_
  refine Jc.ret ?_
  refine Jq.blkR ?_
  refine Jq.thenR ?_
  exact Jq.fin () (.inl rfl) rfl (RetVs.tmp rfl (RetVs.tmp rfl RetVs.nil)) rfl (by repeat (first | exact Take.nil | apply Take.cons (by repeat (first | exact Del.here | apply Del.there)))) (by repeat (first | exact trivial | refine And.intro (by repeat (first | exact Mem.here | apply Mem.there)) ?_))
  -- hint not used: k26
theorem rmany7_ct : Ct Tryd.prog 37 [.int .u8 ((7 : Nat) : Int)] [] [] (fun _ : Unit => .tuple #[.int .i64 (rlo 7), .int .i64 (rhi 7)]) (fun _ => []) (fun _ => []) := by
  refine Ct.of _ Tryd.func37 Tryd.ntmps37 rfl rfl (fun X W => ?_)
  refine Jc.seq ?_
  refine Jc.region ?_
  refine Jl.pv (PR.assign rfl) ?_
  refine Jl.pv (PR.assign rfl) ?_
  refine Jl.nil ?_
  refine Jq.thenN ?_
  refine Jc.seq ?_
  refine Jc.seq ?_
  refine Jc.region ?_
  refine Jl.pv (PR.move rfl) ?_
  refine Jl.nil ?_
  refine Jq.thenN ?_
  refine Jc.block ?_
  refine Jc.seq ?_
  refine Jc.region ?_
  refine Jl.pv (PR.eql false rfl rfl rfl) ?_
  refine Jl.pv (PR.assign rfl) ?_
  refine Jl.nil ?_
  refine Jq.thenN ?_
  refine Jc.condF rfl ?_
  refine Jc.seq ?_
  refine Jc.seq ?_
  refine Jc.region ?_
  refine Jl.pv (PR.eql false rfl rfl rfl) ?_
  refine Jl.pv (PR.assign rfl) ?_
  refine Jl.nil ?_
  refine Jq.thenN ?_
  refine Jc.condF rfl ?_
  refine Jc.seq ?_
  refine Jc.region ?_
  refine Jl.pv (PR.eql false rfl rfl rfl) ?_
  refine Jl.pv (PR.assign rfl) ?_
  refine Jl.nil ?_
  refine Jq.thenN ?_
  refine Jc.condF rfl ?_
  refine Jc.seq ?_
  refine Jc.region ?_
  refine Jl.pv (PR.eql false rfl rfl rfl) ?_
  refine Jl.pv (PR.assign rfl) ?_
  refine Jl.nil ?_
  refine Jq.thenN ?_
  refine Jc.condF rfl ?_
  refine Jc.seq ?_
  refine Jc.region ?_
  refine Jl.pv (PR.eql false rfl rfl rfl) ?_
  refine Jl.pv (PR.assign rfl) ?_
  refine Jl.nil ?_
  refine Jq.thenN ?_
  refine Jc.condF rfl ?_
  refine Jc.region ?_
  refine Jl.pv (PR.eql false rfl rfl rfl) ?_
  refine Jl.pv (PR.assign rfl) ?_
  refine Jl.nil ?_
  refine Jq.thenN ?_
  refine Jc.condF rfl ?_
  refine Jc.seq ?_
  refine Jc.seq ?_
  refine Jc.region ?_
  refine Jl.pv (PR.eql false rfl rfl rfl) ?_
  refine Jl.pv (PR.assign rfl) ?_
  refine Jl.nil ?_
  refine Jq.thenN ?_
  refine Jc.condF rfl ?_
  refine Jc.seq ?_
  refine Jc.region ?_
  refine Jl.pv (PR.eql true rfl rfl rfl) ?_
  refine Jl.pv (PR.assign rfl) ?_
  refine Jl.nil ?_
  refine Jq.thenN ?_
  refine Jc.condT rfl ?_
  refine Jc.skip ?_
  refine Jq.thenN ?_
  refine Jc.condT rfl ?_
  refine Jc.seq ?_
  refine Jc.region ?_
  refine Jl.pv (PR.assign rfl) ?_
  refine Jl.pv (PR.assign rfl) ?_
  refine Jl.nil ?_
  refine Jq.thenN ?_
  refine Jc.ret ?_
  refine Jq.blkR ?_
  refine Jq.thenR ?_
  exact Jq.fin () (.inl rfl) rfl (RetVs.tmp rfl (RetVs.tmp rfl RetVs.nil)) rfl (by repeat (first | exact Take.nil | apply Take.cons (by repeat (first | exact Del.here | apply Del.there)))) (by repeat (first | exact trivial | refine And.intro (by repeat (first | exact Mem.here | apply Mem.there)) ?_))
  -- hint not used: k16
  -- hint not used: k17
  -- hint not used: k19
  -- hint not used: k20
  -- hint not used: k22
  -- hint not used: k23
  -- hint not used: k24
  -- hint not used: k26
theorem rmany8_ct : Ct Tryd.prog 37 [.int .u8 ((8 : Nat) : Int)] [] [] (fun _ : Unit => .tuple #[.int .i64 (rlo 8), .int .i64 (rhi 8)]) (fun _ => []) (fun _ => []) := by
  refine Ct.of _ Tryd.func37 Tryd.ntmps37 rfl rfl (fun X W => ?_)
  refine Jc.seq ?_
  refine Jc.region ?_
  refine Jl.pv (PR.assign rfl) ?_
  refine Jl.pv (PR.assign rfl) ?_
  refine Jl.nil ?_
  refine Jq.thenN ?_
  refine Jc.seq ?_
  refine Jc.seq ?_
  refine Jc.region ?_
  refine Jl.pv (PR.move rfl) ?_
  refine Jl.nil ?_
  refine Jq.thenN ?_
  refine Jc.block ?_
  refine Jc.seq ?_
  refine Jc.region ?_
  refine Jl.pv (PR.eql false rfl rfl rfl) ?_
  refine Jl.pv (PR.assign rfl) ?_
  refine Jl.nil ?_
  refine Jq.thenN ?_
  refine Jc.condF rfl ?_
  refine Jc.seq ?_
  refine Jc.seq ?_
  refine Jc.region ?_
  refine Jl.pv (PR.eql false rfl rfl rfl) ?_
  refine Jl.pv (PR.assign rfl) ?_
  refine Jl.nil ?_
  refine Jq.thenN ?_
  refine Jc.condF rfl ?_
  refine Jc.seq ?_
  refine Jc.region ?_
  refine Jl.pv (PR.eql false rfl rfl rfl) ?_
  refine Jl.pv (PR.assign rfl) ?_
  refine Jl.nil ?_
  refine Jq.thenN ?_
  refine Jc.condF rfl ?_
  refine Jc.seq ?_
  refine Jc.region ?_
  refine Jl.pv (PR.eql false rfl rfl rfl) ?_
  refine Jl.pv (PR.assign rfl) ?_
  refine Jl.nil ?_
  refine Jq.thenN ?_
  refine Jc.condF rfl ?_
  refine Jc.seq ?_
  refine Jc.region ?_
  refine Jl.pv (PR.eql false rfl rfl rfl) ?_
  refine Jl.pv (PR.assign rfl) ?_
  refine Jl.nil ?_
  refine Jq.thenN ?_
  refine Jc.condF rfl ?_
  refine Jc.region ?_
  refine Jl.pv (PR.eql false rfl rfl rfl) ?_
  refine Jl.pv (PR.assign rfl) ?_
  refine Jl.nil ?_
  refine Jq.thenN ?_
  refine Jc.condF rfl ?_
  refine Jc.seq ?_
  refine Jc.seq ?_
  refine Jc.region ?_
  refine Jl.pv (PR.eql false rfl rfl rfl) ?_
  refine Jl.pv (PR.assign rfl) ?_
  refine Jl.nil ?_
  refine Jq.thenN ?_
  refine Jc.condF rfl ?_
  refine Jc.seq ?_
  refine Jc.region ?_
  refine Jl.pv (PR.eql false rfl rfl rfl) ?_
  refine Jl.pv (PR.assign rfl) ?_
  refine Jl.nil ?_
  refine Jq.thenN ?_
  refine Jc.condF rfl ?_
  refine Jc.seq ?_
  refine Jc.region ?_
  refine Jl.pv (PR.eql false rfl rfl rfl) ?_
  refine Jl.pv (PR.assign rfl) ?_
  refine Jl.nil ?_
  refine Jq.thenN ?_
  refine Jc.condF rfl ?_
  refine Jc.region ?_
  refine Jl.pv (PR.eql false rfl rfl rfl) ?_
  refine Jl.pv (PR.assign rfl) ?_
  refine Jl.nil ?_
  refine Jq.thenN ?_
  refine Jc.condF rfl ?_
  refine Jc.seq ?_
  refine Jc.seq ?_
  refine Jc.region ?_
  refine Jl.pv (PR.eql false rfl rfl rfl) ?_
  refine Jl.pv (PR.assign rfl) ?_
  refine Jl.nil ?_
  refine Jq.thenN ?_
  refine Jc.condF rfl ?_
  refine Jc.region ?_
  refine Jl.pv (PR.eql false rfl rfl rfl) ?_
  refine Jl.pv (PR.assign rfl) ?_
  refine Jl.nil ?_
  refine Jq.thenN ?_
  refine Jc.condF rfl ?_
  refine Jc.seq ?_
  refine Jc.seq ?_
  refine Jc.region ?_
  refine Jl.pv (PR.eql false rfl rfl rfl) ?_
  refine Jl.pv (PR.assign rfl) ?_
  refine Jl.nil ?_
  refine Jq.thenN ?_
  refine Jc.condF rfl ?_
  refine Jc.seq ?_
  refine Jc.region ?_
  refine Jl.pv (PR.eql false rfl rfl rfl) ?_
  refine Jl.pv (PR.assign rfl) ?_
  refine Jl.nil ?_
  refine Jq.thenN ?_
  refine Jc.condF rfl ?_
  refine Jc.region ?_
  refine Jl.pv (PR.eql false rfl rfl rfl) ?_
  refine Jl.pv (PR.assign rfl) ?_
  refine Jl.nil ?_
  refine Jq.thenN ?_
  refine Jc.condF rfl ?_
  refine Jc.seq ?_
  refine Jc.region ?_
  refine Jl.pv (PR.eql true rfl rfl rfl) ?_
  refine Jl.pv (PR.assign rfl) ?_
  refine Jl.nil ?_
  refine Jq.thenN ?_
  refine Jc.condT rfl ?_
  refine Jc.seq ?_
  refine Jc.region ?_
  refine Jl.pv (PR.assign rfl) ?_
  refine Jl.pv (PR.assign rfl) ?_
  refine Jl.nil ?_
  refine Jq.thenN ?_
  refine Jc.ret ?_
  refine Jq.blkR ?_
  refine Jq.thenR ?_
  exact Jq.fin () (.inl rfl) rfl (RetVs.tmp rfl (RetVs.tmp rfl RetVs.nil)) rfl (by repeat (first | exact Take.nil | apply Take.cons (by repeat (first | exact Del.here | apply Del.there)))) (by repeat (first | exact trivial | refine And.intro (by repeat (first | exact Mem.here | apply Mem.there)) ?_))
theorem rmany9_ct : Ct Tryd.prog 37 [.int .u8 ((9 : Nat) : Int)] [] [] (fun _ : Unit => .tuple #[.int .i64 (rlo 9), .int .i64 (rhi 9)]) (fun _ => []) (fun _ => []) := by
  refine Ct.of _ Tryd.func37 Tryd.ntmps37 rfl rfl (fun X W => ?_)
  refine Jc.seq ?_
  refine Jc.region ?_
  refine Jl.pv (PR.assign rfl) ?_
  refine Jl.pv (PR.assign rfl) ?_
  refine Jl.nil ?_
  refine Jq.thenN ?_
  refine Jc.seq ?_
  refine Jc.seq ?_
  refine Jc.region ?_
  refine Jl.pv (PR.move rfl) ?_
  refine Jl.nil ?_
  refine Jq.thenN ?_
  refine Jc.block ?_
  refine Jc.seq ?_
  refine Jc.region ?_
  refine Jl.pv (PR.eql false rfl rfl rfl) ?_
  refine Jl.pv (PR.assign rfl) ?_
  refine Jl.nil ?_
  refine Jq.thenN ?_
  refine Jc.condF rfl ?_
  refine Jc.seq ?_
  refine Jc.seq ?_
  refine Jc.region ?_
  refine Jl.pv (PR.eql false rfl rfl rfl) ?_
  refine Jl.pv (PR.assign rfl) ?_
  refine Jl.nil ?_
  refine Jq.thenN ?_
  refine Jc.condF rfl ?_
  refine Jc.seq ?_
  refine Jc.region ?_
  refine Jl.pv (PR.eql false rfl rfl rfl) ?_
  refine Jl.pv (PR.assign rfl) ?_
  refine Jl.nil ?_
  refine Jq.thenN ?_
  refine Jc.condF rfl ?_
  refine Jc.seq ?_
  refine Jc.region ?_
  refine Jl.pv (PR.eql false rfl rfl rfl) ?_
  refine Jl.pv (PR.assign rfl) ?_
  refine Jl.nil ?_
  refine Jq.thenN ?_
  refine Jc.condF rfl ?_
  refine Jc.seq ?_
  refine Jc.region ?_
  refine Jl.pv (PR.eql false rfl rfl rfl) ?_
  refine Jl.pv (PR.assign rfl) ?_
  refine Jl.nil ?_
  refine Jq.thenN ?_
  refine Jc.condF rfl ?_
  refine Jc.region ?_
  refine Jl.pv (PR.eql false rfl rfl rfl) ?_
  refine Jl.pv (PR.assign rfl) ?_
  refine Jl.nil ?_
  refine Jq.thenN ?_
  refine Jc.condF rfl ?_
  refine Jc.seq ?_
  refine Jc.seq ?_
  refine Jc.region ?_
  refine Jl.pv (PR.eql false rfl rfl rfl) ?_
  refine Jl.pv (PR.assign rfl) ?_
  refine Jl.nil ?_
  refine Jq.thenN ?_
  refine Jc.condF rfl ?_
  refine Jc.seq ?_
  refine Jc.region ?_
  refine Jl.pv (PR.eql false rfl rfl rfl) ?_
  refine Jl.pv (PR.assign rfl) ?_
  refine Jl.nil ?_
  refine Jq.thenN ?_
  refine Jc.condF rfl ?_
  refine Jc.seq ?_
  refine Jc.region ?_
  refine Jl.pv (PR.eql false rfl rfl rfl) ?_
  refine Jl.pv (PR.assign rfl) ?_
  refine Jl.nil ?_
  refine Jq.thenN ?_
  refine Jc.condF rfl ?_
  refine Jc.region ?_
  refine Jl.pv (PR.eql false rfl rfl rfl) ?_
  refine Jl.pv (PR.assign rfl) ?_
  refine Jl.nil ?_
  refine Jq.thenN ?_
  refine Jc.condF rfl ?_
  refine Jc.seq ?_
  refine Jc.seq ?_
  refine Jc.region ?_
  refine Jl.pv (PR.eql true rfl rfl rfl) ?_
  refine Jl.pv (PR.assign rfl) ?_
  refine Jl.nil ?_
  refine Jq.thenN ?_
  refine Jc.condT rfl ?_
  refine Jc.skip ?_
  refine Jq.thenN ?_
  refine Jc.condT rfl ?_
  refine Jc.seq ?_
  refine Jc.region ?_
  refine Jl.pv (PR.assign rfl) ?_
  refine Jl.pv (PR.assign rfl) ?_
  refine Jl.nil ?_
  refine Jq.thenN ?_
  refine Jc.ret ?_
  refine Jq.blkR ?_
  refine Jq.thenR ?_
  exact Jq.fin () (.inl rfl) rfl (RetVs.tmp rfl (RetVs.tmp rfl RetVs.nil)) rfl (by repeat (first | exact Take.nil | apply Take.cons (by repeat (first | exact Del.here | apply Del.there)))) (by repeat (first | exact trivial | refine And.intro (by repeat (first | exact Mem.here | apply Mem.there)) ?_))
  -- hint not used: k20
  -- hint not used: k22
  -- hint not used: k23
  -- hint not used: k24
  -- hint not used: k26
theorem rmany10_ct : Ct Tryd.prog 37 [.int .u8 ((10 : Nat) : Int)] [] [] (fun _ : Unit => .tuple #[.int .i64 (rlo 10), .int .i64 (rhi 10)]) (fun _ => []) (fun _ => []) := by
  refine Ct.of _ Tryd.func37 Tryd.ntmps37 rfl rfl (fun X W => ?_)
  refine Jc.seq ?_
  refine Jc.region ?_
  refine Jl.pv (PR.assign rfl) ?_
  refine Jl.pv (PR.assign rfl) ?_
  refine Jl.nil ?_
  refine Jq.thenN ?_
  refine Jc.seq ?_
  refine Jc.seq ?_
  refine Jc.region ?_
  refine Jl.pv (PR.move rfl) ?_
  refine Jl.nil ?_
  refine Jq.thenN ?_
  refine Jc.block ?_
  refine Jc.seq ?_
  refine Jc.region ?_
  refine Jl.pv (PR.eql false rfl rfl rfl) ?_
  refine Jl.pv (PR.assign rfl) ?_
  refine Jl.nil ?_
  refine Jq.thenN ?_
  refine Jc.condF rfl ?_
  refine Jc.seq ?_
  refine Jc.seq ?_
  refine Jc.region ?_
  refine Jl.pv (PR.eql false rfl rfl rfl) ?_
  refine Jl.pv (PR.assign rfl) ?_
  refine Jl.nil ?_
  refine Jq.thenN ?_
  refine Jc.condF rfl ?_
  refine Jc.seq ?_
  refine Jc.region ?_
  refine Jl.pv (PR.eql false rfl rfl rfl) ?_
  refine Jl.pv (PR.assign rfl) ?_
  refine Jl.nil ?_
  refine Jq.thenN ?_
  refine Jc.condF rfl ?_
  refine Jc.seq ?_
  refine Jc.region ?_
  refine Jl.pv (PR.eql false rfl rfl rfl) ?_
  refine Jl.pv (PR.assign rfl) ?_
  refine Jl.nil ?_
  refine Jq.thenN ?_
  refine Jc.condF rfl ?_
  refine Jc.seq ?_
  refine Jc.region ?_
  refine Jl.pv (PR.eql false rfl rfl rfl) ?_
  refine Jl.pv (PR.assign rfl) ?_
  refine Jl.nil ?_
  refine Jq.thenN ?_
  refine Jc.condF rfl ?_
  refine Jc.region ?_
  refine Jl.pv (PR.eql false rfl rfl rfl) ?_
  refine Jl.pv (PR.assign rfl) ?_
  refine Jl.nil ?_
  refine Jq.thenN ?_
  refine Jc.condF rfl ?_
  refine Jc.seq ?_
  refine Jc.seq ?_
  refine Jc.region ?_
  refine Jl.pv (PR.eql false rfl rfl rfl) ?_
  refine Jl.pv (PR.assign rfl) ?_
  refine Jl.nil ?_
  refine Jq.thenN ?_
  refine Jc.condF rfl ?_
  refine Jc.seq ?_
  refine Jc.region ?_
  refine Jl.pv (PR.eql false rfl rfl rfl) ?_
  refine Jl.pv (PR.assign rfl) ?_
  refine Jl.nil ?_
  refine Jq.thenN ?_
  refine Jc.condF rfl ?_
  refine Jc.seq ?_
  refine Jc.region ?_
  refine Jl.pv (PR.eql true rfl rfl rfl) ?_
  refine Jl.pv (PR.assign rfl) ?_
  refine Jl.nil ?_
  refine Jq.thenN ?_
  refine Jc.condT rfl ?_
  refine Jc.skip ?_
  refine Jq.thenN ?_
  refine Jc.condT rfl ?_
  refine Jc.seq ?_
  refine Jc.region ?_
  refine Jl.pv (PR.assign rfl) ?_
  refine Jl.pv (PR.assign rfl) ?_
  refine Jl.nil ?_
  refine Jq.thenN ?_
  refine Jc.ret ?_
  refine Jq.blkR ?_
  refine Jq.thenR ?_
  exact Jq.fin () (.inl rfl) rfl (RetVs.tmp rfl (RetVs.tmp rfl RetVs.nil)) rfl (by repeat (first | exact Take.nil | apply Take.cons (by repeat (first | exact Del.here | apply Del.there)))) (by repeat (first | exact trivial | refine And.intro (by repeat (first | exact Mem.here | apply Mem.there)) ?_))
  -- hint not used: k17
  -- hint not used: k19
  -- hint not used: k20
  -- hint not used: k22
  -- hint not used: k23
  -- hint not used: k24
  -- hint not used: k26
theorem rmany11_ct : Ct Tryd.prog 37 [.int .u8 ((11 : Nat) : Int)] [] [] (fun _ : Unit => .tuple #[.int .i64 (rlo 11), .int .i64 (rhi 11)]) (fun _ => []) (fun _ => []) := by
  refine Ct.of _ Tryd.func37 Tryd.ntmps37 rfl rfl (fun X W => ?_)
  refine Jc.seq ?_
  refine Jc.region ?_
  refine Jl.pv (PR.assign rfl) ?_
  refine Jl.pv (PR.assign rfl) ?_
  refine Jl.nil ?_
  refine Jq.thenN ?_
  refine Jc.seq ?_
  refine Jc.seq ?_
  refine Jc.region ?_
  refine Jl.pv (PR.move rfl) ?_
  refine Jl.nil ?_
  refine Jq.thenN ?_
  refine Jc.block ?_
  refine Jc.seq ?_
  refine Jc.region ?_
  refine Jl.pv (PR.eql false rfl rfl rfl) ?_
  refine Jl.pv (PR.assign rfl) ?_
  refine Jl.nil ?_
  refine Jq.thenN ?_
  refine Jc.condF rfl ?_
  refine Jc.seq ?_
  refine Jc.seq ?_
  refine Jc.region ?_
  refine Jl.pv (PR.eql false rfl rfl rfl) ?_
  refine Jl.pv (PR.assign rfl) ?_
  refine Jl.nil ?_
  refine Jq.thenN ?_
  refine Jc.condF rfl ?_
  refine Jc.seq ?_
  refine Jc.region ?_
  refine Jl.pv (PR.eql false rfl rfl rfl) ?_
  refine Jl.pv (PR.assign rfl) ?_
  refine Jl.nil ?_
  refine Jq.thenN ?_
  refine Jc.condF rfl ?_
  refine Jc.seq ?_
  refine Jc.region ?_
  refine Jl.pv (PR.eql false rfl rfl rfl) ?_
  refine Jl.pv (PR.assign rfl) ?_
  refine Jl.nil ?_
  refine Jq.thenN ?_
  refine Jc.condF rfl ?_
  refine Jc.seq ?_
  refine Jc.region ?_
  refine Jl.pv (PR.eql false rfl rfl rfl) ?_
  refine Jl.pv (PR.assign rfl) ?_
  refine Jl.nil ?_
  refine Jq.thenN ?_
  refine Jc.condF rfl ?_
  refine Jc.region ?_
  refine Jl.pv (PR.eql false rfl rfl rfl) ?_
  refine Jl.pv (PR.assign rfl) ?_
  refine Jl.nil ?_
  refine Jq.thenN ?_
  refine Jc.condF rfl ?_
  refine Jc.seq ?_
  refine Jc.seq ?_
  refine Jc.region ?_
  refine Jl.pv (PR.eql false rfl rfl rfl) ?_
  refine Jl.pv (PR.assign rfl) ?_
  refine Jl.nil ?_
  refine Jq.thenN ?_
  refine Jc.condF rfl ?_
  refine Jc.seq ?_
  refine Jc.region ?_
  refine Jl.pv (PR.eql false rfl rfl rfl) ?_
  refine Jl.pv (PR.assign rfl) ?_
  refine Jl.nil ?_
  refine Jq.thenN ?_
  refine Jc.condF rfl ?_
  refine Jc.seq ?_
  refine Jc.region ?_
  refine Jl.pv (PR.eql false rfl rfl rfl) ?_
  refine Jl.pv (PR.assign rfl) ?_
  refine Jl.nil ?_
  refine Jq.thenN ?_
  refine Jc.condF rfl ?_
  refine Jc.region ?_
  refine Jl.pv (PR.eql false rfl rfl rfl) ?_
  refine Jl.pv (PR.assign rfl) ?_
  refine Jl.nil ?_
  refine Jq.thenN ?_
  refine Jc.condF rfl ?_
  refine Jc.seq ?_
  refine Jc.seq ?_
  refine Jc.region ?_
  refine Jl.pv (PR.eql false rfl rfl rfl) ?_
  refine Jl.pv (PR.assign rfl) ?_
  refine Jl.nil ?_
  refine Jq.thenN ?_
  refine Jc.condF rfl ?_
  refine Jc.region ?_
  refine Jl.pv (PR.eql true rfl rfl rfl) ?_
  refine Jl.pv (PR.assign rfl) ?_
  refine Jl.nil ?_
  refine Jq.thenN ?_
  refine Jc.condT rfl ?_
  refine Jc.seq ?_
  refine Jc.region ?_
  refine Jl.pv (PR.assign rfl) ?_
  refine Jl.pv (PR.assign rfl) ?_
  refine Jl.nil ?_
  refine Jq.thenN ?_
  refine Jc.ret ?_
  refine Jq.blkR ?_
  refine Jq.thenR ?_
  exact Jq.fin () (.inl rfl) rfl (RetVs.tmp rfl (RetVs.tmp rfl RetVs.nil)) rfl (by repeat (first | exact Take.nil | apply Take.cons (by repeat (first | exact Del.here | apply Del.there)))) (by repeat (first | exact trivial | refine And.intro (by repeat (first | exact Mem.here | apply Mem.there)) ?_))
  -- hint not used: k22
  -- hint not used: k23
  -- hint not used: k24
  -- hint not used: k26
theorem rmany12_ct : Ct Tryd.prog 37 [.int .u8 ((12 : Nat) : Int)] [] [] (fun _ : Unit => .tuple #[.int .i64 (rlo 12), .int .i64 (rhi 12)]) (fun _ => []) (fun _ => []) := by
  refine Ct.of _ Tryd.func37 Tryd.ntmps37 rfl rfl (fun X W => ?_)
  refine Jc.seq ?_
  refine Jc.region ?_
  refine Jl.pv (PR.assign rfl) ?_
  refine Jl.pv (PR.assign rfl) ?_
  refine Jl.nil ?_
  refine Jq.thenN ?_
  refine Jc.seq ?_
  refine Jc.seq ?_
  refine Jc.region ?_
  refine Jl.pv (PR.move rfl) ?_
  refine Jl.nil ?_
  refine Jq.thenN ?_
  refine Jc.block ?_
  refine Jc.seq ?_
  refine Jc.region ?_
  refine Jl.pv (PR.eql false rfl rfl rfl) ?_
  refine Jl.pv (PR.assign rfl) ?_
  refine Jl.nil ?_
  refine Jq.thenN ?_
  refine Jc.condF rfl ?_
  refine Jc.seq ?_
  refine Jc.seq ?_
  refine Jc.region ?_
  refine Jl.pv (PR.eql false rfl rfl rfl) ?_
  refine Jl.pv (PR.assign rfl) ?_
  refine Jl.nil ?_
  refine Jq.thenN ?_
  refine Jc.condF rfl ?_
  refine Jc.seq ?_
  refine Jc.region ?_
  refine Jl.pv (PR.eql true rfl rfl rfl) ?_
  refine Jl.pv (PR.assign rfl) ?_
  refine Jl.nil ?_
  refine Jq.thenN ?_
  refine Jc.condT rfl ?_
  refine Jc.skip ?_
  refine Jq.thenN ?_
  refine Jc.condT rfl ?_
  refine Jc.seq ?_
  refine Jc.region ?_
  refine Jl.pv (PR.assign rfl) ?_
  refine Jl.pv (PR.assign rfl) ?_
  refine Jl.nil ?_
  refine Jq.thenN ?_
  refine Jc.ret ?_
  refine Jq.blkR ?_
  refine Jq.thenR ?_
  exact Jq.fin () (.inl rfl) rfl (RetVs.tmp rfl (RetVs.tmp rfl RetVs.nil)) rfl (by repeat (first | exact Take.nil | apply Take.cons (by repeat (first | exact Del.here | apply Del.there)))) (by repeat (first | exact trivial | refine And.intro (by repeat (first | exact Mem.here | apply Mem.there)) ?_))
  -- hint not used: k10
  -- hint not used: k11
  -- hint not used: k12
  -- hint not used: k14
  -- hint not used: k15
  -- hint not used: k16
  -- hint not used: k17
  -- hint not used: k19
  -- hint not used: k20
  -- hint not used: k22
  -- hint not used: k23
  -- hint not used: k24
  -- hint not used: k26
theorem rmany13_ct : Ct Tryd.prog 37 [.int .u8 ((13 : Nat) : Int)] [] [] (fun _ : Unit => .tuple #[.int .i64 (rlo 13), .int .i64 (rhi 13)]) (fun _ => []) (fun _ => []) := by
  refine Ct.of _ Tryd.func37 Tryd.ntmps37 rfl rfl (fun X W => ?_)
  refine Jc.seq ?_
  refine Jc.region ?_
  refine Jl.pv (PR.assign rfl) ?_
  refine Jl.pv (PR.assign rfl) ?_
  refine Jl.nil ?_
  refine Jq.thenN ?_
  refine Jc.seq ?_
  refine Jc.seq ?_
  refine Jc.region ?_
  refine Jl.pv (PR.move rfl) ?_
  refine Jl.nil ?_
  refine Jq.thenN ?_
  refine Jc.block ?_
  refine Jc.seq ?_
  refine Jc.region ?_
  refine Jl.pv (PR.eql false rfl rfl rfl) ?_
  refine Jl.pv (PR.assign rfl) ?_
  refine Jl.nil ?_
  refine Jq.thenN ?_
  refine Jc.condF rfl ?_
  refine Jc.seq ?_
  refine Jc.seq ?_
  refine Jc.region ?_
  refine Jl.pv (PR.eql false rfl rfl rfl) ?_
  refine Jl.pv (PR.assign rfl) ?_
  refine Jl.nil ?_
  refine Jq.thenN ?_
  refine Jc.condF rfl ?_
  refine Jc.seq ?_
  refine Jc.region ?_
  refine Jl.pv (PR.eql false rfl rfl rfl) ?_
  refine Jl.pv (PR.assign rfl) ?_
  refine Jl.nil ?_
  refine Jq.thenN ?_
  refine Jc.condF rfl ?_
  refine Jc.seq ?_
  refine Jc.region ?_
  refine Jl.pv (PR.eql true rfl rfl rfl) ?_
  refine Jl.pv (PR.assign rfl) ?_
  refine Jl.nil ?_
  refine Jq.thenN ?_
  refine Jc.condT rfl ?_
  refine Jc.skip ?_
  refine Jq.thenN ?_
  refine Jc.condT rfl ?_
  refine Jc.seq ?_
  refine Jc.region ?_
  refine Jl.pv (PR.assign rfl) ?_
  refine Jl.pv (PR.assign rfl) ?_
  refine Jl.nil ?_
  refine Jq.thenN ?_
  refine Jc.ret ?_
  refine Jq.blkR ?_
  refine Jq.thenR ?_
  exact Jq.fin () (.inl rfl) rfl (RetVs.tmp rfl (RetVs.tmp rfl RetVs.nil)) rfl (by repeat (first | exact Take.nil | apply Take.cons (by repeat (first | exact Del.here | apply Del.there)))) (by repeat (first | exact trivial | refine And.intro (by repeat (first | exact Mem.here | apply Mem.there)) ?_))
  -- hint not used: k11
  -- hint not used: k12
  -- hint not used: k14
  -- hint not used: k15
  -- hint not used: k16
  -- hint not used: k17
  -- hint not used: k19
  -- hint not used: k20
  -- hint not used: k22
  -- hint not used: k23
  -- hint not used: k24
  -- hint not used: k26
theorem rmany14_ct : Ct Tryd.prog 37 [.int .u8 ((14 : Nat) : Int)] [] [] (fun _ : Unit => .tuple #[.int .i64 (rlo 14), .int .i64 (rhi 14)]) (fun _ => []) (fun _ => []) := by
  refine Ct.of _ Tryd.func37 Tryd.ntmps37 rfl rfl (fun X W => ?_)
  refine Jc.seq ?_
  refine Jc.region ?_
  refine Jl.pv (PR.assign rfl) ?_
  refine Jl.pv (PR.assign rfl) ?_
  refine Jl.nil ?_
  refine Jq.thenN ?_
  refine Jc.seq ?_
  refine Jc.seq ?_
  refine Jc.region ?_
  refine Jl.pv (PR.move rfl) ?_
  refine Jl.nil ?_
  refine Jq.thenN ?_
  refine Jc.block ?_
  refine Jc.seq ?_
  refine Jc.region ?_
  refine Jl.pv (PR.eql false rfl rfl rfl) ?_
  refine Jl.pv (PR.assign rfl) ?_
  refine Jl.nil ?_
  refine Jq.thenN ?_
  refine Jc.condF rfl ?_
  refine Jc.seq ?_
  refine Jc.seq ?_
  refine Jc.region ?_
  refine Jl.pv (PR.eql false rfl rfl rfl) ?_
  refine Jl.pv (PR.assign rfl) ?_
  refine Jl.nil ?_
  refine Jq.thenN ?_
  refine Jc.condF rfl ?_
  refine Jc.seq ?_
  refine Jc.region ?_
  refine Jl.pv (PR.eql false rfl rfl rfl) ?_
  refine Jl.pv (PR.assign rfl) ?_
  refine Jl.nil ?_
  refine Jq.thenN ?_
  refine Jc.condF rfl ?_
  refine Jc.seq ?_
  refine Jc.region ?_
  refine Jl.pv (PR.eql false rfl rfl rfl) ?_
  refine Jl.pv (PR.assign rfl) ?_
  refine Jl.nil ?_
  refine Jq.thenN ?_
  refine Jc.condF rfl ?_
  refine Jc.seq ?_
  refine Jc.region ?_
  refine Jl.pv (PR.eql false rfl rfl rfl) ?_
  refine Jl.pv (PR.assign rfl) ?_
  refine Jl.nil ?_
  refine Jq.thenN ?_
  refine Jc.condF rfl ?_
  refine Jc.region ?_
  refine Jl.pv (PR.eql false rfl rfl rfl) ?_
  refine Jl.pv (PR.assign rfl) ?_
  refine Jl.nil ?_
  refine Jq.thenN ?_
  refine Jc.condF rfl ?_
  refine Jc.seq ?_
  refine Jc.seq ?_
  refine Jc.region ?_
  refine Jl.pv (PR.eql false rfl rfl rfl) ?_
  refine Jl.pv (PR.assign rfl) ?_
  refine Jl.nil ?_
  refine Jq.thenN ?_
  refine Jc.condF rfl ?_
  refine Jc.seq ?_
  refine Jc.region ?_
  refine Jl.pv (PR.eql false rfl rfl rfl) ?_
  refine Jl.pv (PR.assign rfl) ?_
  refine Jl.nil ?_
  refine Jq.thenN ?_
  refine Jc.condF rfl ?_
  refine Jc.seq ?_
  refine Jc.region ?_
  refine Jl.pv (PR.eql false rfl rfl rfl) ?_
  refine Jl.pv (PR.assign rfl) ?_
  refine Jl.nil ?_
  refine Jq.thenN ?_
  refine Jc.condF rfl ?_
  refine Jc.region ?_
  refine Jl.pv (PR.eql true rfl rfl rfl) ?_
  refine Jl.pv (PR.assign rfl) ?_
  refine Jl.nil ?_
  refine Jq.thenN ?_
  refine Jc.condT rfl ?_
  refine Jc.seq ?_
  refine Jc.region ?_
  refine Jl.pv (PR.assign rfl) ?_
  refine Jl.pv (PR.assign rfl) ?_
  refine Jl.nil ?_
  refine Jq.thenN ?_
  refine Jc.ret ?_
  refine Jq.blkR ?_
  refine Jq.thenR ?_
  exact Jq.fin () (.inl rfl) rfl (RetVs.tmp rfl (RetVs.tmp rfl RetVs.nil)) rfl (by repeat (first | exact Take.nil | apply Take.cons (by repeat (first | exact Del.here | apply Del.there)))) (by repeat (first | exact trivial | refine And.intro (by repeat (first | exact Mem.here | apply Mem.there)) ?_))
  -- hint not used: k19
  -- hint not used: k20
  -- hint not used: k22
  -- hint not used: k23
  -- hint not used: k24
  -- hint not used: k26
theorem rmany15_ct : Ct Tryd.prog 37 [.int .u8 ((15 : Nat) : Int)] [] [] (fun _ : Unit => .tuple #[.int .i64 (rlo 15), .int .i64 (rhi 15)]) (fun _ => []) (fun _ => []) := by
  refine Ct.of _ Tryd.func37 Tryd.ntmps37 rfl rfl (fun X W => ?_)
  refine Jc.seq ?_
  refine Jc.region ?_
  refine Jl.pv (PR.assign rfl) ?_
  refine Jl.pv (PR.assign rfl) ?_
  refine Jl.nil ?_
  refine Jq.thenN ?_
  refine Jc.seq ?_
  refine Jc.seq ?_
  refine Jc.region ?_
  refine Jl.pv (PR.move rfl) ?_
  refine Jl.nil ?_
  refine Jq.thenN ?_
  refine Jc.block ?_
  refine Jc.seq ?_
  refine Jc.region ?_
  refine Jl.pv (PR.eql false rfl rfl rfl) ?_
  refine Jl.pv (PR.assign rfl) ?_
  refine Jl.nil ?_
  refine Jq.thenN ?_
  refine Jc.condF rfl ?_
  refine Jc.seq ?_
  refine Jc.seq ?_
  refine Jc.region ?_
  refine Jl.pv (PR.eql false rfl rfl rfl) ?_
  refine Jl.pv (PR.assign rfl) ?_
  refine Jl.nil ?_
  refine Jq.thenN ?_
  refine Jc.condF rfl ?_
  refine Jc.seq ?_
  refine Jc.region ?_
  refine Jl.pv (PR.eql false rfl rfl rfl) ?_
  refine Jl.pv (PR.assign rfl) ?_
  refine Jl.nil ?_
  refine Jq.thenN ?_
  refine Jc.condF rfl ?_
  refine Jc.seq ?_
  refine Jc.region ?_
  refine Jl.pv (PR.eql false rfl rfl rfl) ?_
  refine Jl.pv (PR.assign rfl) ?_
  refine Jl.nil ?_
  refine Jq.thenN ?_
  refine Jc.condF rfl ?_
  refine Jc.seq ?_
  refine Jc.region ?_
  refine Jl.pv (PR.eql true rfl rfl rfl) ?_
  refine Jl.pv (PR.assign rfl) ?_
  refine Jl.nil ?_
  refine Jq.thenN ?_
  refine Jc.condT rfl ?_
  refine Jc.skip ?_
  refine Jq.thenN ?_
  refine Jc.condT rfl ?_
  refine Jc.seq ?_
  refine Jc.region ?_
  refine Jl.pv (PR.assign rfl) ?_
  refine Jl.pv (PR.assign rfl) ?_
  refine Jl.nil ?_
  refine Jq.thenN ?_
  refine Jc.ret ?_
  refine Jq.blkR ?_
  refine Jq.thenR ?_
  exact Jq.fin () (.inl rfl) rfl (RetVs.tmp rfl (RetVs.tmp rfl RetVs.nil)) rfl (by repeat (first | exact Take.nil | apply Take.cons (by repeat (first | exact Del.here | apply Del.there)))) (by repeat (first | exact trivial | refine And.intro (by repeat (first | exact Mem.here | apply Mem.there)) ?_))
  -- hint not used: k12
  -- hint not used: k14
  -- hint not used: k15
  -- hint not used: k16
  -- hint not used: k17
  -- hint not used: k19
  -- hint not used: k20
  -- hint not used: k22
  -- hint not used: k23
  -- hint not used: k24
  -- hint not used: k26
theorem rmany16_ct : Ct Tryd.prog 37 [.int .u8 ((16 : Nat) : Int)] [] [] (fun _ : Unit => .tuple #[.int .i64 (rlo 16), .int .i64 (rhi 16)]) (fun _ => []) (fun _ => []) := by
  refine Ct.of _ Tryd.func37 Tryd.ntmps37 rfl rfl (fun X W => ?_)
  refine Jc.seq ?_
  refine Jc.region ?_
  refine Jl.pv (PR.assign rfl) ?_
  refine Jl.pv (PR.assign rfl) ?_
  refine Jl.nil ?_
  refine Jq.thenN ?_
  refine Jc.seq ?_
  refine Jc.seq ?_
  refine Jc.region ?_
  refine Jl.pv (PR.move rfl) ?_
  refine Jl.nil ?_
  refine Jq.thenN ?_
  refine Jc.block ?_
  refine Jc.seq ?_
  refine Jc.region ?_
  refine Jl.pv (PR.eql false rfl rfl rfl) ?_
  refine Jl.pv (PR.assign rfl) ?_
  refine Jl.nil ?_
  refine Jq.thenN ?_
  refine Jc.condF rfl ?_
  refine Jc.seq ?_
  refine Jc.seq ?_
  refine Jc.region ?_
  refine Jl.pv (PR.eql false rfl rfl rfl) ?_
  refine Jl.pv (PR.assign rfl) ?_
  refine Jl.nil ?_
  refine Jq.thenN ?_
  refine Jc.condF rfl ?_
  refine Jc.seq ?_
  refine Jc.region ?_
  refine Jl.pv (PR.eql false rfl rfl rfl) ?_
  refine Jl.pv (PR.assign rfl) ?_
  refine Jl.nil ?_
  refine Jq.thenN ?_
  refine Jc.condF rfl ?_
  refine Jc.seq ?_
  refine Jc.region ?_
  refine Jl.pv (PR.eql false rfl rfl rfl) ?_
  refine Jl.pv (PR.assign rfl) ?_
  refine Jl.nil ?_
  refine Jq.thenN ?_
  refine Jc.condF rfl ?_
  refine Jc.seq ?_
  refine Jc.region ?_
  refine Jl.pv (PR.eql false rfl rfl rfl) ?_
  refine Jl.pv (PR.assign rfl) ?_
  refine Jl.nil ?_
  refine Jq.thenN ?_
  refine Jc.condF rfl ?_
  refine Jc.region ?_
  refine Jl.pv (PR.eql true rfl rfl rfl) ?_
  refine Jl.pv (PR.assign rfl) ?_
  refine Jl.nil ?_
  refine Jq.thenN ?_
  refine Jc.condT rfl ?_
  refine Jc.seq ?_
  refine Jc.region ?_
  refine Jl.pv (PR.assign rfl) ?_
  refine Jl.pv (PR.assign rfl) ?_
  refine Jl.nil ?_
  refine Jq.thenN ?_
  refine Jc.ret ?_
  refine Jq.blkR ?_
  refine Jq.thenR ?_
  exact Jq.fin () (.inl rfl) rfl (RetVs.tmp rfl (RetVs.tmp rfl RetVs.nil)) rfl (by repeat (first | exact Take.nil | apply Take.cons (by repeat (first | exact Del.here | apply Del.there)))) (by repeat (first | exact trivial | refine And.intro (by repeat (first | exact Mem.here | apply Mem.there)) ?_))
  -- hint not used: k14
  -- hint not used: k15
  -- hint not used: k16
  -- hint not used: k17
  -- hint not used: k19
  -- hint not used: k20
  -- hint not used: k22
  -- hint not used: k23
  -- hint not used: k24
  -- hint not used: k26
theorem rmanyX_ct (k : Nat) (h : 17 ≤ k) : Ct Tryd.prog 37 [.int .u8 (k : Int)] [] [] (fun _ : Unit => .tuple #[.int .i64 (rlo k), .int .i64 (rhi k)]) (fun _ => []) (fun _ => []) := by
  rw [show rlo k = -1 from if_neg (by omega), show rhi k = -1 from if_neg (by omega)]
  refine Ct.of _ Tryd.func37 Tryd.ntmps37 rfl rfl (fun X W => ?_)
  refine Jc.seq ?_
  refine Jc.region ?_
  refine Jl.pv (PR.assign rfl) ?_
  refine Jl.pv (PR.assign rfl) ?_
  refine Jl.nil ?_
  refine Jq.thenN ?_
  refine Jc.seq ?_
  refine Jc.seq ?_
  refine Jc.region ?_
  refine Jl.pv (PR.move rfl) ?_
  refine Jl.nil ?_
  refine Jq.thenN ?_
  refine Jc.block ?_
  refine Jc.seq ?_
  refine Jc.region ?_
  refine Jl.pv (PR.eql false rfl rfl (by simp; omega)) ?_
  refine Jl.pv (PR.assign rfl) ?_
  refine Jl.nil ?_
  refine Jq.thenN ?_
  refine Jc.condF rfl ?_
  refine Jc.seq ?_
  refine Jc.seq ?_
  refine Jc.region ?_
  refine Jl.pv (PR.eql false rfl rfl (by simp; omega)) ?_
  refine Jl.pv (PR.assign rfl) ?_
  refine Jl.nil ?_
  refine Jq.thenN ?_
  refine Jc.condF rfl ?_
  refine Jc.seq ?_
  refine Jc.region ?_
  refine Jl.pv (PR.eql false rfl rfl (by simp; omega)) ?_
  refine Jl.pv (PR.assign rfl) ?_
  refine Jl.nil ?_
  refine Jq.thenN ?_
  refine Jc.condF rfl ?_
  refine Jc.seq ?_
  refine Jc.region ?_
  refine Jl.pv (PR.eql false rfl rfl (by simp; omega)) ?_
  refine Jl.pv (PR.assign rfl) ?_
  refine Jl.nil ?_
  refine Jq.thenN ?_
  refine Jc.condF rfl ?_
  refine Jc.seq ?_
  refine Jc.region ?_
  refine Jl.pv (PR.eql false rfl rfl (by simp; omega)) ?_
  refine Jl.pv (PR.assign rfl) ?_
  refine Jl.nil ?_
  refine Jq.thenN ?_
  refine Jc.condF rfl ?_
  refine Jc.region ?_
  refine Jl.pv (PR.eql false rfl rfl (by simp; omega)) ?_
  refine Jl.pv (PR.assign rfl) ?_
  refine Jl.nil ?_
  refine Jq.thenN ?_
  refine Jc.condF rfl ?_
  refine Jc.seq ?_
  refine Jc.seq ?_
  refine Jc.region ?_
  refine Jl.pv (PR.eql false rfl rfl (by simp; omega)) ?_
  refine Jl.pv (PR.assign rfl) ?_
  refine Jl.nil ?_
  refine Jq.thenN ?_
  refine Jc.condF rfl ?_
  refine Jc.seq ?_
  refine Jc.region ?_
  refine Jl.pv (PR.eql false rfl rfl (by simp; omega)) ?_
  refine Jl.pv (PR.assign rfl) ?_
  refine Jl.nil ?_
  refine Jq.thenN ?_
  refine Jc.condF rfl ?_
  refine Jc.seq ?_
  refine Jc.region ?_
  refine Jl.pv (PR.eql false rfl rfl (by simp; omega)) ?_
  refine Jl.pv (PR.assign rfl) ?_
  refine Jl.nil ?_
  refine Jq.thenN ?_
  refine Jc.condF rfl ?_
  refine Jc.region ?_
  refine Jl.pv (PR.eql false rfl rfl (by simp; omega)) ?_
  refine Jl.pv (PR.assign rfl) ?_
  refine Jl.nil ?_
  refine Jq.thenN ?_
  refine Jc.condF rfl ?_
  refine Jc.seq ?_
  refine Jc.seq ?_
  refine Jc.region ?_
  refine Jl.pv (PR.eql false rfl rfl (by simp; omega)) ?_
  refine Jl.pv (PR.assign rfl) ?_
  refine Jl.nil ?_
  refine Jq.thenN ?_
  refine Jc.condF rfl ?_
  refine Jc.region ?_
  refine Jl.pv (PR.eql false rfl rfl (by simp; omega)) ?_
  refine Jl.pv (PR.assign rfl) ?_
  refine Jl.nil ?_
  refine Jq.thenN ?_
  refine Jc.condF rfl ?_
  refine Jc.seq ?_
  refine Jc.seq ?_
  refine Jc.region ?_
  refine Jl.pv (PR.eql false rfl rfl (by simp; omega)) ?_
  refine Jl.pv (PR.assign rfl) ?_
  refine Jl.nil ?_
  refine Jq.thenN ?_
  refine Jc.condF rfl ?_
  refine Jc.seq ?_
  refine Jc.region ?_
  refine Jl.pv (PR.eql false rfl rfl (by simp; omega)) ?_
  refine Jl.pv (PR.assign rfl) ?_
  refine Jl.nil ?_
  refine Jq.thenN ?_
  refine Jc.condF rfl ?_
  refine Jc.region ?_
  refine Jl.pv (PR.eql false rfl rfl (by simp; omega)) ?_
  refine Jl.pv (PR.assign rfl) ?_
  refine Jl.nil ?_
  refine Jq.thenN ?_
  refine Jc.condF rfl ?_
  refine Jc.seq ?_
  refine Jc.region ?_
  refine Jl.pv (PR.eql false rfl rfl (by simp; omega)) ?_
  refine Jl.pv (PR.assign rfl) ?_
  refine Jl.nil ?_
  refine Jq.thenN ?_
  refine Jc.condF rfl ?_
  refine Jc.skip ?_
  refine Jq.blkN ?_
  refine Jq.thenN ?_
  refine Jc.seq ?_
  refine Jc.region ?_
  refine Jl.pv (PR.assign rfl) ?_
  refine Jl.pv (PR.assign rfl) ?_
  refine Jl.nil ?_
  refine Jq.thenN ?_
  refine Jc.ret ?_
  exact Jq.fin () (.inl rfl) rfl (RetVs.tmp rfl (RetVs.tmp rfl RetVs.nil)) rfl (by repeat (first | exact Take.nil | apply Take.cons (by repeat (first | exact Del.here | apply Del.there)))) (by repeat (first | exact trivial | refine And.intro (by repeat (first | exact Mem.here | apply Mem.there)) ?_))
theorem rmany_ct : ∀ (k : Nat), Ct Tryd.prog 37 [.int .u8 (k : Int)] [] [] (fun _ : Unit => .tuple #[.int .i64 (rlo k), .int .i64 (rhi k)]) (fun _ => []) (fun _ => [])
  | 0 => rmany0_ct
  | 1 => rmany1_ct
  | 2 => rmany2_ct
  | 3 => rmany3_ct
  | 4 => rmany4_ct
  | 5 => rmany5_ct
  | 6 => rmany6_ct
  | 7 => rmany7_ct
  | 8 => rmany8_ct
  | 9 => rmany9_ct
  | 10 => rmany10_ct
  | 11 => rmany11_ct
  | 12 => rmany12_ct
  | 13 => rmany13_ct
  | 14 => rmany14_ct
  | 15 => rmany15_ct
  | 16 => rmany16_ct
  | k + 17 => rmanyX_ct (k + 17) (by omega)
theorem rright_ct (r : Rc) (x : AdC) (hn : r.l.length ≤ 1000000) : Ct Tryd.prog 22 [r.v x] [] [.rd x.1 (i64s r.l)] (fun _ : Unit => .bool r.ok) (fun _ => []) (fun _ => []) := by
  obtain ⟨A, cA⟩ := x
  have hno : okLen r.k.toNat r.l.length = false → r.ok = false := fun h => by rw [Rc.ok, h]; rfl
  have hlo : ¬ (1 ≤ r.k.toNat ∧ r.k.toNat < 17) → rlo r.k.toNat = -1 ∧ rhi r.k.toNat = -1 := fun h => ⟨if_neg h, if_neg h⟩
  have hyl : 1 ≤ r.k.toNat ∧ r.k.toNat < 17 → rlo r.k.toNat = ((bndAt r.k.toNat).1 : Int) ∧ rhi r.k.toNat = ((bndAt r.k.toNat).2 : Int) := fun h => ⟨if_pos h, if_pos h⟩
  refine Ct.of _ Tryd.func22 Tryd.ntmps22 rfl rfl (fun X W => ?_)
  refine Jc.seq ?_
  refine Jc.region ?_
  refine Jl.box rfl (by rfl) ?_
  intro b1
  refine Jl.pv (PR.assign rfl) ?_
  refine Jl.nil ?_
  refine Jq.thenN ?_
  refine Jc.seq ?_
  refine Jc.region ?_
  refine Jl.pv (PR.fieldAddr rfl tfl43_0) ?_
  refine Jl.pv (PR.load1 rfl tsh5 (by repeat (first | exact Has.here | apply Has.there)) (by rfl)) ?_
  refine Jl.call (rmany_ct r.k.toNat) en37 (by rfl) (by repeat (first | exact Take.nil | apply Take.cons (by repeat (first | exact Del.here | apply Del.there)))) (by repeat (first | exact trivial | refine And.intro (by repeat (first | exact Mem.here | apply Mem.there)) ?_)) ?_
  rintro ⟨⟩
  refine Jl.pv (PR.move rfl) ?_
  refine Jl.pv (PR.extract rfl (by rfl)) ?_
  refine Jl.pv (PR.extract rfl (by rfl)) ?_
  refine Jl.pv (PR.assign rfl) ?_
  refine Jl.pv (PR.assign rfl) ?_
  refine Jl.nil ?_
  refine Jq.thenN ?_
  refine Jc.seq ?_
  refine Jc.seq ?_
  refine Jc.region ?_
  refine Jl.pv (PR.move rfl) ?_
  refine Jl.pv (PR.lss _ rfl rfl rfl) ?_
  refine Jl.pv (PR.move rfl) ?_
  refine Jl.bsplit (fun g14 => ?_) (fun g14 => ?_)
  · try replace g14 := of_decide_eq_true g14
    have hro : r.ok = false := hno (by rw [Bool.eq_false_iff, ne_eq, okLen_iff]; intro h; have := hyl h.1; omega)
    refine Jl.offS rfl rfl rfl ?_
    refine Jl.offS rfl rfl rfl ?_
    refine Jl.offS rfl rfl rfl ?_
    refine Jl.offS rfl rfl rfl ?_
    refine Jl.offS rfl rfl rfl ?_
    refine Jl.pv (PR.pickT rfl rfl) ?_
    refine Jl.pv (PR.move rfl) ?_
    refine Jl.offS rfl rfl rfl ?_
    refine Jl.offS rfl rfl rfl ?_
    refine Jl.offS rfl rfl rfl ?_
    refine Jl.offS rfl rfl rfl ?_
    refine Jl.offS rfl rfl rfl ?_
    refine Jl.pv (PR.pickT rfl rfl) ?_
    refine Jl.nil ?_
    refine Jq.thenN ?_
    refine Jc.condT rfl ?_
    refine Jc.seq ?_
    refine Jc.region ?_
    refine Jl.pv (PR.assign rfl) ?_
    refine Jl.nil ?_
    refine Jq.thenN ?_
    refine Jc.ret ?_
    refine Jq.thenR ?_
    exact Jq.fin () (.inl rfl) rfl (RetVs.tmp rfl RetVs.nil) (by rw [hro]; rfl) (by repeat (first | exact Take.nil | apply Take.cons (by repeat (first | exact Del.here | apply Del.there)))) (by repeat (first | exact trivial | refine And.intro (by repeat (first | exact Mem.here | apply Mem.there)) ?_))
  · try replace g14 := of_decide_eq_false g14
    have hin : 1 ≤ r.k.toNat ∧ r.k.toNat < 17 := Decidable.byContradiction fun h => by have := hlo h; omega
    have hy := hyl hin
    refine Jl.on rfl rfl ?_
    refine Jl.pv (PR.fieldAddr rfl tfl43_1) ?_
    refine Jl.on rfl rfl ?_
    refine Jl.pv (PR.load1 rfl tsh41 (by repeat (first | exact Has.here | apply Has.there)) (by rfl)) ?_
    refine Jl.on rfl rfl ?_
    refine Jl.pv (PR.len rfl tsl41) ?_
    refine Jl.on rfl rfl ?_
    refine Jl.pv (PR.move rfl) ?_
    refine Jl.on rfl rfl ?_
    refine Jl.pv (PR.lss _ rfl rfl rfl) ?_
    refine Jl.pv (PR.pickF rfl rfl) ?_
    refine Jl.pv (PR.move rfl) ?_
    refine Jl.bsplit (fun g21 => ?_) (fun g21 => ?_)
    · try replace g21 := of_decide_eq_true g21
      have hro : r.ok = false := hno (by rw [Bool.eq_false_iff, ne_eq, okLen_iff]; omega)
      refine Jl.offS rfl rfl rfl ?_
      refine Jl.offS rfl rfl rfl ?_
      refine Jl.offS rfl rfl rfl ?_
      refine Jl.offS rfl rfl rfl ?_
      refine Jl.offS rfl rfl rfl ?_
      refine Jl.pv (PR.pickT rfl rfl) ?_
      refine Jl.nil ?_
      refine Jq.thenN ?_
      refine Jc.condT rfl ?_
      refine Jc.seq ?_
      refine Jc.region ?_
      refine Jl.pv (PR.assign rfl) ?_
      refine Jl.nil ?_
      refine Jq.thenN ?_
      refine Jc.ret ?_
      refine Jq.thenR ?_
      exact Jq.fin () (.inl rfl) rfl (RetVs.tmp rfl RetVs.nil) (by rw [hro]; rfl) (by repeat (first | exact Take.nil | apply Take.cons (by repeat (first | exact Del.here | apply Del.there)))) (by repeat (first | exact trivial | refine And.intro (by repeat (first | exact Mem.here | apply Mem.there)) ?_))
    · try replace g21 := of_decide_eq_false g21
      refine Jl.on rfl rfl ?_
      refine Jl.pv (PR.fieldAddr rfl tfl43_1) ?_
      refine Jl.on rfl rfl ?_
      refine Jl.pv (PR.load1 rfl tsh41 (by repeat (first | exact Has.here | apply Has.there)) (by rfl)) ?_
      refine Jl.on rfl rfl ?_
      refine Jl.pv (PR.len rfl tsl41) ?_
      refine Jl.on rfl rfl ?_
      refine Jl.pv (PR.move rfl) ?_
      refine Jl.on rfl rfl ?_
      refine Jl.pv (PR.gtr _ rfl rfl rfl) ?_
      refine Jl.pv (PR.pickF rfl rfl) ?_
      refine Jl.nil ?_
      refine Jq.thenN ?_
      refine Jc.cond rfl (fun h0 => ?_) (fun h0 => ?_)
      · try replace h0 := of_decide_eq_true h0
        have hro : r.ok = false := hno (by rw [Bool.eq_false_iff, ne_eq, okLen_iff]; omega)
        refine Jc.seq ?_
        refine Jc.region ?_
        refine Jl.pv (PR.assign rfl) ?_
        refine Jl.nil ?_
        refine Jq.thenN ?_
        refine Jc.ret ?_
        refine Jq.thenR ?_
        exact Jq.fin () (.inl rfl) rfl (RetVs.tmp rfl RetVs.nil) (by rw [hro]; rfl) (by repeat (first | exact Take.nil | apply Take.cons (by repeat (first | exact Del.here | apply Del.there)))) (by repeat (first | exact trivial | refine And.intro (by repeat (first | exact Mem.here | apply Mem.there)) ?_))
      · try replace h0 := of_decide_eq_false h0
        have hol : okLen r.k.toNat r.l.length = true := okLen_iff.2 ⟨hin, by omega⟩
        refine Jc.skip ?_
        refine Jq.thenN ?_
        refine Jc.seq ?_
        refine Jc.seq ?_
        refine Jc.region ?_
        refine Jl.pv (PR.assign rfl) ?_
        refine Jl.nil ?_
        refine Jq.thenN ?_
        refine Jc.block ?_
        refine Jc.loop (σ := { k : Nat // k ≤ r.l.length ∧ ∀ j, j < k → fineN (r.l.getD j 0) = true }) (fun s => [(5, .int .i64 (s.1 : Int)), (1, .pointer (some ⟨b1, 0, none⟩))]) (fun _ => [.blk b1 43 (r.cs (A, cA))]) (fun _ => [.rd A (i64s r.l)]) (fun s => r.l.length - s.1) ⟨0, Nat.zero_le _, fun _ h => by omega⟩ (by repeat (first | exact trivial | refine And.intro rfl ?_)) rfl (by repeat (first | exact trivial | refine And.intro (by repeat (first | exact Mem.here | apply Mem.there)) ?_)) ?_
        rintro ⟨k, hk, hI⟩
        show Jc _ _ _ _ _ _ [(5, Value.int .i64 (k : Int)), (1, .pointer (some ⟨b1, 0, none⟩))] [.blk b1 43 (r.cs (A, cA))] [.rd A (i64s r.l)]
        refine Jc.seq ?_
        refine Jc.seq ?_
        refine Jc.region ?_
        refine Jl.pv (PR.move rfl) ?_
        refine Jl.pv (PR.fieldAddr rfl tfl43_1) ?_
        refine Jl.pv (PR.load1 rfl tsh41 (by repeat (first | exact Has.here | apply Has.there)) (by rfl)) ?_
        refine Jl.pv (PR.len rfl tsl41) ?_
        refine Jl.pv (PR.lss _ rfl rfl rfl) ?_
        refine Jl.nil ?_
        refine Jq.thenN ?_
        refine Jc.cond rfl (fun h1 => ?_) (fun h1 => ?_)
        · try replace h1 := of_decide_eq_true h1
          have hlt : k < r.l.length := by omega
          refine Jc.skip ?_
          refine Jq.thenN ?_
          refine Jc.seq ?_
          refine Jc.block ?_
          refine Jc.seq ?_
          refine Jc.region ?_
          refine Jl.pv (PR.fieldAddr rfl tfl43_1) ?_
          refine Jl.pv (PR.load1 rfl tsh41 (by repeat (first | exact Has.here | apply Has.there)) (by rfl)) ?_
          refine Jl.pv (PR.move rfl) ?_
          refine Jl.pv (PR.idx1 k rfl rfl tsl41 (by repeat (first | exact Mem.here | apply Mem.there)) (by simp) rfl hlt) ?_
          refine Jl.pv (PR.loadR rfl tsh3 (by repeat (first | exact Mem.here | apply Mem.there)) (getd hlt)) ?_
          refine Jl.pv (PR.lss _ rfl rfl rfl) ?_
          refine Jl.pv (PR.move rfl) ?_
          refine Jl.bsplit (fun g41 => ?_) (fun g41 => ?_)
          · try replace g41 := of_decide_eq_true g41
            have hro : r.ok = false := by rw [Bool.eq_false_iff]; intro h; have := (Rc.ok_iff.1 h).2 (r.l.getD k 0) (by rw [getDE hlt]; exact List.getElem_mem _); simp only [fineN, Bool.and_eq_true, decide_eq_true_eq] at this; omega
            refine Jl.offS rfl rfl rfl ?_
            refine Jl.offS rfl rfl rfl ?_
            refine Jl.offS rfl rfl rfl ?_
            refine Jl.offS rfl rfl rfl ?_
            refine Jl.offS rfl rfl rfl ?_
            refine Jl.offS rfl rfl rfl ?_
            refine Jl.pv (PR.pickT rfl rfl) ?_
            refine Jl.nil ?_
            refine Jq.thenN ?_
            refine Jc.condT rfl ?_
            refine Jc.seq ?_
            refine Jc.region ?_
            refine Jl.pv (PR.assign rfl) ?_
            refine Jl.nil ?_
            refine Jq.thenN ?_
            refine Jc.ret ?_
            refine Jq.blkR ?_
            refine Jq.thenR ?_
            refine Jq.thenR ?_
            refine Jq.blkR ?_
            refine Jq.thenR ?_
            exact Jq.fin () (.inl rfl) rfl (RetVs.tmp rfl RetVs.nil) (by rw [hro]; rfl) (by repeat (first | exact Take.nil | apply Take.cons (by repeat (first | exact Del.here | apply Del.there)))) (by repeat (first | exact trivial | refine And.intro (by repeat (first | exact Mem.here | apply Mem.there)) ?_))
          · try replace g41 := of_decide_eq_false g41
            refine Jl.on rfl rfl ?_
            refine Jl.pv (PR.fieldAddr rfl tfl43_1) ?_
            refine Jl.on rfl rfl ?_
            refine Jl.pv (PR.load1 rfl tsh41 (by repeat (first | exact Has.here | apply Has.there)) (by rfl)) ?_
            refine Jl.on rfl rfl ?_
            refine Jl.pv (PR.move rfl) ?_
            refine Jl.on rfl rfl ?_
            refine Jl.pv (PR.idx1 k rfl rfl tsl41 (by repeat (first | exact Mem.here | apply Mem.there)) (by simp) rfl hlt) ?_
            refine Jl.on rfl rfl ?_
            refine Jl.pv (PR.loadR rfl tsh3 (by repeat (first | exact Mem.here | apply Mem.there)) (getd hlt)) ?_
            refine Jl.on rfl rfl ?_
            refine Jl.pv (PR.gtr _ rfl rfl rfl) ?_
            refine Jl.pv (PR.pickF rfl rfl) ?_
            refine Jl.nil ?_
            refine Jq.thenN ?_
            refine Jc.cond rfl (fun h2 => ?_) (fun h2 => ?_)
            · try replace h2 := of_decide_eq_true h2
              have hro : r.ok = false := by rw [Bool.eq_false_iff]; intro h; have := (Rc.ok_iff.1 h).2 (r.l.getD k 0) (by rw [getDE hlt]; exact List.getElem_mem _); simp only [fineN, Bool.and_eq_true, decide_eq_true_eq] at this; omega
              refine Jc.seq ?_
              refine Jc.region ?_
              refine Jl.pv (PR.assign rfl) ?_
              refine Jl.nil ?_
              refine Jq.thenN ?_
              refine Jc.ret ?_
              refine Jq.blkR ?_
              refine Jq.thenR ?_
              refine Jq.thenR ?_
              refine Jq.blkR ?_
              refine Jq.thenR ?_
              exact Jq.fin () (.inl rfl) rfl (RetVs.tmp rfl RetVs.nil) (by rw [hro]; rfl) (by repeat (first | exact Take.nil | apply Take.cons (by repeat (first | exact Del.here | apply Del.there)))) (by repeat (first | exact trivial | refine And.intro (by repeat (first | exact Mem.here | apply Mem.there)) ?_))
            · try replace h2 := of_decide_eq_false h2
              refine Jc.skip ?_
              refine Jq.blkN ?_
              refine Jq.thenN ?_
              refine Jc.region ?_
              refine Jl.pv (PR.move rfl) ?_
              refine Jl.pv (PR.add ((k + 1 : Nat) : Int) rfl rfl (by rw [w64 (by omega) (by omega)]; rfl)) ?_
              refine Jl.pv (PR.assign rfl) ?_
              refine Jl.nil ?_
              refine Jq.again ⟨k + 1, hlt, fun j hj => (Nat.lt_succ_iff_lt_or_eq.1 hj).elim (hI j) (fun e => by rw [e]; simp only [fineN, Bool.and_eq_true, decide_eq_true_eq]; omega)⟩ (by simp only; omega) (by repeat (first | exact trivial | refine And.intro rfl ?_)) rfl (by repeat (first | exact trivial | refine And.intro (by repeat (first | exact Mem.here | apply Mem.there)) ?_))
        · try replace h1 := of_decide_eq_false h1
          have hro : r.ok = true := Rc.ok_iff.2 ⟨hol, fun n hn => by
            obtain ⟨j, hj, rfl⟩ := List.mem_iff_getElem.1 hn
            rw [← getDE hj]; exact hI j (by omega)⟩
          refine Jc.exit ?_
          refine Jq.thenX ?_
          refine Jq.thenX ?_
          refine Jq.blkX ?_
          refine Jq.thenN ?_
          refine Jc.seq ?_
          refine Jc.region ?_
          refine Jl.pv (PR.assign rfl) ?_
          refine Jl.nil ?_
          refine Jq.thenN ?_
          refine Jc.ret ?_
          exact Jq.fin () (.inl rfl) rfl (RetVs.tmp rfl RetVs.nil) (by rw [hro]; rfl) (by repeat (first | exact Take.nil | apply Take.cons (by repeat (first | exact Del.here | apply Del.there)))) (by repeat (first | exact trivial | refine And.intro (by repeat (first | exact Mem.here | apply Mem.there)) ?_))
theorem rofR_ct (k : UInt8) (A : Option Addr) (c : Nat) (l : List Int) (hn : l.length ≤ 1000000) : Ct Tryd.prog 44 [.int .u8 k.toNat, .slice A l.length c] [] [.rd A (i64s l)] (⟨k, l⟩ : Rc).v (fun x => [(⟨k, l⟩ : Rc).row x]) (fun _ => []) := by
  refine Ct.of _ Tryd.func44 Tryd.ntmps44 rfl rfl (fun X W => ?_)
  refine Jc.seq ?_
  refine Jc.region ?_
  refine Jl.alloc tze43 ?_
  intro b4
  refine Jl.nil ?_
  refine Jq.thenN ?_
  refine Jc.seq ?_
  refine Jc.region ?_
  refine Jl.pv (PR.move rfl) ?_
  refine Jl.buildSlice (by rfl) tsl41 tzr41_0 (by rfl) (by rfl) ?_
  intro b6
  refine Jl.pv (PR.move rfl) ?_
  refine Jl.toRow 1 0 (by repeat (first | exact Swap.here | apply Swap.there)) (by rfl) (by rfl) ?_
  refine Jl.append l.length (i64s l) rfl rfl rfl tsl41 tze3 (by rfl) (by decide) tby3 (fun _ _ => (by repeat (first | exact Swap.here | apply Swap.there))) (by repeat (first | exact Mem.here | apply Mem.there)) (by omega) rfl (by simp) (i64s_one _) (by omega) (by decide) ?_
  intro A8 c8
  refine Jl.pv (PR.build (by rfl) tze43 tpl43_0_1 (by rfl)) ?_
  refine Jl.storeW rfl tsh43 rfl (by rfl) (by simp [Value.oneCell']) (by repeat (first | exact Swap.here | apply Swap.there)) (by rfl) ?_
  refine Jl.nil ?_
  refine Jq.thenN ?_
  refine Jc.ret ?_
  exact Jq.fin (A8, c8) (.inl rfl) rfl (RetVs.cellA rfl (by repeat (first | exact Has.here | apply Has.there)) tsh43 (by rfl) RetVs.nil) rfl (by repeat (first | exact Take.nil | apply Take.cons (by repeat (first | exact Del.here | apply Del.there)))) (by repeat (first | exact trivial | refine And.intro (by repeat (first | exact Mem.here | apply Mem.there)) ?_))
theorem rsameR_ct (a b : Rc) (x y : AdC) (hn : a.l.length ≤ 1000000) : Ct Tryd.prog 26 [a.v x, b.v y] [] [.rd x.1 (i64s a.l), .rd y.1 (i64s b.l)] (fun _ : Unit => .bool (sameR a b)) (fun _ => []) (fun _ => []) := by
  obtain ⟨A, cA⟩ := x
  obtain ⟨B, cB⟩ := y
  have hno : a ≠ b → sameR a b = false := fun h => Bool.eq_false_iff.2 fun h1 => h (sameR_iff.1 h1)
  refine Ct.of _ Tryd.func26 Tryd.ntmps26 rfl rfl (fun X W => ?_)
  refine Jc.seq ?_
  refine Jc.region ?_
  refine Jl.box rfl (by rfl) ?_
  intro b2
  refine Jl.box rfl (by rfl) ?_
  intro b3
  refine Jl.pv (PR.assign rfl) ?_
  refine Jl.nil ?_
  refine Jq.thenN ?_
  refine Jc.seq ?_
  refine Jc.seq ?_
  refine Jc.region ?_
  refine Jl.pv (PR.fieldAddr rfl tfl43_0) ?_
  refine Jl.pv (PR.load1 rfl tsh5 (by repeat (first | exact Has.here | apply Has.there)) (by rfl)) ?_
  refine Jl.pv (PR.fieldAddr rfl tfl43_0) ?_
  refine Jl.pv (PR.load1 rfl tsh5 (by repeat (first | exact Has.here | apply Has.there)) (by rfl)) ?_
  refine Jl.pv (PR.neq _ rfl rfl rfl) ?_
  refine Jl.pv (PR.move rfl) ?_
  refine Jl.bsplit (fun g11 => ?_) (fun g11 => ?_)
  · try replace g11 := of_decide_eq_true g11
    refine Jl.offS rfl rfl rfl ?_
    refine Jl.offS rfl rfl rfl ?_
    refine Jl.offS rfl rfl rfl ?_
    refine Jl.offS rfl rfl rfl ?_
    refine Jl.offS rfl rfl rfl ?_
    refine Jl.offS rfl rfl rfl ?_
    refine Jl.offS rfl rfl rfl ?_
    refine Jl.pv (PR.pickT rfl rfl) ?_
    refine Jl.nil ?_
    refine Jq.thenN ?_
    refine Jc.condT rfl ?_
    refine Jc.seq ?_
    refine Jc.region ?_
    refine Jl.pv (PR.assign rfl) ?_
    refine Jl.nil ?_
    refine Jq.thenN ?_
    refine Jc.ret ?_
    refine Jq.thenR ?_
    exact Jq.fin () (.inl rfl) rfl (RetVs.tmp rfl RetVs.nil) (by rw [hno (fun h => g11 (by rw [h]))]; rfl) (by repeat (first | exact Take.nil | apply Take.cons (by repeat (first | exact Del.here | apply Del.there)))) (by repeat (first | exact trivial | refine And.intro (by repeat (first | exact Mem.here | apply Mem.there)) ?_))
  · try replace g11 := of_decide_eq_false g11
    refine Jl.on rfl rfl ?_
    refine Jl.pv (PR.fieldAddr rfl tfl43_1) ?_
    refine Jl.on rfl rfl ?_
    refine Jl.pv (PR.load1 rfl tsh41 (by repeat (first | exact Has.here | apply Has.there)) (by rfl)) ?_
    refine Jl.on rfl rfl ?_
    refine Jl.pv (PR.len rfl tsl41) ?_
    refine Jl.on rfl rfl ?_
    refine Jl.pv (PR.fieldAddr rfl tfl43_1) ?_
    refine Jl.on rfl rfl ?_
    refine Jl.pv (PR.load1 rfl tsh41 (by repeat (first | exact Has.here | apply Has.there)) (by rfl)) ?_
    refine Jl.on rfl rfl ?_
    refine Jl.pv (PR.len rfl tsl41) ?_
    refine Jl.on rfl rfl ?_
    refine Jl.pv (PR.neq _ rfl rfl rfl) ?_
    refine Jl.pv (PR.pickF rfl rfl) ?_
    refine Jl.nil ?_
    refine Jq.thenN ?_
    refine Jc.cond rfl (fun h0 => ?_) (fun h0 => ?_)
    · try replace h0 := of_decide_eq_true h0
      refine Jc.seq ?_
      refine Jc.region ?_
      refine Jl.pv (PR.assign rfl) ?_
      refine Jl.nil ?_
      refine Jq.thenN ?_
      refine Jc.ret ?_
      refine Jq.thenR ?_
      exact Jq.fin () (.inl rfl) rfl (RetVs.tmp rfl RetVs.nil) (by rw [hno (fun h => h0 (by rw [h]))]; rfl) (by repeat (first | exact Take.nil | apply Take.cons (by repeat (first | exact Del.here | apply Del.there)))) (by repeat (first | exact trivial | refine And.intro (by repeat (first | exact Mem.here | apply Mem.there)) ?_))
    · try replace h0 := of_decide_eq_false h0
      have hll : a.l.length = b.l.length := by omega
      have hkk : a.k = b.k := u8_eq.1 (Decidable.of_not_not g11)
      refine Jc.skip ?_
      refine Jq.thenN ?_
      refine Jc.seq ?_
      refine Jc.seq ?_
      refine Jc.region ?_
      refine Jl.pv (PR.assign rfl) ?_
      refine Jl.nil ?_
      refine Jq.thenN ?_
      refine Jc.block ?_
      refine Jc.loop (σ := { k : Nat // k ≤ a.l.length ∧ ∀ j, j < k → a.l[j]? = b.l[j]? }) (fun s => [(5, .int .i64 (s.1 : Int)), (2, .pointer (some ⟨b2, 0, none⟩)), (3, .pointer (some ⟨b3, 0, none⟩))]) (fun _ => [.blk b3 43 (b.cs (B, cB)), .blk b2 43 (a.cs (A, cA))]) (fun _ => [.rd A (i64s a.l), .rd B (i64s b.l)]) (fun s => a.l.length - s.1) ⟨0, Nat.zero_le _, fun _ h => by omega⟩ (by repeat (first | exact trivial | refine And.intro rfl ?_)) rfl (by repeat (first | exact trivial | refine And.intro (by repeat (first | exact Mem.here | apply Mem.there)) ?_)) ?_
      rintro ⟨k, hk, hq⟩
      show Jc _ _ _ _ _ _ [(5, Value.int .i64 (k : Int)), (2, .pointer (some ⟨b2, 0, none⟩)), (3, .pointer (some ⟨b3, 0, none⟩))] [.blk b3 43 (b.cs (B, cB)), .blk b2 43 (a.cs (A, cA))] [.rd A (i64s a.l), .rd B (i64s b.l)]
      refine Jc.seq ?_
      refine Jc.seq ?_
      refine Jc.region ?_
      refine Jl.pv (PR.move rfl) ?_
      refine Jl.pv (PR.fieldAddr rfl tfl43_1) ?_
      refine Jl.pv (PR.load1 rfl tsh41 (by repeat (first | exact Has.here | apply Has.there)) (by rfl)) ?_
      refine Jl.pv (PR.len rfl tsl41) ?_
      refine Jl.pv (PR.lss _ rfl rfl rfl) ?_
      refine Jl.nil ?_
      refine Jq.thenN ?_
      refine Jc.cond rfl (fun hlt => ?_) (fun hlt => ?_)
      · try replace hlt := of_decide_eq_true hlt
        have hlt' : k < a.l.length := by omega
        have hlt2 : k < b.l.length := by omega
        refine Jc.skip ?_
        refine Jq.thenN ?_
        refine Jc.seq ?_
        refine Jc.block ?_
        refine Jc.seq ?_
        refine Jc.drawn [0, 1, 0, 7, 15, 0, 32, 0, 224, 480, 1023] ([(0, false), (1, false), (2, false), (3, false), (4, false), (5, false), (6, false), (7, false), (8, false), (9, false), (10, false)], []) [] tmx (by kernel_rfl) ?_
        refine Dh.JH.nil ?_
        refine Dh.JB.pv rfl trivial (fun _ => PR.fieldAddr rfl tfl43_1) ?_
        refine Dh.JB.rd [.blk _ _ _] rfl trivial (by repeat (first | exact Take.nil | apply Take.cons (by repeat (first | exact Del.here | apply Del.there)))) (fun _ => PR.load1 rfl tsh41 Has.here (by rfl)) ?_
        refine Dh.JB.pv rfl trivial (fun _ => PR.move rfl) ?_
        refine Dh.JB.pv rfl trivial (fun _ => PR.idx1 k rfl rfl tsl41 (by repeat (first | exact Mem.here | apply Mem.there)) (by simp) rfl hlt') ?_
        refine Dh.JB.pv rfl trivial (fun _ => PR.loadR rfl tsh3 (by repeat (first | exact Mem.here | apply Mem.there)) (getm hlt')) ?_
        refine Dh.JB.pv rfl trivial (fun _ => PR.fieldAddr rfl tfl43_1) ?_
        refine Dh.JB.rd [.blk _ _ _] rfl trivial (by repeat (first | exact Take.nil | apply Take.cons (by repeat (first | exact Del.here | apply Del.there)))) (fun _ => PR.load1 rfl tsh41 Has.here (by rfl)) ?_
        refine Dh.JB.pv rfl trivial (fun _ => PR.move rfl) ?_
        refine Dh.JB.pv rfl trivial (fun _ => PR.idx1 k rfl rfl tsl41 (by repeat (first | exact Mem.here | apply Mem.there)) (by simp) rfl hlt2) ?_
        refine Dh.JB.pv rfl trivial (fun _ => PR.loadR rfl tsh3 (by repeat (first | exact Mem.here | apply Mem.there)) (getm hlt2)) ?_
        refine Dh.JB.pv rfl trivial (fun _ => PR.neq _ rfl rfl rfl) ?_
        refine Dh.JB.nil ?_
        refine Dh.JL.nil ?_
        refine Jq.thenN ?_
        refine Jc.cond rfl (fun h2 => ?_) (fun h2 => ?_)
        · try replace h2 := of_decide_eq_true h2
          refine Jc.seq ?_
          refine Jc.region ?_
          refine Jl.pv (PR.assign rfl) ?_
          refine Jl.nil ?_
          refine Jq.thenN ?_
          refine Jc.ret ?_
          refine Jq.blkR ?_
          refine Jq.thenR ?_
          refine Jq.thenR ?_
          refine Jq.blkR ?_
          refine Jq.thenR ?_
          exact Jq.fin () (.inl rfl) rfl (RetVs.tmp rfl RetVs.nil) (by rw [hno (fun h => h2 (by subst h; rfl))]; rfl) (by repeat (first | exact Take.nil | apply Take.cons (by repeat (first | exact Del.here | apply Del.there)))) (by repeat (first | exact trivial | refine And.intro (by repeat (first | exact Mem.here | apply Mem.there)) ?_))
        · try replace h2 := of_decide_eq_false h2
          refine Jc.skip ?_
          refine Jq.blkN ?_
          refine Jq.thenN ?_
          refine Jc.region ?_
          refine Jl.pv (PR.move rfl) ?_
          refine Jl.pv (PR.add ((k + 1 : Nat) : Int) rfl rfl (by rw [w64 (by omega) (by omega)]; rfl)) ?_
          refine Jl.pv (PR.assign rfl) ?_
          refine Jl.nil ?_
          refine Jq.again ⟨k + 1, hlt', fun j h => ?_⟩ (by simp only; omega) (by repeat (first | exact trivial | refine And.intro rfl ?_)) rfl (by repeat (first | exact trivial | refine And.intro (by repeat (first | exact Mem.here | apply Mem.there)) ?_))
          rcases Nat.lt_or_ge j k with h1 | h1
          · exact hq j h1
          · obtain rfl : j = k := by omega
            rw [List.getElem?_eq_getElem hlt', List.getElem?_eq_getElem hlt2, Decidable.of_not_not h2]
      · try replace hlt := of_decide_eq_false hlt
        have hms : a.l = b.l := List.ext_getElem? fun j => by
          rcases Nat.lt_or_ge j k with h1 | h1
          · exact hq j h1
          · rw [List.getElem?_eq_none (by omega), List.getElem?_eq_none (by omega)]
        refine Jc.exit ?_
        refine Jq.thenX ?_
        refine Jq.thenX ?_
        refine Jq.blkX ?_
        refine Jq.thenN ?_
        refine Jc.seq ?_
        refine Jc.region ?_
        refine Jl.pv (PR.assign rfl) ?_
        refine Jl.nil ?_
        refine Jq.thenN ?_
        refine Jc.ret ?_
        exact Jq.fin () (.inl rfl) rfl (RetVs.tmp rfl RetVs.nil) (by rw [show sameR a b = true by simp [sameR, hkk, hms]]; rfl) (by repeat (first | exact Take.nil | apply Take.cons (by repeat (first | exact Del.here | apply Del.there)))) (by repeat (first | exact trivial | refine And.intro (by repeat (first | exact Mem.here | apply Mem.there)) ?_))
theorem rallR_ct (L : Option Addr) (cL : Nat) (zs : Rcs) (hn : zs.length ≤ 1000000) (hl : ∀ z ∈ zs, z.2.l.length ≤ 1000000) : Ct Tryd.prog 27 [.slice L zs.length cL] [] [.rd L (rcsV zs), .rcs zs] (fun _ : Unit => .bool (okAll zs)) (fun _ => []) (fun _ => []) := by
  refine Ct.of _ Tryd.func27 Tryd.ntmps27 rfl rfl (fun X W => ?_)
  refine Jc.seq ?_
  refine Jc.region ?_
  refine Jl.pv (PR.assign rfl) ?_
  refine Jl.nil ?_
  refine Jq.thenN ?_
  refine Jc.seq ?_
  refine Jc.seq ?_
  refine Jc.region ?_
  refine Jl.pv (PR.assign rfl) ?_
  refine Jl.nil ?_
  refine Jq.thenN ?_
  refine Jc.block ?_
  refine Jc.loop (σ := { k : Nat // k ≤ zs.length ∧ ∀ j, j < k → (h : j < zs.length) → zs[j].2.ok = true }) (fun s => [(3, .int .i64 (s.1 : Int)), (0, .slice L zs.length cL)]) (fun _ => []) (fun _ => [.rd L (rcsV zs), .rcs zs]) (fun s => zs.length - s.1) ⟨0, Nat.zero_le _, fun _ h _ => by omega⟩ (by repeat (first | exact trivial | refine And.intro rfl ?_)) rfl (by repeat (first | exact trivial | refine And.intro (by repeat (first | exact Mem.here | apply Mem.there)) ?_)) ?_
  rintro ⟨k, hk, hq⟩
  show Jc _ _ _ _ _ _ [(3, Value.int .i64 (k : Int)), (0, .slice L zs.length cL)] [] [.rd L (rcsV zs), .rcs zs]
  refine Jc.seq ?_
  refine Jc.seq ?_
  refine Jc.region ?_
  refine Jl.pv (PR.move rfl) ?_
  refine Jl.pv (PR.move rfl) ?_
  refine Jl.pv (PR.len rfl tsl25) ?_
  refine Jl.pv (PR.lss _ rfl rfl rfl) ?_
  refine Jl.nil ?_
  refine Jq.thenN ?_
  refine Jc.cond rfl (fun hlt => ?_) (fun hlt => ?_)
  · try replace hlt := of_decide_eq_true hlt
    have hlt' : k < zs.length := by omega
    refine Jc.fact (.rd zs[k].1.1 (i64s zs[k].2.l)) (φ := .rcs zs) (by repeat (first | exact Mem.here | apply Mem.there)) (fun X W h => h _ (List.getElem_mem _)) ?_
    refine Jc.skip ?_
    refine Jq.thenN ?_
    refine Jc.seq ?_
    refine Jc.block ?_
    refine Jc.seq ?_
    refine Jc.region ?_
    refine Jl.pv (PR.move rfl) ?_
    refine Jl.pv (PR.move rfl) ?_
    refine Jl.pv (PR.idx k rfl rfl tsl25 (by repeat (first | exact Mem.here | apply Mem.there)) (rcsV_len zs) (by omega) rfl hlt') ?_
    refine Jl.pv (PR.loadRA rfl tsh43 (by repeat (first | exact Mem.here | apply Mem.there)) (by decide) (rcs_at hlt')) ?_
    refine Jl.call (rright_ct zs[k].2 zs[k].1 (hl _ (List.getElem_mem _))) en22 (by rfl) (by repeat (first | exact Take.nil | apply Take.cons (by repeat (first | exact Del.here | apply Del.there)))) (by repeat (first | exact trivial | refine And.intro (by repeat (first | exact Mem.here | apply Mem.there)) ?_)) ?_
    rintro ⟨⟩
    refine Jl.pv (PR.not rfl) ?_
    refine Jl.nil ?_
    refine Jq.thenN ?_
    refine Jc.cond rfl (fun h1 => ?_) (fun h1 => ?_)
    · try replace h1 := of_decide_eq_true h1
      refine Jc.seq ?_
      refine Jc.region ?_
      refine Jl.pv (PR.assign rfl) ?_
      refine Jl.nil ?_
      refine Jq.thenN ?_
      refine Jc.ret ?_
      refine Jq.blkR ?_
      refine Jq.thenR ?_
      refine Jq.thenR ?_
      refine Jq.blkR ?_
      refine Jq.thenR ?_
      exact Jq.fin () (.inl rfl) rfl (RetVs.tmp rfl RetVs.nil) (by rw [show okAll zs = false from List.all_eq_false.2 ⟨zs[k], List.getElem_mem _, by rw [not_true h1]; simp⟩]; rfl) (by repeat (first | exact Take.nil | apply Take.cons (by repeat (first | exact Del.here | apply Del.there)))) (by repeat (first | exact trivial | refine And.intro (by repeat (first | exact Mem.here | apply Mem.there)) ?_))
    · try replace h1 := of_decide_eq_false h1
      refine Jc.skip ?_
      refine Jq.blkN ?_
      refine Jq.thenN ?_
      refine Jc.region ?_
      refine Jl.pv (PR.move rfl) ?_
      refine Jl.pv (PR.add ((k + 1 : Nat) : Int) rfl rfl (by rw [w64 (by omega) (by omega)]; rfl)) ?_
      refine Jl.pv (PR.assign rfl) ?_
      refine Jl.nil ?_
      refine Jq.again ⟨k + 1, hlt', fun j hj h => (Nat.lt_succ_iff_lt_or_eq.1 hj).elim (fun h1 => hq j h1 h) (fun e => by subst e; exact not_false h1)⟩ (by simp only; omega) (by repeat (first | exact trivial | refine And.intro rfl ?_)) rfl (by repeat (first | exact trivial | refine And.intro (by repeat (first | exact Mem.here | apply Mem.there)) ?_))
  · try replace hlt := of_decide_eq_false hlt
    have hall : okAll zs = true := List.all_eq_true.2 fun z hz => by
      obtain ⟨j, hj, rfl⟩ := List.mem_iff_getElem.1 hz
      exact hq j (by omega) hj
    refine Jc.exit ?_
    refine Jq.thenX ?_
    refine Jq.thenX ?_
    refine Jq.blkX ?_
    refine Jq.thenN ?_
    refine Jc.seq ?_
    refine Jc.region ?_
    refine Jl.pv (PR.assign rfl) ?_
    refine Jl.nil ?_
    refine Jq.thenN ?_
    refine Jc.ret ?_
    exact Jq.fin () (.inl rfl) rfl (RetVs.tmp rfl RetVs.nil) (by rw [hall]; rfl) (by repeat (first | exact Take.nil | apply Take.cons (by repeat (first | exact Del.here | apply Del.there)))) (by repeat (first | exact trivial | refine And.intro (by repeat (first | exact Mem.here | apply Mem.there)) ?_))
end Go.Proofs.YtcohgnagffibcaaDoor
namespace Go.Proofs.YtcohgnagffibcaaDoor
set_option linter.unusedVariables false
open Go.RowKit
attribute [local irreducible] Res.blk Res.row Fact.rd
theorem rrowN_at {A : Option Addr} {c n : Nat} {l : List Int} (hl : l.length = n) (hn : n ≤ 1000) (h : rowOk l = true) : Ct Tryd.prog 65 [.slice A n c] [] [.rd A (i64s l)] (fun x : Option Addr × Nat => .tuple #[.slice x.1 (rowsB l).length x.2, .int .i64 0]) (rowU (rowsB l)) (fun _ => []) := by
  subst hl
  have h0 := rrowN_ct A c l hn
  rw [show rowN l = rowsB l from if_pos h, show rowR l = 0 from if_pos h] at h0
  exact h0
theorem rputR_ct (r : Rc) (x : AdC) (hn : r.l.length ≤ 1000000) : Ct Tryd.prog 50 [r.v x] [] [.rd x.1 (i64s r.l)] (fun x : AdC => .tuple #[.slice x.1 r.bytes.length x.2, .int .i64 r.putE]) (fun x => [.row 5 1 (.slice x.1 r.bytes.length x.2) r.bytes.length (u8s r.bytes)]) (fun _ => []) := by
  obtain ⟨A, cA⟩ := x
  by_cases hok : r.ok = true
  · have e1 : r.bytes = rowsB r.nums := if_pos hok
    have e2 : r.putE = 0 := if_pos hok
    have hl := Rc.ok_len hok
    have hro := rc_rowOk hok
    rw [e1, e2]
    refine Ct.of _ Tryd.func50 Tryd.ntmps50 rfl rfl (fun X W => ?_)
    refine Jc.seq ?_
    refine Jc.region ?_
    refine Jl.box rfl (by rfl) ?_
    intro b1
    refine Jl.pv (PR.assign rfl) ?_
    refine Jl.pv (PR.assign rfl) ?_
    refine Jl.nil ?_
    refine Jq.thenN ?_
    refine Jc.seq ?_
    refine Jc.seq ?_
    refine Jc.region ?_
    refine Jl.pv (PR.loadW rfl tsh43 (by repeat (first | exact Has.here | apply Has.there)) (by rfl)) ?_
    refine Jl.call (rright_ct r (A, cA) hn) en22 (by rfl) (by repeat (first | exact Take.nil | apply Take.cons (by repeat (first | exact Del.here | apply Del.there)))) (by repeat (first | exact trivial | refine And.intro (by repeat (first | exact Mem.here | apply Mem.there)) ?_)) ?_
    rintro ⟨⟩
    refine Jl.as (.bool true) (congrArg Value.bool hok) ?_
    refine Jl.pv (PR.not rfl) ?_
    refine Jl.nil ?_
    refine Jq.thenN ?_
    refine Jc.condF rfl ?_
    refine Jc.skip ?_
    refine Jq.thenN ?_
    refine Jc.seq ?_
    refine Jc.region ?_
    refine Jl.pv (PR.fieldAddr rfl tfl43_0) ?_
    refine Jl.pv (PR.load1 rfl tsh5 (by repeat (first | exact Has.here | apply Has.there)) (by rfl)) ?_
    refine Jl.pv (PR.conv ((r.k.toNat : Nat) : Int) rfl Tryd.underlying5 Tryd.underlying3 (w64 (by omega) (by omega))) ?_
    refine Jl.buildSlice (by rfl) tsl41 tzr41_1 (by rfl) (by rfl) ?_
    intro b10
    refine Jl.pv (PR.fieldAddr rfl tfl43_1) ?_
    refine Jl.pv (PR.load1 rfl tsh41 (by repeat (first | exact Has.here | apply Has.there)) (by rfl)) ?_
    refine Jl.toRow 1 1 (by repeat (first | exact Swap.here | apply Swap.there)) (by rfl) (by rfl) ?_
    refine Jl.append r.nums.length (i64s r.nums) rfl rfl rfl tsl41 tze3 (by rfl) (by decide) tby3 (fun _ _ => (by repeat (first | exact Swap.here | apply Swap.there))) (by repeat (first | exact Mem.here | apply Mem.there)) (by simp [Rc.nums]; omega) (by simp [Rc.nums]) (by simp) (i64s_one _) (by omega) (by decide) ?_
    intro A13 c13
    refine Jl.sealR (by repeat (first | exact Del.here | apply Del.there)) ?_
    refine Jl.call (rrowN_at (l := r.nums) rfl (by simp [Rc.nums]; omega) hro) en65 (by rfl) (by repeat (first | exact Take.nil | apply Take.cons (by repeat (first | exact Del.here | apply Del.there)))) (by repeat (first | exact trivial | refine And.intro (by repeat (first | exact Mem.here | apply Mem.there)) ?_)) ?_
    rintro ⟨A14, c14⟩
    refine Jl.pv (PR.extract rfl (by rfl)) ?_
    refine Jl.pv (PR.extract rfl (by rfl)) ?_
    refine Jl.pv (PR.assign rfl) ?_
    refine Jl.pv (PR.assign rfl) ?_
    refine Jl.nil ?_
    refine Jq.thenN ?_
    refine Jc.ret ?_
    exact Jq.fin (A14, c14) (.inl rfl) rfl (RetVs.tmp rfl (RetVs.tmp rfl RetVs.nil)) rfl (by repeat (first | exact Take.nil | apply Take.cons (by repeat (first | exact Del.here | apply Del.there)))) (by repeat (first | exact trivial | refine And.intro (by repeat (first | exact Mem.here | apply Mem.there)) ?_))
  · have e1 : r.bytes = [] := if_neg hok
    have e2 : r.putE = 2 := if_neg hok
    rw [e1, e2]
    refine Ct.of _ Tryd.func50 Tryd.ntmps50 rfl rfl (fun X W => ?_)
    refine Jc.seq ?_
    refine Jc.region ?_
    refine Jl.box rfl (by rfl) ?_
    intro b1
    refine Jl.pv (PR.assign rfl) ?_
    refine Jl.pv (PR.assign rfl) ?_
    refine Jl.nil ?_
    refine Jq.thenN ?_
    refine Jc.seq ?_
    refine Jc.seq ?_
    refine Jc.region ?_
    refine Jl.pv (PR.loadW rfl tsh43 (by repeat (first | exact Has.here | apply Has.there)) (by rfl)) ?_
    refine Jl.call (rright_ct r (A, cA) hn) en22 (by rfl) (by repeat (first | exact Take.nil | apply Take.cons (by repeat (first | exact Del.here | apply Del.there)))) (by repeat (first | exact trivial | refine And.intro (by repeat (first | exact Mem.here | apply Mem.there)) ?_)) ?_
    rintro ⟨⟩
    refine Jl.as (.bool false) (congrArg Value.bool (by simpa using hok)) ?_
    refine Jl.pv (PR.not rfl) ?_
    refine Jl.nil ?_
    refine Jq.thenN ?_
    refine Jc.condT rfl ?_
    refine Jc.seq ?_
    refine Jc.region ?_
    refine Jl.pv (PR.assign rfl) ?_
    refine Jl.pv (PR.assign rfl) ?_
    refine Jl.nil ?_
    refine Jq.thenN ?_
    refine Jc.ret ?_
    refine Jq.thenR ?_
    refine Jq.nilRow 5 1 ?_
    exact Jq.fin (none, 0) (.inl rfl) rfl (RetVs.tmp rfl (RetVs.tmp rfl RetVs.nil)) rfl (by repeat (first | exact Take.nil | apply Take.cons (by repeat (first | exact Del.here | apply Del.there)))) (by repeat (first | exact trivial | refine And.intro (by repeat (first | exact Mem.here | apply Mem.there)) ?_))
theorem rtakeR_ct (A : Option Addr) (cA : Nat) (b : List UInt8) (hn : b.length ≤ 1000000) (hc : b.length ≤ cA) : Ct Tryd.prog 31 [.slice A b.length cA] [] [.rd A (u8s b)] (fun x : AdC => .tuple #[(rcOf b).v x, .int .i64 (rcE b)]) (fun x => [(rcOf b).row x]) (fun _ => []) := by
  obtain ⟨tl, tr, te, ht⟩ : ∃ tl tr te, takeRowN b = (tl, tr, te) := ⟨_, _, _, rfl⟩
  have htr : Ct Tryd.prog 43 [.slice A b.length cA] [] [.rd A (u8s b)] (fun x : OA × OA => .tuple #[.slice x.1.1 tl.length x.1.2, .slice x.2.1 tr.length x.2.2, .int .i64 te]) (fun x => [.row 3 1 (.slice x.1.1 tl.length x.1.2) tl.length (natI tl)]) (fun x => [.rd x.2.1 (u8s tr), .is (tr.length ≤ x.2.2)]) := by
    have h0 := rtakeRow_ct A cA b hn hc
    rw [ht] at h0
    exact h0
  have htl : tl.length ≤ 40 := by have := takeRow_40 b; rw [ht] at this; exact this
  have hgd : rcGood (takeRowN b) = ((decide (te = 0) && decide (tr.length = 0)) && ((decide (0 < tl.length) && decide (tl.getD 0 0 < 17)) && (rcRaw tl).ok)) := by rw [ht]; rfl
  have hno : rcGood (takeRowN b) = false → rcOf b = Rc.zero ∧ rcE b = 11 := fun h => ⟨if_neg (by rw [h]; simp), if_neg (by rw [h]; simp)⟩
  have hye : rcGood (takeRowN b) = true → rcOf b = rcRaw tl ∧ rcE b = 0 := fun h => ⟨by rw [rcOf, if_pos h, ht], if_pos h⟩
  refine Ct.of _ Tryd.func31 Tryd.ntmps31 rfl rfl (fun X W => ?_)
  refine Jc.seq ?_
  refine Jc.region ?_
  refine Jl.alloc tze43 ?_
  intro b2
  refine Jl.pv (PR.assign rfl) ?_
  refine Jl.nil ?_
  refine Jq.thenN ?_
  refine Jc.seq ?_
  refine Jc.region ?_
  refine Jl.pv (PR.move rfl) ?_
  refine Jl.call htr en43 (by rfl) (by repeat (first | exact Take.nil | apply Take.cons (by repeat (first | exact Del.here | apply Del.there)))) (by repeat (first | exact trivial | refine And.intro (by repeat (first | exact Mem.here | apply Mem.there)) ?_)) ?_
  rintro ⟨⟨A10, c10⟩, ⟨B10, d10⟩⟩
  refine Jl.sealC (by repeat (first | exact Del.here | apply Del.there)) (fun hc10 => ?_)
  refine Jl.pv (PR.move rfl) ?_
  refine Jl.pv (PR.extract rfl (by rfl)) ?_
  refine Jl.pv (PR.extract rfl (by rfl)) ?_
  refine Jl.pv (PR.extract rfl (by rfl)) ?_
  refine Jl.pv (PR.assign rfl) ?_
  refine Jl.pv (PR.assign rfl) ?_
  refine Jl.pv (PR.assign rfl) ?_
  refine Jl.nil ?_
  refine Jq.thenN ?_
  refine Jc.seq ?_
  refine Jc.seq ?_
  refine Jc.region ?_
  refine Jl.pv (PR.move rfl) ?_
  refine Jl.pv (PR.neq _ rfl rfl rfl) ?_
  refine Jl.pv (PR.move rfl) ?_
  refine Jl.bsplit (fun g16 => ?_) (fun g16 => ?_)
  · try replace g16 := of_decide_eq_true g16
    have hbad : rcGood (takeRowN b) = false := by rw [hgd, decide_eq_false (by omega)]; rfl
    refine Jl.offS rfl rfl rfl ?_
    refine Jl.offS rfl rfl rfl ?_
    refine Jl.offS rfl rfl rfl ?_
    refine Jl.pv (PR.pickT rfl rfl) ?_
    refine Jl.pv (PR.move rfl) ?_
    refine Jl.offS rfl rfl rfl ?_
    refine Jl.offS rfl rfl rfl ?_
    refine Jl.offS rfl rfl rfl ?_
    refine Jl.pv (PR.pickT rfl rfl) ?_
    refine Jl.pv (PR.move rfl) ?_
    refine Jl.offS rfl rfl rfl ?_
    refine Jl.offS rfl rfl rfl ?_
    refine Jl.offS rfl rfl rfl ?_
    refine Jl.offS rfl rfl rfl ?_
    refine Jl.pv (PR.pickT rfl rfl) ?_
    refine Jl.nil ?_
    refine Jq.thenN ?_
    refine Jc.condT rfl ?_
    refine Jc.seq ?_
    refine Jc.region ?_
    refine Jl.pv (PR.build (by rfl) tze43 tpl43_ (by rfl)) ?_
    refine Jl.storeW rfl tsh43 rfl (by rfl) (by first | exact rc_one _ _ | simp [Value.oneCell']) (by repeat (first | exact Swap.here | apply Swap.there)) (by rfl) ?_
    refine Jl.pv (PR.assign rfl) ?_
    refine Jl.nil ?_
    refine Jq.thenN ?_
    refine Jc.ret ?_
    refine Jq.thenR ?_
    rw [(hno hbad).1, (hno hbad).2]
    refine Jq.nilRow 3 1 ?_
    exact Jq.fin (none, 0) (.inl rfl) rfl (RetVs.cellA rfl (by repeat (first | exact Has.here | apply Has.there)) tsh43 (by rfl) (RetVs.tmp rfl RetVs.nil)) rfl (by repeat (first | exact Take.nil | apply Take.cons (by repeat (first | exact Del.here | apply Del.there)))) (by repeat (first | exact trivial | refine And.intro (by repeat (first | exact Mem.here | apply Mem.there)) ?_))
  · try replace g16 := of_decide_eq_false g16
    refine Jl.on rfl rfl ?_
    refine Jl.pv (PR.move rfl) ?_
    refine Jl.on rfl rfl ?_
    refine Jl.pv (PR.len rfl tsl22) ?_
    refine Jl.on rfl rfl ?_
    refine Jl.pv (PR.gtr _ rfl rfl rfl) ?_
    refine Jl.pv (PR.pickF rfl rfl) ?_
    refine Jl.pv (PR.move rfl) ?_
    refine Jl.bsplit (fun g21 => ?_) (fun g21 => ?_)
    · try replace g21 := of_decide_eq_true g21
      have hbad : rcGood (takeRowN b) = false := by rw [hgd, decide_eq_false (p := tr.length = 0) (by omega), Bool.and_false]; rfl
      refine Jl.offS rfl rfl rfl ?_
      refine Jl.offS rfl rfl rfl ?_
      refine Jl.offS rfl rfl rfl ?_
      refine Jl.pv (PR.pickT rfl rfl) ?_
      refine Jl.pv (PR.move rfl) ?_
      refine Jl.offS rfl rfl rfl ?_
      refine Jl.offS rfl rfl rfl ?_
      refine Jl.offS rfl rfl rfl ?_
      refine Jl.offS rfl rfl rfl ?_
      refine Jl.pv (PR.pickT rfl rfl) ?_
      refine Jl.nil ?_
      refine Jq.thenN ?_
      refine Jc.condT rfl ?_
      refine Jc.seq ?_
      refine Jc.region ?_
      refine Jl.pv (PR.build (by rfl) tze43 tpl43_ (by rfl)) ?_
      refine Jl.storeW rfl tsh43 rfl (by rfl) (by first | exact rc_one _ _ | simp [Value.oneCell']) (by repeat (first | exact Swap.here | apply Swap.there)) (by rfl) ?_
      refine Jl.pv (PR.assign rfl) ?_
      refine Jl.nil ?_
      refine Jq.thenN ?_
      refine Jc.ret ?_
      refine Jq.thenR ?_
      rw [(hno hbad).1, (hno hbad).2]
      refine Jq.nilRow 3 1 ?_
      exact Jq.fin (none, 0) (.inl rfl) rfl (RetVs.cellA rfl (by repeat (first | exact Has.here | apply Has.there)) tsh43 (by rfl) (RetVs.tmp rfl RetVs.nil)) rfl (by repeat (first | exact Take.nil | apply Take.cons (by repeat (first | exact Del.here | apply Del.there)))) (by repeat (first | exact trivial | refine And.intro (by repeat (first | exact Mem.here | apply Mem.there)) ?_))
    · try replace g21 := of_decide_eq_false g21
      refine Jl.on rfl rfl ?_
      refine Jl.pv (PR.move rfl) ?_
      refine Jl.on rfl rfl ?_
      refine Jl.pv (PR.len rfl tsl41) ?_
      refine Jl.on rfl rfl ?_
      refine Jl.pv (PR.eql _ rfl rfl rfl) ?_
      refine Jl.pv (PR.pickF rfl rfl) ?_
      refine Jl.pv (PR.move rfl) ?_
      refine Jl.bsplit (fun g26 => ?_) (fun g26 => ?_)
      · try replace g26 := of_decide_eq_true g26
        have hbad : rcGood (takeRowN b) = false := by rw [hgd, decide_eq_false (p := 0 < tl.length) (by omega), Bool.false_and, Bool.false_and, Bool.and_false]
        refine Jl.offS rfl rfl rfl ?_
        refine Jl.offS rfl rfl rfl ?_
        refine Jl.offS rfl rfl rfl ?_
        refine Jl.offS rfl rfl rfl ?_
        refine Jl.pv (PR.pickT rfl rfl) ?_
        refine Jl.nil ?_
        refine Jq.thenN ?_
        refine Jc.condT rfl ?_
        refine Jc.seq ?_
        refine Jc.region ?_
        refine Jl.pv (PR.build (by rfl) tze43 tpl43_ (by rfl)) ?_
        refine Jl.storeW rfl tsh43 rfl (by rfl) (by first | exact rc_one _ _ | simp [Value.oneCell']) (by repeat (first | exact Swap.here | apply Swap.there)) (by rfl) ?_
        refine Jl.pv (PR.assign rfl) ?_
        refine Jl.nil ?_
        refine Jq.thenN ?_
        refine Jc.ret ?_
        refine Jq.thenR ?_
        rw [(hno hbad).1, (hno hbad).2]
        refine Jq.nilRow 3 1 ?_
        exact Jq.fin (none, 0) (.inl rfl) rfl (RetVs.cellA rfl (by repeat (first | exact Has.here | apply Has.there)) tsh43 (by rfl) (RetVs.tmp rfl RetVs.nil)) rfl (by repeat (first | exact Take.nil | apply Take.cons (by repeat (first | exact Del.here | apply Del.there)))) (by repeat (first | exact trivial | refine And.intro (by repeat (first | exact Mem.here | apply Mem.there)) ?_))
      · try replace g26 := of_decide_eq_false g26
        have hlt : 0 < tl.length := by omega
        refine Jl.on rfl rfl ?_
        refine Jl.pv (PR.move rfl) ?_
        refine Jl.on rfl rfl ?_
        refine Jl.pv (PR.idx1 0 rfl rfl tsl41 (by repeat (first | exact Mem.here | apply Mem.there)) (by simp [natI]) rfl hlt) ?_
        refine Jl.on rfl rfl ?_
        refine Jl.pv (PR.loadR rfl tsh3 (by repeat (first | exact Mem.here | apply Mem.there)) (natI_at hlt)) ?_
        refine Jl.on rfl rfl ?_
        refine Jl.pv (PR.geq _ rfl rfl rfl) ?_
        refine Jl.pv (PR.pickF rfl rfl) ?_
        refine Jl.nil ?_
        refine Jq.thenN ?_
        refine Jc.cond rfl (fun h0 => ?_) (fun h0 => ?_)
        · try replace h0 := of_decide_eq_true h0
          have hbad : rcGood (takeRowN b) = false := by rw [hgd, decide_eq_false (p := tl.getD 0 0 < 17) (by omega), Bool.and_false, Bool.false_and, Bool.and_false]
          refine Jc.seq ?_
          refine Jc.region ?_
          refine Jl.pv (PR.build (by rfl) tze43 tpl43_ (by rfl)) ?_
          refine Jl.storeW rfl tsh43 rfl (by rfl) (by first | exact rc_one _ _ | simp [Value.oneCell']) (by repeat (first | exact Swap.here | apply Swap.there)) (by rfl) ?_
          refine Jl.pv (PR.assign rfl) ?_
          refine Jl.nil ?_
          refine Jq.thenN ?_
          refine Jc.ret ?_
          refine Jq.thenR ?_
          rw [(hno hbad).1, (hno hbad).2]
          refine Jq.nilRow 3 1 ?_
          exact Jq.fin (none, 0) (.inl rfl) rfl (RetVs.cellA rfl (by repeat (first | exact Has.here | apply Has.there)) tsh43 (by rfl) (RetVs.tmp rfl RetVs.nil)) rfl (by repeat (first | exact Take.nil | apply Take.cons (by repeat (first | exact Del.here | apply Del.there)))) (by repeat (first | exact trivial | refine And.intro (by repeat (first | exact Mem.here | apply Mem.there)) ?_))
        · try replace h0 := of_decide_eq_false h0
          have h17 : tl.getD 0 0 < 17 := by omega
          have hgd2 : rcGood (takeRowN b) = (rcRaw tl).ok := by rw [hgd, decide_eq_true (by omega), decide_eq_true (p := tr.length = 0) (by omega), decide_eq_true hlt, decide_eq_true h17]; rfl
          refine Jc.skip ?_
          refine Jq.thenN ?_
          refine Jc.seq ?_
          refine Jc.drawn [0, 1, 3, 7, 0, 16, 63, 0, 255] ([], []) [⟨[(0, false), (1, false), (2, false), (3, false), (4, false), (5, false), (7, true)], [], 6⟩, ⟨[], [7], 8⟩] tmx (by kernel_rfl) ?_
          refine Dh.JH.cons ?_
          refine Dh.JB.pv rfl trivial (fun _ => PR.move rfl) ?_
          refine Dh.JB.pv rfl trivial (fun _ => PR.idx1 0 rfl rfl tsl41 (by repeat (first | exact Mem.here | apply Mem.there)) (by simp [natI]) rfl hlt) ?_
          refine Dh.JB.pv rfl trivial (fun _ => PR.loadR rfl tsh3 (by repeat (first | exact Mem.here | apply Mem.there)) (natI_at hlt)) ?_
          refine Dh.JB.pv rfl trivial (fun _ => PR.conv (((UInt8.ofNat (tl.getD 0 0)).toNat : Nat) : Int) rfl Tryd.underlying3 Tryd.underlying5 (by rw [IntKind.wrap_u8, u8_of (by omega)]; omega)) ?_
          refine Dh.JB.pv rfl trivial (fun _ => PR.move rfl) ?_
          refine Dh.JB.slice 1 tl.length (((tl.drop 1).map Int.ofNat).length) (i64s ((tl.drop 1).map Int.ofNat)) rfl trivial rfl tsl41 rfl rfl (by repeat (first | exact Mem.here | apply Mem.there)) (by omega) (Nat.le_refl _) hc10 (by simp) (natI_drop tl) ?_
          intro A38 c38 hc38
          clear hc38
          refine Dh.JB.alloc rfl trivial tze43 ?_
          refine Dh.JB.nil ?_
          refine Dh.JL.nil ?_
          refine Dh.JE.mk rfl (fun _ h => by cases h) (fun C4_6 => ?_)
          refine Jl.call (rofR_ct (UInt8.ofNat (tl.getD 0 0)) A38 c38 ((tl.drop 1).map Int.ofNat) (by simp; omega)) en44 (by rfl) (by repeat (first | exact Take.nil | apply Take.cons (by repeat (first | exact Del.here | apply Del.there)))) (by repeat (first | exact trivial | refine And.intro (by repeat (first | exact Mem.here | apply Mem.there)) ?_)) ?_
          rintro ⟨A39, c39⟩
          refine Jl.nil ?_
          refine Dh.Jq.segV (by repeat (first | exact Dh.FExt.refl | apply Dh.FExt.cons | apply Dh.FExt.app)) ?_ (by repeat (first | exact Dh.KeepL.nil | apply Dh.KeepL.anc (by rfl) | apply Dh.KeepL.keep (by repeat (first | exact Take.nil | apply Take.cons (by repeat (first | exact Del.here | apply Del.there))))))
          refine Dh.JH.cons ?_
          refine Dh.JB.nil ?_
          refine Dh.JL.ptr rfl (by repeat (first | exact Dh.es_here | apply Dh.es_there)) (fun b7 => ?_)
          refine Dh.JL.nil ?_
          refine Dh.JE.mk rfl (fun _ h => by cases h) (fun C4_8 => ?_)
          refine Jl.storeW rfl tsh43 rfl (by rfl) (by first | exact rc_one _ _ | simp [Value.oneCell']) (by repeat (first | exact Swap.here | apply Swap.there)) (by rfl) ?_
          refine Jl.nil ?_
          refine Dh.Jq.segN (by repeat (first | exact Dh.FExt.refl | apply Dh.FExt.cons | apply Dh.FExt.app)) ?_ (by repeat (first | exact Dh.KeepL.nil | apply Dh.KeepL.anc (by rfl) | apply Dh.KeepL.keep (by repeat (first | exact Take.nil | apply Take.cons (by repeat (first | exact Del.here | apply Del.there))))))
          refine Dh.JH.nil ?_
          refine Dh.JB.nil ?_
          refine Dh.JL.nil ?_
          refine Jq.thenN ?_
          refine Jc.seq ?_
          refine Jc.seq ?_
          refine Jc.region ?_
          refine Jl.pv (PR.loadW rfl tsh43 (by repeat (first | exact Has.here | apply Has.there)) (by rfl)) ?_
          refine Jl.calll (fs := []) (cs := []) (rright_ct (rcRaw tl) (A39, c39) (by simp [rcRaw]; omega)) en22 rfl (by rfl) (by rfl) (by repeat (first | exact Take.nil | apply Take.cons (by repeat (first | exact Del.here | apply Del.there)))) (ls := [(rcRaw tl).row (A39, c39)]) (by repeat (first | exact Take.nil | apply Take.cons (by repeat (first | exact Del.here | apply Del.there)))) (by repeat (first | exact Lends.nil | apply Lends.row | apply Lends.blk)) (by repeat (first | exact trivial | refine And.intro (by repeat (first | exact Mem.here | apply Mem.there)) ?_)) ?_
          rintro ⟨⟩
          refine Jl.pv (PR.not rfl) ?_
          refine Jl.nil ?_
          refine Jq.thenN ?_
          refine Jc.cond rfl (fun h1 => ?_) (fun h1 => ?_)
          · try replace h1 := of_decide_eq_true h1
            have hbad : rcGood (takeRowN b) = false := hgd2.trans (not_true h1)
            refine Jc.seq ?_
            refine Jc.region ?_
            refine Jl.pv (PR.build (by rfl) tze43 tpl43_ (by rfl)) ?_
            refine Jl.storeW rfl tsh43 rfl (by rfl) (by first | exact rc_one _ _ | simp [Value.oneCell']) (by repeat (first | exact Swap.here | apply Swap.there)) (by rfl) ?_
            refine Jl.pv (PR.assign rfl) ?_
            refine Jl.nil ?_
            refine Jq.thenN ?_
            refine Jc.ret ?_
            refine Jq.thenR ?_
            rw [(hno hbad).1, (hno hbad).2]
            refine Jq.nilRow 3 1 ?_
            exact Jq.fin (none, 0) (.inl rfl) rfl (RetVs.cellA rfl (by repeat (first | exact Has.here | apply Has.there)) tsh43 (by rfl) (RetVs.tmp rfl RetVs.nil)) rfl (by repeat (first | exact Take.nil | apply Take.cons (by repeat (first | exact Del.here | apply Del.there)))) (by repeat (first | exact trivial | refine And.intro (by repeat (first | exact Mem.here | apply Mem.there)) ?_))
          · try replace h1 := of_decide_eq_false h1
            have hgood := hgd2.trans (not_false h1)
            refine Jc.skip ?_
            refine Jq.thenN ?_
            refine Jc.seq ?_
            refine Jc.region ?_
            refine Jl.pv (PR.loadW rfl tsh43 (by repeat (first | exact Has.here | apply Has.there)) (by rfl)) ?_
            refine Jl.storeW rfl tsh43 rfl (by rfl) (by first | exact rc_one _ _ | simp [Value.oneCell']) (by repeat (first | exact Swap.here | apply Swap.there)) (by rfl) ?_
            refine Jl.pv (PR.assign rfl) ?_
            refine Jl.nil ?_
            refine Jq.thenN ?_
            refine Jc.ret ?_
            rw [(hye hgood).1, (hye hgood).2]
            exact Jq.fin (A39, c39) (.inl rfl) rfl (RetVs.cellA rfl (by repeat (first | exact Has.here | apply Has.there)) tsh43 (by rfl) (RetVs.tmp rfl RetVs.nil)) rfl (by repeat (first | exact Take.nil | apply Take.cons (by repeat (first | exact Del.here | apply Del.there)))) (by repeat (first | exact trivial | refine And.intro (by repeat (first | exact Mem.here | apply Mem.there)) ?_))
def nameV : List Value := nameL.map strV
theorem name_at : ∀ {k : Nat}, k < 17 → nameV[0 + k * 1]? = some (strV (nameOf k))
  | 0, _ => rfl | 1, _ => rfl | 2, _ => rfl | 3, _ => rfl | 4, _ => rfl | 5, _ => rfl | 6, _ => rfl | 7, _ => rfl | 8, _ => rfl | 9, _ => rfl | 10, _ => rfl | 11, _ => rfl | 12, _ => rfl | 13, _ => rfl | 14, _ => rfl | 15, _ => rfl | 16, _ => rfl
  | k + 17, h => by omega
theorem name_no {k : Nat} (h : 17 ≤ k) : nameOf k = [] := by rw [nameOf, List.getD_eq_getElem?_getD, List.getElem?_eq_none (by simpa [nameL] using h)]; rfl
def grt (zs : Rcs) : Bool := (zs.take 41).any (fun z => decide (60 < z.2.l.length)) || decide (40 < zs.length)
theorem grt_no {zs : Rcs} (h : grt zs = false) : zs.length ≤ 40 ∧ ∀ z ∈ zs, z.2.l.length ≤ 60 := by
  simp only [grt, Bool.or_eq_false_iff, decide_eq_false_iff_not, List.any_eq_false] at h
  have hl : zs.length ≤ 40 := by omega
  rw [List.take_of_length_le (by omega)] at h
  exact ⟨hl, fun z hz => by have := h.1 z hz; simp at this; exact this⟩
theorem grt_big {zs : Rcs} {k : Nat} (hk : k < zs.length) (h40 : k ≤ 40) (h : 60 < zs[k].2.l.length) : grt zs = true := by
  simp only [grt, Bool.or_eq_true, List.any_eq_true, decide_eq_true_eq]
  exact .inl ⟨zs[k], List.mem_take_iff_getElem.2 ⟨k, by omega, rfl⟩, h⟩
theorem grt_small {zs : Rcs} (h : ∀ j, j < 41 → (hj : j < zs.length) → zs[j].2.l.length ≤ 60) : grt zs = decide (40 < zs.length) := by
  have : (zs.take 41).any (fun z => decide (60 < z.2.l.length)) = false := List.any_eq_false.2 fun z hz => by
    obtain ⟨j, hj, rfl⟩ := List.mem_take_iff_getElem.1 hz
    have := h j (by omega) (by omega)
    simpa using this
  rw [grt, this, Bool.false_or]
theorem rcs_l {zs : Rcs} {k : Nat} (h : k < zs.length) : (rcsV zs)[k * 2 + 1]? = some (.slice zs[k].1.1 zs[k].2.l.length zs[k].1.2) := (takeL_spec (rcs_at h)).2 1 _ rfl
end Go.Proofs.YtcohgnagffibcaaDoor
