/-
Texts of other layers, in one: NumP, NumQ, NumA, NumB, NumC, NumR, NumT, NumU.
-/
import Derived.Test.YtcohgnagffibcaaDoorMem
import Derived.Test.YtcohgnagffibcaaDoorTy
import Derived.Test.YtcohgnagffibcaaDoorJi
namespace Go.Proofs.YtcohgnagffibcaaDoor
set_option linter.unusedVariables false

/-- How many digits by 128. -/
def dlen : Nat → Nat → Nat
  | 0, _ => 0
  | f + 1, n => if n < 128 then 1 else 1 + dlen f (n / 128)
/-- A number's bytes. -/
def digs : Nat → Nat → List UInt8
  | 0, _ => []
  | f + 1, n => if n < 128 then [UInt8.ofNat n] else UInt8.ofNat (n % 128 + 128) :: digs f (n / 128)
def fineN (n : Int) : Bool := decide (0 ≤ n ∧ n ≤ 1099511627776)
def longZ (n : Int) : Int := if fineN n then dlen 10 n.toNat else 0
def putB (n : Int) : List UInt8 := digs 10 n.toNat

theorem dlen_pos (f n : Nat) : 0 < dlen (f + 1) n := by unfold dlen; split <;> omega
theorem dlen_le : ∀ f n, dlen f n ≤ f
  | 0, n => by simp [dlen]
  | f + 1, n => by unfold dlen; have := dlen_le f (n / 128); split <;> omega
theorem digs_len : ∀ f n, (digs f n).length = dlen f n
  | 0, n => by simp [dlen, digs]
  | f + 1, n => by
    unfold dlen digs
    split
    · rfl
    · simp [digs_len f (n / 128)]; omega
theorem longZ_eq0 (n : Int) : longZ n = 0 ↔ fineN n = false := by
  unfold longZ
  split
  · rename_i h; have : 0 < dlen 10 n.toNat := dlen_pos 9 _; simp [h]; omega
  · rename_i h; simpa using h
/-- More fuel makes no difference. -/
theorem dlen_fuel : ∀ f g n, n < 128 ^ f → n < 128 ^ g → 0 < f → 0 < g → dlen f n = dlen g n
  | 0, g, n, h, h', h1, h2 => by omega
  | f + 1, 0, n, h, h', h1, h2 => by omega
  | f + 1, g + 1, n, h, h', h1, h2 => by
    unfold dlen
    split
    · rfl
    · rename_i hn
      have a1 : n / 128 < 128 ^ f := by rw [Nat.div_lt_iff_lt_mul (by omega)]; rw [Nat.pow_succ] at h; exact h
      have a2 : n / 128 < 128 ^ g := by rw [Nat.div_lt_iff_lt_mul (by omega)]; rw [Nat.pow_succ] at h'; exact h'
      have a3 : 0 < f := by
        rcases Nat.eq_zero_or_pos f with e | e
        · subst e; simp at a1; omega
        · exact e
      have a4 : 0 < g := by
        rcases Nat.eq_zero_or_pos g with e | e
        · subst e; simp at a2; omega
        · exact e
      rw [dlen_fuel f g _ a1 a2 a3 a4]

/-- What is taken: the number, the rest, how it went. -/
def takeZ : Nat → Nat → List UInt8 → Nat × List UInt8 × Nat
  | _, _, [] => (0, [], 10)
  | i, acc, b :: r =>
    if 128 ≤ b.toNat then (if i + 1 < 6 then takeZ (i + 1) (acc + b.toNat % 128 * 128 ^ i) r else (0, [], 11))
    else if (b.toNat = 0 ∧ 0 < i) ∨ 1099511627776 < acc + b.toNat % 128 * 128 ^ i then (0, [], 11)
    else (acc + b.toNat % 128 * 128 ^ i, r, 0)
def takeN (b : List UInt8) : Nat × List UInt8 × Nat := takeZ 0 0 b

theorem and127 (x : UInt8) : IntKind.u8.wrap ((BitVec.ofInt IntKind.u8.bits (x.toNat : Int) &&& BitVec.ofInt IntKind.u8.bits 127).toNat : Int) = ((x.toNat % 128 : Nat) : Int) := by
  have hx := x.toNat_lt
  have e : (BitVec.ofInt IntKind.u8.bits (x.toNat : Int) &&& BitVec.ofInt IntKind.u8.bits 127).toNat = x.toNat % 128 := by
    show (BitVec.ofInt 8 (x.toNat : Int) &&& BitVec.ofInt 8 127).toNat = _
    rw [BitVec.toNat_and, BitVec.ofInt_natCast, BitVec.toNat_ofNat, show (BitVec.ofInt 8 127).toNat = 2 ^ 7 - 1 from rfl, Nat.and_two_pow_sub_one_eq_mod]
    omega
  rw [e, IntKind.wrap_u8]
  omega
theorem or64 (a b : Nat) (ha : a < 9223372036854775808) (hb : b < 9223372036854775808) : IntKind.i64.wrap ((BitVec.ofInt IntKind.i64.bits (a : Int) ||| BitVec.ofInt IntKind.i64.bits (b : Int)).toNat : Int) = ((a ||| b : Nat) : Int) := by
  have hx : a ||| b < 2 ^ 63 := Nat.or_lt_two_pow (by omega) (by omega)
  have e : (BitVec.ofInt IntKind.i64.bits (a : Int) ||| BitVec.ofInt IntKind.i64.bits (b : Int)).toNat = a ||| b := by
    show (BitVec.ofInt 64 (a : Int) ||| BitVec.ofInt 64 (b : Int)).toNat = _
    rw [BitVec.toNat_or, BitVec.ofInt_natCast, BitVec.ofInt_natCast, BitVec.toNat_ofNat, BitVec.toNat_ofNat, Nat.mod_eq_of_lt (by omega), Nat.mod_eq_of_lt (by omega)]
  rw [e, IntKind.wrap_i64]
  omega
theorem or_add (a c k : Nat) (h : a < 2 ^ k) : a ||| c * 2 ^ k = a + c * 2 ^ k := by
  rw [Nat.or_comm, ← Nat.shiftLeft_eq, ← Nat.shiftLeft_add_eq_or_of_lt h, Nat.add_comm]

/-- How far Take has come. -/
structure TakeI (b : List UInt8) (i acc : Nat) : Prop where
  lt : i < 6
  le : i ≤ b.length
  small : acc < 128 ^ i
  eq : takeZ i acc (b.drop i) = takeN b
theorem TakeI.zero (b : List UInt8) : TakeI b 0 0 := ⟨by omega, Nat.zero_le _, by simp, by simp [takeN]⟩
theorem p128 (i : Nat) : 128 ^ i = 2 ^ (7 * i) := by rw [Nat.pow_mul]
theorem TakeI.bound {b : List UInt8} {i acc : Nat} (h : TakeI b i acc) : acc < 34359738368 ∧ 128 ^ i ≤ 34359738368 := by
  have h1 := h.small
  have h2 := h.lt
  have : 128 ^ i ≤ 128 ^ 5 := Nat.pow_le_pow_right (by omega) (by omega)
  constructor
  · calc acc < 128 ^ i := h1
      _ ≤ 128 ^ 5 := this
      _ = 34359738368 := by decide
  · calc 128 ^ i ≤ 128 ^ 5 := this
      _ = 34359738368 := by decide
theorem TakeI.next {b : List UInt8} {i acc : Nat} (h : TakeI b i acc) (hi : i < b.length) (hb : 128 ≤ b[i].toNat) (h5 : i + 1 < 6) : TakeI b (i + 1) (acc + b[i].toNat % 128 * 128 ^ i) := by
  refine ⟨h5, hi, ?_, ?_⟩
  · have h1 := h.small
    have h2 : b[i].toNat % 128 < 128 := Nat.mod_lt _ (by omega)
    have h3 : (b[i].toNat % 128 + 1) * 128 ^ i ≤ 128 * 128 ^ i := Nat.mul_le_mul_right _ (by omega)
    rw [Nat.pow_succ, Nat.mul_comm (128 ^ i)]
    rw [Nat.add_mul] at h3
    omega
  · rw [← h.eq]
    conv => rhs; rw [List.drop_eq_getElem_cons hi]
    simp only [takeZ]
    rw [if_pos hb, if_pos h5]
theorem TakeI.short {b : List UInt8} {i acc : Nat} (h : TakeI b i acc) (hi : i = b.length) : takeN b = (0, [], 10) := by
  rw [← h.eq, List.drop_of_length_le (by omega)]; rfl
theorem TakeI.bad {b : List UInt8} {i acc : Nat} (h : TakeI b i acc) (hi : i < b.length)
    (hb : (128 ≤ b[i].toNat ∧ ¬ i + 1 < 6) ∨ (b[i].toNat < 128 ∧ ((b[i].toNat = 0 ∧ 0 < i) ∨ 1099511627776 < acc + b[i].toNat % 128 * 128 ^ i))) : takeN b = (0, [], 11) := by
  rw [← h.eq, List.drop_eq_getElem_cons hi]
  simp only [takeZ]
  rcases hb with ⟨h1, h2⟩ | ⟨h1, h2⟩
  · rw [if_pos h1, if_neg h2]
  · rw [if_neg (by omega), if_pos h2]
theorem TakeI.good {b : List UInt8} {i acc : Nat} (h : TakeI b i acc) (hi : i < b.length) (h1 : b[i].toNat < 128) (h2 : ¬ (b[i].toNat = 0 ∧ 0 < i)) (h3 : acc + b[i].toNat % 128 * 128 ^ i ≤ 1099511627776) :
    takeN b = (acc + b[i].toNat % 128 * 128 ^ i, b.drop (i + 1), 0) := by
  rw [← h.eq, List.drop_eq_getElem_cons hi]
  simp only [takeZ]
  rw [if_neg (by omega), if_neg (by omega)]
/-- What the program reckons. -/
theorem take_shl {b : List UInt8} {i acc : Nat} (h : TakeI b i acc) (m : Nat) (hm : m < 128) : IntKind.i64.wrap ((m : Int) * 2 ^ (min (7 * (i : Int)).toNat IntKind.i64.bits)) = ((m * 2 ^ (7 * i) : Nat) : Int) := by
  have hb := h.bound
  have hl := h.lt
  rw [p128] at hb
  have e : min (7 * (i : Int)).toNat IntKind.i64.bits = 7 * i := by show min (7 * (i : Int)).toNat 64 = _; omega
  rw [e]
  have h2 : m * 2 ^ (7 * i) ≤ 127 * 34359738368 := Nat.mul_le_mul (by omega) hb.2
  have : ((m : Int) * 2 ^ (7 * i)) = ((m * 2 ^ (7 * i) : Nat) : Int) := by rw [Int.natCast_mul, Int.natCast_pow]; rfl
  rw [this, w64_ (by omega) (by omega)]
where w64_ {a : Int} (h1 : -9223372036854775808 ≤ a) (h2 : a ≤ 9223372036854775807) : IntKind.i64.wrap a = a := by rw [IntKind.wrap_i64]; omega
theorem take_or {b : List UInt8} {i acc : Nat} (h : TakeI b i acc) (m : Nat) (hm : m < 128) : IntKind.i64.wrap ((BitVec.ofInt IntKind.i64.bits (acc : Int) ||| BitVec.ofInt IntKind.i64.bits ((m * 2 ^ (7 * i) : Nat) : Int)).toNat : Int) = ((acc + m * 128 ^ i : Nat) : Int) := by
  have hb := h.bound
  rw [p128] at hb
  have h2 : m * 2 ^ (7 * i) ≤ 127 * 34359738368 := Nat.mul_le_mul (by omega) hb.2
  rw [or64 _ _ (by omega) (by omega), or_add _ _ _ (by rw [← p128]; exact h.small), p128]
theorem TakeI.big {b : List UInt8} {i acc : Nat} (h : TakeI b i acc) (m : Nat) (hm : m < 128) : acc + m * 128 ^ i ≤ 4432406249472 := by
  have hb := h.bound
  have h2 : m * 128 ^ i ≤ 127 * 34359738368 := Nat.mul_le_mul (by omega) hb.2
  omega
/-- The digits by place. -/
theorem dlen_last : ∀ f n k, n < 128 ^ f → k < dlen f n → (n / 128 ^ k < 128 ↔ k + 1 = dlen f n)
  | 0, n, k, _, h => by simp [dlen] at h
  | f + 1, n, k, hn, h => by
    unfold dlen at h ⊢
    split at h
    · rename_i h1
      obtain rfl : k = 0 := by omega
      simp [h1]
    · rename_i h1
      rw [if_neg h1]
      cases k with
      | zero =>
        have : 0 < dlen f (n / 128) := by
          cases f with
          | zero => simp at hn; omega
          | succ f => exact dlen_pos f _
        simp; omega
      | succ k =>
        have a1 : n / 128 < 128 ^ f := by rw [Nat.div_lt_iff_lt_mul (by omega)]; rw [Nat.pow_succ] at hn; exact hn
        have := dlen_last f (n / 128) k a1 (by omega)
        rw [Nat.pow_succ, Nat.mul_comm, ← Nat.div_div_eq_div_mul, this]
        omega
theorem dig_at : ∀ f n k, n < 128 ^ f → (h : k < (digs f n).length) → (digs f n)[k] = UInt8.ofNat (n / 128 ^ k % 128 + if n / 128 ^ k < 128 then 0 else 128)
  | 0, n, k, _, h => by simp [digs] at h
  | f + 1, n, k, hn, h => by
    by_cases h1 : n < 128
    · have e : digs (f + 1) n = [UInt8.ofNat n] := by unfold digs; rw [if_pos h1]
      simp only [e] at h ⊢
      obtain rfl : k = 0 := by simp at h; exact h
      show UInt8.ofNat n = _
      rw [Nat.pow_zero, Nat.div_one, if_pos h1, Nat.add_zero, Nat.mod_eq_of_lt h1]
    · have e : digs (f + 1) n = UInt8.ofNat (n % 128 + 128) :: digs f (n / 128) := by
        conv => lhs; unfold digs
        rw [if_neg h1]
      simp only [e] at h ⊢
      cases k with
      | zero => simp [h1]
      | succ k =>
        have a1 : n / 128 < 128 ^ f := by rw [Nat.div_lt_iff_lt_mul (by omega)]; rw [Nat.pow_succ] at hn; exact hn
        have := dig_at f (n / 128) k a1 (by simpa using h)
        rw [Nat.pow_succ, Nat.mul_comm, ← Nat.div_div_eq_div_mul]
        simpa using this
theorem dlen0 (n : Nat) : 0 < dlen 10 n := dlen_pos 9 n
theorem p128_10 (n : Nat) (hn : n ≤ 1099511627776) : n < 128 ^ 10 := Nat.lt_of_le_of_lt hn (by decide)
theorem andI127 (x : Nat) (hx : x < 9223372036854775808) : IntKind.i64.wrap ((BitVec.ofInt IntKind.i64.bits (x : Int) &&& BitVec.ofInt IntKind.i64.bits 127).toNat : Int) = ((x % 128 : Nat) : Int) := by
  have e : (BitVec.ofInt IntKind.i64.bits (x : Int) &&& BitVec.ofInt IntKind.i64.bits 127).toNat = x % 128 := by
    show (BitVec.ofInt 64 (x : Int) &&& BitVec.ofInt 64 127).toNat = _
    rw [BitVec.toNat_and, BitVec.ofInt_natCast, BitVec.toNat_ofNat, show (BitVec.ofInt 64 127).toNat = 2 ^ 7 - 1 from rfl, Nat.and_two_pow_sub_one_eq_mod]
    omega
  rw [e, IntKind.wrap_i64]
  omega
theorem orU128 (x : Nat) (hx : x < 128) : IntKind.u8.wrap ((BitVec.ofInt IntKind.u8.bits (x : Int) ||| BitVec.ofInt IntKind.u8.bits 128).toNat : Int) = ((x + 128 : Nat) : Int) := by
  have e : (BitVec.ofInt IntKind.u8.bits (x : Int) ||| BitVec.ofInt IntKind.u8.bits 128).toNat = x + 1 * 2 ^ 7 := by
    show (BitVec.ofInt 8 (x : Int) ||| BitVec.ofInt 8 128).toNat = _
    rw [BitVec.toNat_or, BitVec.ofInt_natCast, BitVec.toNat_ofNat, show (BitVec.ofInt 8 128).toNat = 1 * 2 ^ 7 from rfl, Nat.mod_eq_of_lt (by omega), or_add _ _ _ (by omega)]
  rw [e, IntKind.wrap_u8]
  omega
theorem div128 (n k : Nat) : n / 128 ^ k / 128 = n / 128 ^ (k + 1) := by rw [Nat.pow_succ, Nat.div_div_eq_div_mul]
/-- Put, Row, TakeRow. -/
def putN (n : Int) : List UInt8 := if fineN n then putB n else []
def putR (n : Int) : Int := if fineN n then 0 else 2
def rowsB (l : List Int) : List UInt8 := putB l.length ++ l.flatMap putB
def rowOk (l : List Int) : Bool := decide (l.length ≤ 40) && !l.any (fun n => !fineN n)
def rowN (l : List Int) : List UInt8 := if rowOk l then rowsB l else []
def rowR (l : List Int) : Int := if rowOk l then 0 else 2
theorem putB_len (n : Int) : (putB n).length ≤ 10 := by rw [putB, digs_len]; exact dlen_le _ _
theorem flat_len : ∀ l : List Int, (l.flatMap putB).length ≤ 10 * l.length
  | [] => by simp
  | n :: l => by have := flat_len l; have := putB_len n; simp only [List.flatMap_cons, List.length_append, List.length_cons]; omega
/-- Numbers taken one behind the other. -/
def takeM : Nat → List UInt8 → List Nat × List UInt8 × Nat
  | 0, b => ([], b, 0)
  | k + 1, b => if (takeN b).2.2 = 0 then (let (l, r, e) := takeM k (takeN b).2.1; if e = 0 then ((takeN b).1 :: l, r, 0) else ([], [], e)) else ([], [], (takeN b).2.2)
def takeRowN (b : List UInt8) : List Nat × List UInt8 × Nat :=
  if (takeN b).2.2 = 0 then (if 40 < (takeN b).1 then ([], [], 11) else takeM (takeN b).1 (takeN b).2.1) else ([], [], (takeN b).2.2)
theorem takeZ_len : ∀ (b : List UInt8) (i acc : Nat), (takeZ i acc b).2.1.length ≤ b.length
  | [], i, acc => by simp [takeZ]
  | b :: r, i, acc => by
    unfold takeZ
    split
    · split
      · have := takeZ_len r (i + 1) (acc + b.toNat % 128 * 128 ^ i); simp only [List.length_cons]; omega
      · simp
    · split <;> simp
theorem takeN_len (b : List UInt8) : (takeN b).2.1.length ≤ b.length := takeZ_len b 0 0
theorem takeZ_err : ∀ (b : List UInt8) (i acc : Nat), (takeZ i acc b).2.2 ≠ 0 → (takeZ i acc b).1 = 0 ∧ (takeZ i acc b).2.1 = [] ∧ ((takeZ i acc b).2.2 = 10 ∨ (takeZ i acc b).2.2 = 11)
  | [], i, acc => by simp [takeZ]
  | b :: r, i, acc => by
    unfold takeZ
    split
    · split
      · exact takeZ_err r (i + 1) (acc + b.toNat % 128 * 128 ^ i)
      · simp
    · split <;> simp
theorem takeN_err (b : List UInt8) (h : (takeN b).2.2 ≠ 0) : takeN b = (0, [], (takeN b).2.2) ∧ ((takeN b).2.2 = 10 ∨ (takeN b).2.2 = 11) := by
  have := takeZ_err b 0 0 h
  exact ⟨Prod.ext this.1 (Prod.ext this.2.1 rfl), this.2.2⟩
def ahead (l : List Nat) (t : List Nat × List UInt8 × Nat) : List Nat × List UInt8 × Nat := if t.2.2 = 0 then (l ++ t.1, t.2.1, 0) else ([], [], t.2.2)
/-- How far TakeRow has come. -/
structure TRowI (b : List UInt8) (n : Nat) (l : List Nat) (r : List UInt8) (e : Nat) : Prop where
  len : r.length ≤ b.length
  le : l.length ≤ n
  small : e = 0 → n ≤ 40
  code : e = 0 ∨ e = 10 ∨ e = 11
  eq : if e = 0 then ahead l (takeM (n - l.length) r) = takeRowN b else takeRowN b = ([], [], e)
theorem takeM_err : ∀ k r, (takeM k r).2.2 ≠ 0 → takeM k r = ([], [], (takeM k r).2.2)
  | 0, r, h => by simp [takeM] at h
  | k + 1, r, h => by
    simp only [takeM] at h ⊢
    split
    · rename_i h1
      rw [if_pos h1] at h
      split
      · rename_i h2; rw [if_pos h2] at h; simp at h
      · rfl
    · rfl
theorem TRowI.zero_ok {b : List UInt8} (h0 : (takeN b).2.2 = 0) (h40 : ¬ 40 < (takeN b).1) : TRowI b (takeN b).1 [] (takeN b).2.1 0 := by
  refine ⟨takeN_len b, Nat.zero_le _, fun h => by omega, .inl rfl, ?_⟩
  rw [if_pos rfl, takeRowN, if_pos h0, if_neg h40]
  simp only [ahead, List.nil_append, List.length_nil, Nat.sub_zero]
  split
  · rename_i h4; rw [← h4]
  · rename_i h4; exact (takeM_err _ _ h4).symm
theorem TRowI.zero_big {b : List UInt8} (h0 : (takeN b).2.2 = 0) (h40 : 40 < (takeN b).1) : TRowI b (takeN b).1 [] (takeN b).2.1 11 :=
  ⟨takeN_len b, Nat.zero_le _, fun h => by omega, .inr (.inr rfl), by rw [if_neg (by omega), takeRowN, if_pos h0, if_pos h40]⟩
theorem TRowI.zero_bad {b : List UInt8} (h0 : ¬ (takeN b).2.2 = 0) : TRowI b (takeN b).1 [] (takeN b).2.1 (takeN b).2.2 :=
  ⟨takeN_len b, Nat.zero_le _, fun h => absurd h h0, .inr (takeN_err b h0).2, by rw [if_neg h0, takeRowN, if_neg h0]⟩
theorem TRowI.next {b : List UInt8} {n : Nat} {l : List Nat} {r : List UInt8} (h : TRowI b n l r 0) (hl : l.length < n) : TRowI b n (l ++ [(takeN r).1]) (takeN r).2.1 (takeN r).2.2 := by
  refine ⟨Nat.le_trans (takeN_len r) h.len, by simp; omega, fun _ => h.small rfl, ?_, ?_⟩
  · by_cases h0 : (takeN r).2.2 = 0
    · exact .inl h0
    · exact .inr (takeN_err r h0).2
  · have he := h.eq
    obtain ⟨k, hk⟩ : ∃ k, n - l.length = k + 1 := ⟨n - l.length - 1, by omega⟩
    rw [if_pos rfl, hk] at he
    rw [← he]
    have hk' : n - (l ++ [(takeN r).1]).length = k := by simp; omega
    by_cases h0 : (takeN r).2.2 = 0
    · rw [if_pos h0, hk']
      simp only [takeM, if_pos h0, ahead]
      by_cases h1 : (takeM k (takeN r).2.1).2.2 = 0
      · simp [h1]
      · simp [h1]
    · rw [if_neg h0]
      simp only [takeM, if_neg h0, ahead]
theorem TRowI.bad {b : List UInt8} {n : Nat} {l : List Nat} {r : List UInt8} {e : Nat} (h : TRowI b n l r e) (he : e ≠ 0) : takeRowN b = ([], [], e) := by
  have := h.eq; rwa [if_neg he] at this
theorem TRowI.good {b : List UInt8} {n : Nat} {l : List Nat} {r : List UInt8} (h : TRowI b n l r 0) (hl : ¬ l.length < n) : takeRowN b = (l, r, 0) := by
  have := h.eq
  have hk : n - l.length = 0 := by omega
  rw [if_pos rfl, hk] at this
  rw [← this]
  simp [takeM, ahead]
theorem digs_pref : ∀ f a b, a < 128 ^ f → b < 128 ^ f → 0 < f → digs f a = (digs f b).take (digs f a).length → a = b
  | 0, _, _, _, _, h, _ => by omega
  | f + 1, a, b, ha, hb, _, h => by
    have a1 : a / 128 < 128 ^ f := by rw [Nat.div_lt_iff_lt_mul (by omega)]; rw [Nat.pow_succ] at ha; exact ha
    have a2 : b / 128 < 128 ^ f := by rw [Nat.div_lt_iff_lt_mul (by omega)]; rw [Nat.pow_succ] at hb; exact hb
    have hu : ∀ x y, x < 256 → y < 256 → UInt8.ofNat x = UInt8.ofNat y → x = y := fun x y hx hy h => by
      have := congrArg UInt8.toNat h
      simp only [UInt8.toNat_ofNat'] at this
      omega
    unfold digs at h
    by_cases h1 : a < 128 <;> by_cases h2 : b < 128
    · rw [if_pos h1, if_pos h2] at h
      simp only [List.length_cons, List.take_succ_cons, List.cons.injEq] at h
      exact hu _ _ (by omega) (by omega) h.1
    · rw [if_pos h1, if_neg h2] at h
      simp only [List.length_cons, List.take_succ_cons, List.cons.injEq] at h
      have := hu _ _ (by omega) (by omega) h.1
      omega
    · rw [if_neg h1, if_pos h2] at h
      simp only [List.length_cons, List.take_succ_cons, List.cons.injEq] at h
      have := hu _ _ (by omega) (by omega) h.1
      omega
    · rw [if_neg h1, if_neg h2] at h
      simp only [List.length_cons, List.take_succ_cons, List.cons.injEq] at h
      have e1 := hu _ _ (by omega) (by omega) h.1
      have e2 := digs_pref f (a / 128) (b / 128) a1 a2 (by
        rcases Nat.eq_zero_or_pos f with e | e
        · subst e; simp at a1; omega
        · exact e) h.2
      omega
theorem dlen_mono : ∀ f a b, a ≤ b → dlen f a ≤ dlen f b
  | 0, _, _, _ => by simp [dlen]
  | f + 1, a, b, h => by
    unfold dlen
    have := dlen_mono f (a / 128) (b / 128) (Nat.div_le_div_right h)
    split <;> split <;> omega
theorem dlen_up : ∀ f n, n < 128 ^ f → n < 128 ^ dlen f n
  | 0, n, h => by simpa [dlen] using h
  | f + 1, n, h => by
    unfold dlen
    split
    · simpa
    · have a1 : n / 128 < 128 ^ f := by rw [Nat.div_lt_iff_lt_mul (by omega)]; rw [Nat.pow_succ] at h; exact h
      have := dlen_up f (n / 128) a1
      rw [Nat.add_comm, Nat.pow_succ]
      exact (Nat.div_lt_iff_lt_mul (by omega)).1 this
theorem dlen_down : ∀ f n, 1 < dlen f n → 128 ^ (dlen f n - 1) ≤ n
  | 0, n, h => by simp [dlen] at h
  | f + 1, n, h => by
    unfold dlen at h ⊢
    split
    · rename_i h1; rw [if_pos h1] at h; omega
    · rename_i h1
      rw [if_neg h1] at h
      rw [Nat.add_comm, Nat.add_sub_cancel]
      by_cases h2 : 1 < dlen f (n / 128)
      · have := dlen_down f (n / 128) h2
        obtain ⟨k, hk⟩ : ∃ k, dlen f (n / 128) = k + 1 := ⟨dlen f (n / 128) - 1, by omega⟩
        rw [hk, Nat.add_sub_cancel] at this
        rw [hk, Nat.pow_succ]
        exact (Nat.le_div_iff_mul_le (by omega)).1 this
      · have : dlen f (n / 128) = 1 := by omega
        rw [this]; omega
theorem dlen6 (n : Nat) (h : n ≤ 1099511627776) : dlen 10 n ≤ 6 := by
  rcases Nat.lt_or_ge 6 (dlen 10 n) with h1 | h1
  · have := dlen_down 10 n (by omega)
    have h2 : 128 ^ 6 ≤ 128 ^ (dlen 10 n - 1) := Nat.pow_le_pow_right (by omega) (by omega)
    have h3 : (128 : Nat) ^ 6 = 4398046511104 := by decide
    omega
  · exact h1
theorem putB_pref {a b : Int} (ha : fineN a = true) (hb : fineN b = true) : putB a = (putB b).take (putB a).length ↔ a = b := by
  simp [fineN] at ha hb
  refine ⟨fun h => ?_, fun h => by subst h; simp⟩
  have := digs_pref 10 a.toNat b.toNat (p128_10 _ (by omega)) (p128_10 _ (by omega)) (by omega) h
  omega
theorem putB_mono {a b : Int} (ha : 0 ≤ a) (h : a ≤ b) : (putB a).length ≤ (putB b).length := by
  rw [putB, putB, digs_len, digs_len]; exact dlen_mono _ _ _ (by omega)
theorem longZ_len {a : Int} (h : fineN a = true) : longZ a = (putB a).length := by rw [longZ, if_pos h, putB, digs_len]
end Go.Proofs.YtcohgnagffibcaaDoor
namespace Go.Proofs.YtcohgnagffibcaaDoor
set_option linter.unusedVariables false

theorem digs_fuel : ∀ f g n, n < 128 ^ f → n < 128 ^ g → 0 < f → 0 < g → digs f n = digs g n
  | 0, g, n, h, h', h1, h2 => by omega
  | f + 1, 0, n, h, h', h1, h2 => by omega
  | f + 1, g + 1, n, h, h', h1, h2 => by
    unfold digs
    split
    · rfl
    · rename_i hn
      have a1 : n / 128 < 128 ^ f := by rw [Nat.div_lt_iff_lt_mul (by omega)]; rw [Nat.pow_succ] at h; exact h
      have a2 : n / 128 < 128 ^ g := by rw [Nat.div_lt_iff_lt_mul (by omega)]; rw [Nat.pow_succ] at h'; exact h'
      have a3 : 0 < f := by
        rcases Nat.eq_zero_or_pos f with e | e
        · subst e; simp at a1; omega
        · exact e
      have a4 : 0 < g := by
        rcases Nat.eq_zero_or_pos g with e | e
        · subst e; simp at a2; omega
        · exact e
      rw [digs_fuel f g _ a1 a2 a3 a4]
theorem u8_of {x : Nat} (h : x < 256) : (UInt8.ofNat x).toNat = x := by rw [UInt8.toNat_ofNat']; omega

theorem split128 (q i : Nat) : q % 128 * 128 ^ i + q / 128 * 128 ^ (i + 1) = q * 128 ^ i := by
  rw [Nat.pow_succ, Nat.mul_comm (128 ^ i), ← Nat.mul_assoc, ← Nat.add_mul]
  congr 1
  omega
theorem take_put : ∀ (f i acc q : Nat) (b : List UInt8), q < 128 ^ f → 0 < f → i + dlen f q ≤ 6 → (0 < i → 0 < q) → acc + q * 128 ^ i ≤ 1099511627776 → takeZ i acc (digs f q ++ b) = (acc + q * 128 ^ i, b, 0)
  | 0, _, _, _, _, _, h, _, _, _ => by omega
  | f + 1, i, acc, q, b, h, _, hl, hi, hm => by
    by_cases h1 : q < 128
    · have e : digs (f + 1) q = [UInt8.ofNat q] := by unfold digs; rw [if_pos h1]
      rw [e, List.singleton_append]
      simp only [takeZ, u8_of (show q < 256 by omega), Nat.mod_eq_of_lt h1]
      rw [if_neg (by omega), if_neg (by omega)]
    · have e : digs (f + 1) q = UInt8.ofNat (q % 128 + 128) :: digs f (q / 128) := by
        conv => lhs; unfold digs
        rw [if_neg h1]
      have e2 : dlen (f + 1) q = 1 + dlen f (q / 128) := by
        conv => lhs; unfold dlen
        rw [if_neg h1]
      have a1 : q / 128 < 128 ^ f := by rw [Nat.div_lt_iff_lt_mul (by omega)]; rw [Nat.pow_succ] at h; exact h
      have a3 : 0 < f := by
        rcases Nat.eq_zero_or_pos f with e | e
        · subst e; simp at a1; omega
        · exact e
      have hd : 0 < dlen f (q / 128) := by
        obtain ⟨g, rfl⟩ : ∃ g, f = g + 1 := ⟨f - 1, by omega⟩
        exact dlen_pos g _
      have hb : q % 128 + 128 < 256 := by have := Nat.mod_lt q (show 128 > 0 by omega); omega
      have hs := split128 q i
      rw [e, List.cons_append]
      simp only [takeZ, u8_of hb]
      rw [if_pos (by omega), if_pos (by omega), show (q % 128 + 128) % 128 = q % 128 by omega,
        take_put f (i + 1) (acc + q % 128 * 128 ^ i) (q / 128) b a1 a3 (by omega) (fun _ => by omega) (by omega)]
      rw [Nat.add_assoc, hs]
theorem digs_ne (f n : Nat) (h : 0 < f) : digs f n ≠ [] := by
  intro he
  have := digs_len f n
  obtain ⟨g, rfl⟩ : ∃ g, f = g + 1 := ⟨f - 1, by omega⟩
  have := dlen_pos g n
  rw [he] at *
  simp at *
  omega
theorem take_cut : ∀ (f i acc q : Nat), q < 128 ^ f → 0 < f → i + dlen f q ≤ 6 → takeZ i acc (digs f q).dropLast = (0, [], 10)
  | 0, _, _, _, _, h, _ => by omega
  | f + 1, i, acc, q, h, _, hl => by
    by_cases h1 : q < 128
    · have e : digs (f + 1) q = [UInt8.ofNat q] := by unfold digs; rw [if_pos h1]
      rw [e]
      rfl
    · have e : digs (f + 1) q = UInt8.ofNat (q % 128 + 128) :: digs f (q / 128) := by
        conv => lhs; unfold digs
        rw [if_neg h1]
      have e2 : dlen (f + 1) q = 1 + dlen f (q / 128) := by
        conv => lhs; unfold dlen
        rw [if_neg h1]
      have a1 : q / 128 < 128 ^ f := by rw [Nat.div_lt_iff_lt_mul (by omega)]; rw [Nat.pow_succ] at h; exact h
      have a3 : 0 < f := by
        rcases Nat.eq_zero_or_pos f with e | e
        · subst e; simp at a1; omega
        · exact e
      have hd : 0 < dlen f (q / 128) := by
        obtain ⟨g, rfl⟩ : ∃ g, f = g + 1 := ⟨f - 1, by omega⟩
        exact dlen_pos g _
      have hb : q % 128 + 128 < 256 := by have := Nat.mod_lt q (show 128 > 0 by omega); omega
      rw [e, List.dropLast_cons_of_ne_nil (digs_ne _ _ a3)]
      simp only [takeZ, u8_of hb]
      rw [if_pos (by omega), if_pos (by omega)]
      exact take_cut f (i + 1) _ (q / 128) a1 a3 (by omega)
theorem take_only : ∀ (b : List UInt8) (i acc v : Nat) (r : List UInt8), i < 6 → takeZ i acc b = (v, r, 0) → ∃ f q, q < 128 ^ f ∧ 0 < f ∧ digs f q ++ r = b ∧ v = acc + q * 128 ^ i ∧ v ≤ 1099511627776 ∧ (0 < i → 0 < q)
  | [], i, acc, v, r, _, h => by simp [takeZ] at h
  | x :: b, i, acc, v, r, hi, h => by
    have hx := x.toNat_lt
    unfold takeZ at h
    split at h
    · rename_i h1
      split at h
      · rename_i h2
        obtain ⟨f, q, q1, q2, q3, q4, q5, q6⟩ := take_only b (i + 1) _ v r h2 h
        have hq := q6 (by omega)
        have hmod : x.toNat % 128 < 128 := Nat.mod_lt _ (by omega)
        have e1 : (x.toNat % 128 + q * 128) % 128 = x.toNat % 128 := by omega
        have e2 : (x.toNat % 128 + q * 128) / 128 = q := by omega
        refine ⟨f + 1, x.toNat % 128 + q * 128, by rw [Nat.pow_succ]; omega, by omega, ?_, ?_, q5, fun _ => by omega⟩
        · unfold digs
          rw [if_neg (by omega), e1, e2, List.cons_append, q3]
          congr 1
          apply UInt8.toNat_inj.1
          rw [u8_of (by omega)]
          omega
        · have hs := split128 (x.toNat % 128 + q * 128) i
          rw [e1, e2] at hs
          rw [q4, ← hs]
          omega
      · simp at h
    · rename_i h1
      split at h
      · simp at h
      · rename_i h2
        simp only [Prod.mk.injEq] at h
        have hm : x.toNat % 128 = x.toNat := Nat.mod_eq_of_lt (by omega)
        refine ⟨1, x.toNat, by simp; omega, by omega, ?_, ?_, by omega, fun h3 => by omega⟩
        · unfold digs
          rw [if_pos (by omega), List.singleton_append, h.2.1]
          congr 1
          apply UInt8.toNat_inj.1
          rw [u8_of (by omega)]
        · rw [← hm]; exact h.1.symm

/-- What was put is taken. -/
theorem takeN_put {n : Int} (h : fineN n = true) (b : List UInt8) : takeN (putB n ++ b) = (n.toNat, b, 0) := by
  have hf : 0 ≤ n ∧ n ≤ 1099511627776 := by simpa [fineN] using h
  have := take_put 10 0 0 n.toNat b (p128_10 _ (by omega)) (by omega) (by have := dlen6 n.toNat (by omega); omega) (fun h => by omega) (by simp; omega)
  simpa [takeN, putB] using this
theorem takeN_cut {n : Int} (h : fineN n = true) : takeN (putB n).dropLast = (0, [], 10) := by
  have hf : 0 ≤ n ∧ n ≤ 1099511627776 := by simpa [fineN] using h
  exact take_cut 10 0 0 n.toNat (p128_10 _ (by omega)) (by omega) (by have := dlen6 n.toNat (by omega); omega)
/-- What is taken was put. -/
theorem takeN_only {b r : List UInt8} {v : Nat} (h : takeN b = (v, r, 0)) : putB v ++ r = b ∧ v ≤ 1099511627776 := by
  obtain ⟨f, q, q1, q2, q3, q4, q5, _⟩ := take_only b 0 0 v r (by omega) h
  have e : v = q := by simpa using q4
  subst e
  refine ⟨?_, q5⟩
  rw [← q3, putB, Int.toNat_natCast, digs_fuel 10 f v (p128_10 _ q5) q1 (by omega) q2]
theorem putB_ne (n : Int) : putB n ≠ [] := digs_ne 10 _ (by omega)

/-- Rows. -/
theorem takeM_row : ∀ (l : List Int) (b : List UInt8), (∀ n ∈ l, fineN n = true) → takeM l.length (l.flatMap putB ++ b) = (l.map Int.toNat, b, 0)
  | [], b, _ => by simp [takeM]
  | n :: l, b, h => by
    have h1 := takeN_put (h n (by simp)) (l.flatMap putB ++ b)
    have h2 := takeM_row l b fun m hm => h m (by simp [hm])
    simp only [List.flatMap_cons, List.length_cons, List.append_assoc, takeM]
    rw [h1]
    simp [h2]
theorem rowOk_fine {l : List Int} (h : rowOk l = true) : l.length ≤ 40 ∧ ∀ n ∈ l, fineN n = true := by
  have ho : l.length ≤ 40 ∧ l.any (fun n => !fineN n) = false := by simpa only [rowOk, Bool.and_eq_true, decide_eq_true_eq, Bool.not_eq_true'] using h
  refine ⟨ho.1, fun n hn => ?_⟩
  have := List.any_eq_false.1 ho.2 n hn
  simpa using this
theorem fine_len {n : Nat} (h : n ≤ 40) : fineN (n : Int) = true := by simp [fineN]; omega
theorem takeRow_put {l : List Int} (h : rowOk l = true) (b : List UInt8) : takeRowN (rowsB l ++ b) = (l.map Int.toNat, b, 0) := by
  obtain ⟨h1, h2⟩ := rowOk_fine h
  have h3 := takeN_put (fine_len h1) (l.flatMap putB ++ b)
  unfold takeRowN rowsB
  rw [List.append_assoc, h3]
  simp only [Int.toNat_natCast, if_pos]
  rw [if_neg (by omega)]
  exact takeM_row l b h2
theorem takeM_cut : ∀ (l : List Int), l ≠ [] → (∀ n ∈ l, fineN n = true) → takeM l.length (l.flatMap putB).dropLast = ([], [], 10)
  | [], h, _ => absurd rfl h
  | [n], _, h => by
    have := takeN_cut (h n (by simp))
    simp [takeM, this]
  | n :: m :: l, _, h => by
    have h2 := takeM_cut (m :: l) (by simp) fun x hx => h x (by simp only [List.mem_cons] at hx ⊢; exact .inr hx)
    have hne : (m :: l).flatMap putB ≠ [] := by
      simp only [List.flatMap_cons]
      intro he
      exact putB_ne m (List.append_eq_nil_iff.1 he).1
    have h1 := takeN_put (h n (by simp)) ((m :: l).flatMap putB).dropLast
    rw [List.flatMap_cons, List.dropLast_append_of_ne_nil hne, List.length_cons, takeM, h1]
    simp only [if_pos]
    rw [h2]
    simp
theorem takeRow_cut {l : List Int} (h : rowOk l = true) : (takeRowN (rowsB l).dropLast).2.2 = 10 := by
  obtain ⟨h1, h2⟩ := rowOk_fine h
  unfold takeRowN rowsB
  by_cases hl : l = []
  · subst hl
    have := takeN_cut (fine_len (n := 0) (by omega))
    simp at this
    simp [this]
  · have hne : l.flatMap putB ≠ [] := by
      obtain ⟨m, l', rfl⟩ := List.exists_cons_of_ne_nil hl
      simp only [List.flatMap_cons]
      intro he
      exact putB_ne m (List.append_eq_nil_iff.1 he).1
    have h3 := takeN_put (fine_len h1) (l.flatMap putB).dropLast
    rw [List.dropLast_append_of_ne_nil hne, h3]
    simp only [Int.toNat_natCast, if_pos]
    rw [if_neg (by omega), takeM_cut l hl h2]
theorem takeM_only : ∀ (k : Nat) (b r : List UInt8) (l : List Nat), takeM k b = (l, r, 0) → l.length = k ∧ (∀ n ∈ l, n ≤ 1099511627776) ∧ (l.map Int.ofNat).flatMap putB ++ r = b
  | 0, b, r, l, h => by simp only [takeM, Prod.mk.injEq] at h; obtain ⟨rfl, rfl, _⟩ := h; simp
  | k + 1, b, r, l, h => by
    simp only [takeM] at h
    split at h
    · rename_i h1
      split at h
      · rename_i h2
        simp only [Prod.mk.injEq] at h
        obtain ⟨rfl, rfl, _⟩ := h
        have hm : takeM k (takeN b).2.1 = ((takeM k (takeN b).2.1).1, (takeM k (takeN b).2.1).2.1, 0) := Prod.ext rfl (Prod.ext rfl h2)
        have hn : takeN b = ((takeN b).1, (takeN b).2.1, 0) := Prod.ext rfl (Prod.ext rfl h1)
        obtain ⟨i1, i2, i3⟩ := takeM_only k _ _ _ hm
        obtain ⟨j1, j2⟩ := takeN_only hn
        refine ⟨by simp [i1], fun n hn => ?_, ?_⟩
        · rcases List.mem_cons.1 hn with rfl | hn
          · exact j2
          · exact i2 n hn
        · simp only [List.map_cons, List.flatMap_cons, List.append_assoc]
          rw [i3]; exact j1
      · rename_i h2; simp only [Prod.mk.injEq] at h; exact absurd h.2.2 h2
    · rename_i h1; simp only [Prod.mk.injEq] at h; exact absurd h.2.2 h1
theorem takeRow_only {b r : List UInt8} {l : List Nat} (h : takeRowN b = (l, r, 0)) : rowOk (l.map Int.ofNat) = true ∧ rowsB (l.map Int.ofNat) ++ r = b := by
  unfold takeRowN at h
  split at h
  · rename_i h1
    split at h
    · simp at h
    · rename_i h2
      have hn : takeN b = ((takeN b).1, (takeN b).2.1, 0) := Prod.ext rfl (Prod.ext rfl h1)
      obtain ⟨i1, i2, i3⟩ := takeM_only _ _ _ _ h
      obtain ⟨j1, j2⟩ := takeN_only hn
      refine ⟨?_, ?_⟩
      · simp only [rowOk, Bool.and_eq_true, decide_eq_true_eq, Bool.not_eq_true', List.any_eq_false]
        refine ⟨by rw [List.length_map]; omega, fun x hx => ?_⟩
        obtain ⟨n, hn, rfl⟩ := List.mem_map.1 hx
        have := i2 n hn
        simp [fineN]; omega
      · rw [rowsB, List.append_assoc, i3, List.length_map, i1]; exact j1
  · rename_i h1; simp only [Prod.mk.injEq] at h; exact absurd h.2.2 h1
theorem takeM_bad : ∀ (k : Nat) (b : List UInt8), (takeM k b).2.2 ≠ 0 → (takeM k b).2.2 = 10 ∨ (takeM k b).2.2 = 11
  | 0, b, h => by simp [takeM] at h
  | k + 1, b, h => by
    simp only [takeM] at h ⊢
    split
    · rename_i h1
      rw [if_pos h1] at h
      split
      · rename_i h2; rw [if_pos h2] at h; simp at h
      · rename_i h2; exact takeM_bad k _ h2
    · rename_i h1; exact (takeN_err b h1).2
theorem takeRow_bad {b : List UInt8} (h : (takeRowN b).2.2 ≠ 0) : takeRowN b = ([], [], (takeRowN b).2.2) ∧ ((takeRowN b).2.2 = 10 ∨ (takeRowN b).2.2 = 11) := by
  unfold takeRowN at h ⊢
  split
  · rename_i h1
    rw [if_pos h1] at h
    split
    · simp
    · rename_i h2
      rw [if_neg h2] at h
      exact ⟨takeM_err _ _ h, takeM_bad _ _ h⟩
  · rename_i h1; exact ⟨rfl, (takeN_err b h1).2⟩
end Go.Proofs.YtcohgnagffibcaaDoor
namespace Go.Proofs.YtcohgnagffibcaaDoor
set_option linter.unusedVariables false
open Go.RowKit
attribute [local irreducible] Res.blk Res.row Fact.rd
abbrev OA := Option Addr × Nat
def natI (l : List Nat) : List Value := l.map fun n : Nat => Value.int .i64 (n : Int)
theorem shr7 (n : Int) (h : 0 ≤ n) : Int.fdiv n (2 ^ 7) = n / 128 := by rw [Int.fdiv_eq_ediv_of_nonneg _ (by decide)]; rfl
theorem sl_end (b : List UInt8) (k : Nat) : ((u8s b).drop (k * 1)).take ((b.length - k) * 1) = u8s (b.drop k) := by
  rw [List.take_of_length_le (by simp [u8s])]; simp [u8s, List.map_drop]
theorem getu {b : List UInt8} {k : Nat} (h : k < b.length) : (u8s b)[k]? = some (.int .u8 b[k].toNat) := by simp [u8s, h]
/-- What Long has counted, and what is left. -/
def LongI (n : Nat) (s : Nat × Nat) : Prop := s.1 + dlen (10 - s.1) s.2 = dlen 10 n ∧ s.2 < 128 ^ (10 - s.1) ∧ s.1 < 10
abbrev LongS (n : Nat) := { s : Nat × Nat // LongI n s }
theorem longI_step {n : Nat} {s : Nat × Nat} (h : LongI n s) (hd : 0 < s.2 / 128) : LongI n (s.1 + 1, s.2 / 128) := by
  obtain ⟨h1, h2, h3⟩ := h
  obtain ⟨f, hf⟩ : ∃ f, 10 - s.1 = f + 1 := ⟨9 - s.1, by omega⟩
  rw [hf] at h1 h2
  have e : dlen (f + 1) s.2 = 1 + dlen f (s.2 / 128) := by
    conv => lhs; unfold dlen
    rw [if_neg (by omega)]
  have a1 : s.2 / 128 < 128 ^ f := by rw [Nat.div_lt_iff_lt_mul (by omega)]; rw [Nat.pow_succ] at h2; exact h2
  have hf0 : 0 < f := by
    rcases Nat.eq_zero_or_pos f with e | e
    · subst e; simp at a1; omega
    · exact e
  refine ⟨?_, ?_, ?_⟩ <;> simp only [show 10 - (s.1 + 1) = f by omega]
  · omega
  · exact a1
  · omega
theorem longI_end {n : Nat} {s : Nat × Nat} (h : LongI n s) (hd : s.2 / 128 = 0) : ((s.1 + 1 : Nat) : Int) = dlen 10 n := by
  obtain ⟨h1, h2, h3⟩ := h
  obtain ⟨f, hf⟩ : ∃ f, 10 - s.1 = f + 1 := ⟨9 - s.1, by omega⟩
  rw [hf] at h1
  have e : dlen (f + 1) s.2 = 1 := by
    unfold dlen
    rw [if_pos (by omega)]
  omega

theorem long_ct (n : Int) : Ct Tryd.prog 71 [.int .i64 n] [] [] (fun _ : Unit => .int .i64 (longZ n)) (fun _ => []) (fun _ => []) := by
  by_cases hfn : fineN n = true
  · have hf : 0 ≤ n ∧ n ≤ 1099511627776 := by simpa [fineN] using hfn
    obtain ⟨m, rfl⟩ : ∃ m : Nat, n = m := ⟨n.toNat, by omega⟩
    have hz : longZ (m : Int) = dlen 10 m := by simp [longZ, hfn]
    refine Ct.of _ Tryd.func71 Tryd.ntmps71 rfl rfl (fun X W => ?_)
    refine Jc.seq ?_
    refine Jc.region ?_
    refine Jl.pv (PR.assign rfl) ?_
    refine Jl.nil ?_
    refine Jq.thenN ?_
    refine Jc.scope (σ := LongS m) (fun s => [(0, .int .i64 (s.1.2 : Int)), (2, .int .i64 (s.1.1 : Int))]) (fun _ => []) (fun _ => []) (fun s => 10 - s.1.1) (l := 0) rfl ?_ ?_
    · rintro ⟨⟨k, q⟩, hs⟩
      show Jc _ _ _ _ _ _ [(0, Value.int .i64 (q : Int)), (2, Value.int .i64 (k : Int))] [] []
      have hk : k < 10 := hs.2.2
      refine Jc.seq ?_
      refine Jc.region ?_
      refine Jl.pv (PR.move rfl) ?_
      refine Jl.pv (PR.add ((k + 1 : Nat) : Int) rfl rfl (by rw [w64 (by omega) (by omega)]; rfl)) ?_
      refine Jl.pv (PR.assign rfl) ?_
      refine Jl.nil ?_
      refine Jq.thenN ?_
      refine Jc.seq ?_
      refine Jc.seq ?_
      refine Jc.region ?_
      refine Jl.pv (PR.move rfl) ?_
      refine Jl.pv (PR.shr ((q / 128 : Nat) : Int) rfl rfl (by decide) (by show Int.fdiv _ (2 ^ 7) = _; rw [shr7 _ (by omega)]; rfl)) ?_
      refine Jl.pv (PR.assign rfl) ?_
      refine Jl.nil ?_
      refine Jq.thenN ?_
      refine Jc.seq ?_
      refine Jc.region ?_
      refine Jl.pv (PR.move rfl) ?_
      refine Jl.pv (PR.gtr _ rfl rfl rfl) ?_
      refine Jl.nil ?_
      refine Jq.thenN ?_
      refine Jc.cond rfl (fun h0 => ?_) (fun h0 => ?_)
      · try replace h0 := of_decide_eq_true h0
        have hq : 0 < q / 128 := by omega
        refine Jc.goto ?_
        refine Jq.thenG ?_
        exact Jq.jmpB ⟨(k + 1, q / 128), longI_step hs hq⟩ (by simp only; omega) (by exact ⟨rfl, rfl, trivial⟩) rfl trivial
      · try replace h0 := of_decide_eq_false h0
        have hq : q / 128 = 0 := by omega
        refine Jc.skip ?_
        refine Jq.thenN ?_
        refine Jc.seq ?_
        refine Jc.region ?_
        refine Jl.pv (PR.move rfl) ?_
        refine Jl.pv (PR.assign rfl) ?_
        refine Jl.nil ?_
        refine Jq.thenN ?_
        refine Jc.ret ?_
        refine Jq.jmpR ?_
        have he := longI_end hs hq
        exact Jq.fin () (.inl rfl) rfl (RetVs.tmp rfl RetVs.nil) (by rw [hz]; exact congrArg (Value.int .i64) he.symm) (by repeat (first | exact Take.nil | apply Take.cons (by repeat (first | exact Del.here | apply Del.there)))) (by repeat (first | exact trivial | refine And.intro (by repeat (first | exact Mem.here | apply Mem.there)) ?_))
    · intro hfirst0
      refine Jc.seq ?_
      refine Jc.seq ?_
      refine Jc.region ?_
      refine Jl.pv (PR.move rfl) ?_
      refine Jl.pv (PR.lss false rfl rfl (by simp)) ?_
      refine Jl.pv (PR.move rfl) ?_
      refine Jl.on rfl rfl ?_
      refine Jl.pv (PR.move rfl) ?_
      refine Jl.on rfl rfl ?_
      refine Jl.pv (PR.gtr false rfl rfl (by simp; omega)) ?_
      refine Jl.pv (PR.pickF rfl rfl) ?_
      refine Jl.nil ?_
      refine Jq.thenN ?_
      refine Jc.condF rfl ?_
      refine Jc.skip ?_
      refine Jq.thenN ?_
      refine Jc.seq ?_
      refine Jc.label ?_
      refine Jq.thenN ?_
      exact Jc.at_ hfirst0 ⟨(0, m), by simp [LongI]; omega⟩ (by exact ⟨rfl, rfl, trivial⟩) rfl trivial
  · have hz : longZ n = 0 := by simp [longZ, hfn]
    have hf : n < 0 ∨ 1099511627776 < n := by simp [fineN] at hfn; omega
    by_cases h0 : n < 0
    · skip
      refine Ct.of _ Tryd.func71 Tryd.ntmps71 rfl rfl (fun X W => ?_)
      refine Jc.seq ?_
      refine Jc.region ?_
      refine Jl.pv (PR.assign rfl) ?_
      refine Jl.nil ?_
      refine Jq.thenN ?_
      refine Jc.scope (σ := Empty) (fun s => s.elim) (fun _ => []) (fun _ => []) (fun _ => 0) (l := 0) rfl ?_ ?_
      · exact fun s => s.elim
      · intro hfirst0
        refine Jc.seq ?_
        refine Jc.seq ?_
        refine Jc.region ?_
        refine Jl.pv (PR.move rfl) ?_
        refine Jl.pv (PR.lss true rfl rfl (by simpa using h0)) ?_
        refine Jl.pv (PR.move rfl) ?_
        refine Jl.offS rfl rfl rfl ?_
        refine Jl.offS rfl rfl rfl ?_
        refine Jl.pv (PR.pickT rfl rfl) ?_
        refine Jl.nil ?_
        refine Jq.thenN ?_
        refine Jc.condT rfl ?_
        refine Jc.seq ?_
        refine Jc.region ?_
        refine Jl.pv (PR.assign rfl) ?_
        refine Jl.nil ?_
        refine Jq.thenN ?_
        refine Jc.ret ?_
        refine Jq.thenR ?_
        refine Jq.jmpR ?_
        exact Jq.fin () (.inl rfl) rfl (RetVs.tmp rfl RetVs.nil) (by rw [hz]; rfl) (by repeat (first | exact Take.nil | apply Take.cons (by repeat (first | exact Del.here | apply Del.there)))) (by repeat (first | exact trivial | refine And.intro (by repeat (first | exact Mem.here | apply Mem.there)) ?_))
    · skip
      refine Ct.of _ Tryd.func71 Tryd.ntmps71 rfl rfl (fun X W => ?_)
      refine Jc.seq ?_
      refine Jc.region ?_
      refine Jl.pv (PR.assign rfl) ?_
      refine Jl.nil ?_
      refine Jq.thenN ?_
      refine Jc.scope (σ := Empty) (fun s => s.elim) (fun _ => []) (fun _ => []) (fun _ => 0) (l := 0) rfl ?_ ?_
      · exact fun s => s.elim
      · intro hfirst0
        refine Jc.seq ?_
        refine Jc.seq ?_
        refine Jc.region ?_
        refine Jl.pv (PR.move rfl) ?_
        refine Jl.pv (PR.lss false rfl rfl (by simpa using h0)) ?_
        refine Jl.pv (PR.move rfl) ?_
        refine Jl.on rfl rfl ?_
        refine Jl.pv (PR.move rfl) ?_
        refine Jl.on rfl rfl ?_
        refine Jl.pv (PR.gtr true rfl rfl (by simp; omega)) ?_
        refine Jl.pv (PR.pickF rfl rfl) ?_
        refine Jl.nil ?_
        refine Jq.thenN ?_
        refine Jc.condT rfl ?_
        refine Jc.seq ?_
        refine Jc.region ?_
        refine Jl.pv (PR.assign rfl) ?_
        refine Jl.nil ?_
        refine Jq.thenN ?_
        refine Jc.ret ?_
        refine Jq.thenR ?_
        refine Jq.jmpR ?_
        exact Jq.fin () (.inl rfl) rfl (RetVs.tmp rfl RetVs.nil) (by rw [hz]; rfl) (by repeat (first | exact Take.nil | apply Take.cons (by repeat (first | exact Del.here | apply Del.there)))) (by repeat (first | exact trivial | refine And.intro (by repeat (first | exact Mem.here | apply Mem.there)) ?_))

/-- Bytes copied. -/
theorem clone_ct (A : Option Addr) (c : Nat) (l : List UInt8) (hn : l.length ≤ 10000000) :
    Ct Tryd.prog 48 [.slice A l.length c] [] [.rd A (u8s l)] (fun x : Option Addr × Nat => .slice x.1 l.length x.2) (fun x => [.row 5 1 (.slice x.1 l.length x.2) l.length (u8s l)]) (fun _ => []) := by
  cases A with
  | none =>
    refine Ct.of _ Tryd.func48 Tryd.ntmps48 rfl rfl (fun X W => ?_)
    refine Jc.pure (p := l = []) Mem.here (fun X W h => ?_) ?_
    · cases l with
      | nil => rfl
      | cons x l => exact absurd (Fact.rd_none h) (by simp [u8s])
    rintro rfl
    refine Jc.seq ?_
    refine Jc.region ?_
    refine Jl.pv (PR.assign rfl) ?_
    refine Jl.nil ?_
    refine Jq.thenN ?_
    refine Jc.seq ?_
    refine Jc.seq ?_
    refine Jc.region ?_
    refine Jl.pv (PR.move rfl) ?_
    refine Jl.pv (PR.eqlNil true rfl tsl22 rfl) ?_
    refine Jl.nil ?_
    refine Jq.thenN ?_
    refine Jc.condT rfl ?_
    refine Jc.seq ?_
    refine Jc.region ?_
    refine Jl.pv (PR.assign rfl) ?_
    refine Jl.nil ?_
    refine Jq.thenN ?_
    refine Jc.ret ?_
    refine Jq.thenR ?_
    refine Jq.nilRow 5 1 ?_
    exact Jq.fin (none, 0) (.inl rfl) rfl (RetVs.tmp rfl RetVs.nil) rfl (by repeat (first | exact Take.nil | apply Take.cons (by repeat (first | exact Del.here | apply Del.there)))) (by repeat (first | exact trivial | refine And.intro (by repeat (first | exact Mem.here | apply Mem.there)) ?_))
  | some a =>
    refine Ct.of _ Tryd.func48 Tryd.ntmps48 rfl rfl (fun X W => ?_)
    refine Jc.seq ?_
    refine Jc.region ?_
    refine Jl.pv (PR.assign rfl) ?_
    refine Jl.nil ?_
    refine Jq.thenN ?_
    refine Jc.seq ?_
    refine Jc.seq ?_
    refine Jc.region ?_
    refine Jl.pv (PR.move rfl) ?_
    refine Jl.pv (PR.eqlNil false rfl tsl22 rfl) ?_
    refine Jl.nil ?_
    refine Jq.thenN ?_
    refine Jc.condF rfl ?_
    refine Jc.skip ?_
    refine Jq.thenN ?_
    refine Jc.seq ?_
    refine Jc.region ?_
    refine Jl.buildSlice (by rfl) tsl22 tzr22_0 (by rfl) (by rfl) ?_
    intro b5
    refine Jl.pv (PR.move rfl) ?_
    refine Jl.toRow 1 0 (by repeat (first | exact Swap.here | apply Swap.there)) (by rfl) (by rfl) ?_
    refine Jl.append l.length (u8s l) rfl rfl rfl tsl22 tze5 (by rfl) (by decide) tby5 (fun _ _ => (by repeat (first | exact Swap.here | apply Swap.there))) (by repeat (first | exact Mem.here | apply Mem.there)) (by omega) rfl (by simp [u8s]) (u8s_one _) (by omega) (by decide) ?_
    intro A7 c7
    refine Jl.pv (PR.assign rfl) ?_
    refine Jl.nil ?_
    refine Jq.thenN ?_
    refine Jc.ret ?_
    exact Jq.fin (A7, c7) (.inl rfl) rfl (RetVs.tmp rfl RetVs.nil) rfl (by repeat (first | exact Take.nil | apply Take.cons (by repeat (first | exact Del.here | apply Del.there)))) (by repeat (first | exact trivial | refine And.intro (by repeat (first | exact Mem.here | apply Mem.there)) ?_))

/-- Take. -/
def takeV (t : Nat × List UInt8 × Nat) (x : Option Addr × Nat) : Value := .tuple #[.int .i64 t.1, .slice x.1 t.2.1.length x.2, .int .i64 t.2.2]
def rowU (l : List UInt8) (x : Option Addr × Nat) : List Res := [.row 5 1 (.slice x.1 l.length x.2) l.length (u8s l)]
theorem take_ct (A : Option Addr) (c : Nat) (b : List UInt8) (hn : b.length ≤ 1000000) (hc : b.length ≤ c) :
    Ct Tryd.prog 66 [.slice A b.length c] [] [.rd A (u8s b)] (takeV (takeN b)) (rowU (takeN b).2.1) (fun _ => []) := by
  refine Ct.of _ Tryd.func66 Tryd.ntmps66 rfl rfl (fun X W => ?_)
  refine Jc.seq ?_
  refine Jc.region ?_
  refine Jl.pv (PR.assign rfl) ?_
  refine Jl.pv (PR.assign rfl) ?_
  refine Jl.pv (PR.assign rfl) ?_
  refine Jl.nil ?_
  refine Jq.thenN ?_
  refine Jc.scope (σ := { s : Nat × Nat // TakeI b s.1 s.2 }) (fun s => [(0, .slice A b.length c), (2, .int .i64 (s.1.2 : Int)), (5, .int .i64 (s.1.1 : Int))]) (fun _ => []) (fun _ => [.rd A (u8s b)]) (fun s => 6 - s.1.1) (l := 0) rfl ?_ ?_
  · rintro ⟨⟨i, acc⟩, hs0⟩
    have hs : TakeI b i acc := hs0
    show Jc _ _ _ _ _ _ [(0, Value.slice A b.length c), (2, .int .i64 (acc : Int)), (5, .int .i64 (i : Int))] [] [.rd A (u8s b)]
    have hlt6 := hs.lt
    have hle := hs.le
    refine Jc.seq ?_
    refine Jc.block ?_
    refine Jc.seq ?_
    refine Jc.region ?_
    refine Jl.pv (PR.move rfl) ?_
    refine Jl.pv (PR.move rfl) ?_
    refine Jl.pv (PR.len rfl tsl22) ?_
    refine Jl.pv (PR.eql _ rfl rfl rfl) ?_
    refine Jl.pv (PR.assign rfl) ?_
    refine Jl.nil ?_
    refine Jq.thenN ?_
    refine Jc.cond rfl (fun h0 => ?_) (fun h0 => ?_)
    · try replace h0 := of_decide_eq_true h0
      refine Jc.seq ?_
      refine Jc.region ?_
      refine Jl.pv (PR.assign rfl) ?_
      refine Jl.pv (PR.assign rfl) ?_
      refine Jl.pv (PR.assign rfl) ?_
      refine Jl.nil ?_
      refine Jq.thenN ?_
      refine Jc.ret ?_
      refine Jq.blkR ?_
      refine Jq.thenR ?_
      refine Jq.jmpR ?_
      refine Jq.nilRow 5 1 ?_
      rw [hs.short (by omega)]
      exact Jq.fin (none, 0) (.inl rfl) rfl (RetVs.tmp rfl (RetVs.tmp rfl (RetVs.tmp rfl RetVs.nil))) rfl (by repeat (first | exact Take.nil | apply Take.cons (by repeat (first | exact Del.here | apply Del.there)))) (by repeat (first | exact trivial | refine And.intro (by repeat (first | exact Mem.here | apply Mem.there)) ?_))
    · try replace h0 := of_decide_eq_false h0
      have hi : i < b.length := by omega
      have hm128 : b[i].toNat % 128 < 128 := Nat.mod_lt _ (by omega)
      have hbig := hs.big _ hm128
      have hbb := b[i].toNat_lt
      refine Jc.seq ?_
      refine Jc.region ?_
      refine Jl.pv (PR.move rfl) ?_
      refine Jl.pv (PR.eql false rfl rfl (by simp; omega)) ?_
      refine Jl.pv (PR.assign rfl) ?_
      refine Jl.nil ?_
      refine Jq.thenN ?_
      refine Jc.condF rfl ?_
      refine Jc.skip ?_
      refine Jq.blkN ?_
      refine Jq.thenN ?_
      refine Jc.seq ?_
      refine Jc.region ?_
      refine Jl.pv (PR.move rfl) ?_
      refine Jl.pv (PR.move rfl) ?_
      refine Jl.pv (PR.move rfl) ?_
      refine Jl.pv (PR.idx1 i rfl rfl tsl22 (by repeat (first | exact Mem.here | apply Mem.there)) (by simp [u8s]) rfl hi) ?_
      refine Jl.pv (PR.loadR rfl tsh5 (by repeat (first | exact Mem.here | apply Mem.there)) (getu hi)) ?_
      refine Jl.pv (PR.and ((b[i].toNat % 128 : Nat) : Int) rfl rfl (and127 _)) ?_
      refine Jl.pv (PR.conv ((b[i].toNat % 128 : Nat) : Int) rfl Tryd.underlying5 Tryd.underlying3 (w64 (by omega) (by omega))) ?_
      refine Jl.pv (PR.move rfl) ?_
      refine Jl.pv (PR.mul (7 * (i : Int)) rfl rfl (w64 (by omega) (by omega))) ?_
      refine Jl.pv (PR.shl _ rfl rfl (by simp; omega) (take_shl hs _ hm128)) ?_
      refine Jl.pv (PR.or _ rfl rfl (take_or hs _ hm128)) ?_
      refine Jl.pv (PR.assign rfl) ?_
      refine Jl.nil ?_
      refine Jq.thenN ?_
      refine Jc.seq ?_
      refine Jc.region ?_
      refine Jl.pv (PR.move rfl) ?_
      refine Jl.pv (PR.add ((i + 1 : Nat) : Int) rfl rfl (by rw [w64 (by omega) (by omega)]; rfl)) ?_
      refine Jl.pv (PR.assign rfl) ?_
      refine Jl.nil ?_
      refine Jq.thenN ?_
      refine Jc.seq ?_
      refine Jc.seq ?_
      refine Jc.region ?_
      refine Jl.pv (PR.move rfl) ?_
      refine Jl.pv (PR.move rfl) ?_
      refine Jl.pv (PR.sub (i : Int) rfl rfl (by rw [w64 (by omega) (by omega)]; omega)) ?_
      refine Jl.pv (PR.idx1 i rfl rfl tsl22 (by repeat (first | exact Mem.here | apply Mem.there)) (by simp [u8s]) rfl hi) ?_
      refine Jl.pv (PR.loadR rfl tsh5 (by repeat (first | exact Mem.here | apply Mem.there)) (getu hi)) ?_
      refine Jl.pv (PR.geq _ rfl rfl rfl) ?_
      refine Jl.pv (PR.move rfl) ?_
      refine Jl.bsplit (fun g33 => ?_) (fun g33 => ?_)
      · try replace g33 := of_decide_eq_true g33
        refine Jl.on rfl rfl ?_
        refine Jl.pv (PR.move rfl) ?_
        refine Jl.on rfl rfl ?_
        refine Jl.pv (PR.lss _ rfl rfl rfl) ?_
        refine Jl.pv (PR.pickT rfl rfl) ?_
        refine Jl.nil ?_
        refine Jq.thenN ?_
        refine Jc.cond rfl (fun h1 => ?_) (fun h1 => ?_)
        · try replace h1 := of_decide_eq_true h1
          refine Jc.goto ?_
          refine Jq.thenG ?_
          exact Jq.jmpB ⟨(i + 1, acc + b[i].toNat % 128 * 128 ^ i), hs.next hi (by omega) (by omega)⟩ (by simp only; omega) (by exact ⟨rfl, rfl, rfl, trivial⟩) rfl (by exact ⟨Mem.here, trivial⟩)
        · try replace h1 := of_decide_eq_false h1
          refine Jc.skip ?_
          refine Jq.thenN ?_
          refine Jc.seq ?_
          refine Jc.seq ?_
          refine Jc.region ?_
          refine Jl.pv (PR.move rfl) ?_
          refine Jl.pv (PR.move rfl) ?_
          refine Jl.pv (PR.sub (i : Int) rfl rfl (by rw [w64 (by omega) (by omega)]; omega)) ?_
          refine Jl.pv (PR.idx1 i rfl rfl tsl22 (by repeat (first | exact Mem.here | apply Mem.there)) (by simp [u8s]) rfl hi) ?_
          refine Jl.pv (PR.loadR rfl tsh5 (by repeat (first | exact Mem.here | apply Mem.there)) (getu hi)) ?_
          refine Jl.pv (PR.geq true rfl rfl (by simpa using g33)) ?_
          refine Jl.pv (PR.move rfl) ?_
          refine Jl.offS rfl rfl rfl ?_
          refine Jl.offS rfl rfl rfl ?_
          refine Jl.offS rfl rfl rfl ?_
          refine Jl.offS rfl rfl rfl ?_
          refine Jl.offS rfl rfl rfl ?_
          refine Jl.offS rfl rfl rfl ?_
          refine Jl.offS rfl rfl rfl ?_
          refine Jl.offUS rfl rfl ?_
          refine Jl.offUS rfl rfl ?_
          refine Jl.offS rfl rfl rfl ?_
          refine Jl.pv (PR.pickT rfl rfl) ?_
          refine Jl.pv (PR.move rfl) ?_
          refine Jl.offS rfl rfl rfl ?_
          refine Jl.offS rfl rfl rfl ?_
          refine Jl.pv (PR.pickT rfl rfl) ?_
          refine Jl.nil ?_
          refine Jq.thenN ?_
          refine Jc.condT rfl ?_
          refine Jc.seq ?_
          refine Jc.region ?_
          refine Jl.pv (PR.assign rfl) ?_
          refine Jl.pv (PR.assign rfl) ?_
          refine Jl.pv (PR.assign rfl) ?_
          refine Jl.nil ?_
          refine Jq.thenN ?_
          refine Jc.ret ?_
          refine Jq.thenR ?_
          refine Jq.jmpR ?_
          refine Jq.nilRow 5 1 ?_
          rw [hs.bad hi (by omega)]
          exact Jq.fin (none, 0) (.inl rfl) rfl (RetVs.tmp rfl (RetVs.tmp rfl (RetVs.tmp rfl RetVs.nil))) rfl (by repeat (first | exact Take.nil | apply Take.cons (by repeat (first | exact Del.here | apply Del.there)))) (by repeat (first | exact trivial | refine And.intro (by repeat (first | exact Mem.here | apply Mem.there)) ?_))
      · try replace g33 := of_decide_eq_false g33
        refine Jl.offS rfl rfl rfl ?_
        refine Jl.offS rfl rfl rfl ?_
        refine Jl.pv (PR.pickF rfl rfl) ?_
        refine Jl.nil ?_
        refine Jq.thenN ?_
        refine Jc.condF rfl ?_
        refine Jc.skip ?_
        refine Jq.thenN ?_
        refine Jc.seq ?_
        refine Jc.seq ?_
        refine Jc.region ?_
        refine Jl.pv (PR.move rfl) ?_
        refine Jl.pv (PR.move rfl) ?_
        refine Jl.pv (PR.sub (i : Int) rfl rfl (by rw [w64 (by omega) (by omega)]; omega)) ?_
        refine Jl.pv (PR.idx1 i rfl rfl tsl22 (by repeat (first | exact Mem.here | apply Mem.there)) (by simp [u8s]) rfl hi) ?_
        refine Jl.pv (PR.loadR rfl tsh5 (by repeat (first | exact Mem.here | apply Mem.there)) (getu hi)) ?_
        refine Jl.pv (PR.geq false rfl rfl (by simpa using g33)) ?_
        refine Jl.pv (PR.move rfl) ?_
        refine Jl.on rfl rfl ?_
        refine Jl.pv (PR.move rfl) ?_
        refine Jl.on rfl rfl ?_
        refine Jl.pv (PR.move rfl) ?_
        refine Jl.on rfl rfl ?_
        refine Jl.pv (PR.sub (i : Int) rfl rfl (by rw [w64 (by omega) (by omega)]; omega)) ?_
        refine Jl.on rfl rfl ?_
        refine Jl.pv (PR.idx1 i rfl rfl tsl22 (by repeat (first | exact Mem.here | apply Mem.there)) (by simp [u8s]) rfl hi) ?_
        refine Jl.on rfl rfl ?_
        refine Jl.pv (PR.loadR rfl tsh5 (by repeat (first | exact Mem.here | apply Mem.there)) (getu hi)) ?_
        refine Jl.on rfl rfl ?_
        refine Jl.pv (PR.eql _ rfl rfl rfl) ?_
        refine Jl.on rfl rfl ?_
        refine Jl.pv (PR.move rfl) ?_
        refine Jl.bsplit (fun g50 => ?_) (fun g50 => ?_)
        · try replace g50 := of_decide_eq_true g50
          refine Jl.on rfl rfl ?_
          refine Jl.pv (PR.move rfl) ?_
          refine Jl.on rfl rfl ?_
          refine Jl.pv (PR.gtr _ rfl rfl rfl) ?_
          refine Jl.on rfl rfl ?_
          refine Jl.pv (PR.pickT rfl rfl) ?_
          refine Jl.pv (PR.pickF rfl rfl) ?_
          refine Jl.pv (PR.move rfl) ?_
          refine Jl.bsplit (fun g55 => ?_) (fun g55 => ?_)
          · try replace g55 := of_decide_eq_true g55
            refine Jl.offS rfl rfl rfl ?_
            refine Jl.offS rfl rfl rfl ?_
            refine Jl.pv (PR.pickT rfl rfl) ?_
            refine Jl.nil ?_
            refine Jq.thenN ?_
            refine Jc.condT rfl ?_
            refine Jc.seq ?_
            refine Jc.region ?_
            refine Jl.pv (PR.assign rfl) ?_
            refine Jl.pv (PR.assign rfl) ?_
            refine Jl.pv (PR.assign rfl) ?_
            refine Jl.nil ?_
            refine Jq.thenN ?_
            refine Jc.ret ?_
            refine Jq.thenR ?_
            refine Jq.jmpR ?_
            refine Jq.nilRow 5 1 ?_
            rw [hs.bad hi (by omega)]
            exact Jq.fin (none, 0) (.inl rfl) rfl (RetVs.tmp rfl (RetVs.tmp rfl (RetVs.tmp rfl RetVs.nil))) rfl (by repeat (first | exact Take.nil | apply Take.cons (by repeat (first | exact Del.here | apply Del.there)))) (by repeat (first | exact trivial | refine And.intro (by repeat (first | exact Mem.here | apply Mem.there)) ?_))
          · try replace g55 := of_decide_eq_false g55
            refine Jl.on rfl rfl ?_
            refine Jl.pv (PR.move rfl) ?_
            refine Jl.on rfl rfl ?_
            refine Jl.pv (PR.gtr _ rfl rfl rfl) ?_
            refine Jl.pv (PR.pickF rfl rfl) ?_
            refine Jl.nil ?_
            refine Jq.thenN ?_
            refine Jc.cond rfl (fun h2 => ?_) (fun h2 => ?_)
            · try replace h2 := of_decide_eq_true h2
              refine Jc.seq ?_
              refine Jc.region ?_
              refine Jl.pv (PR.assign rfl) ?_
              refine Jl.pv (PR.assign rfl) ?_
              refine Jl.pv (PR.assign rfl) ?_
              refine Jl.nil ?_
              refine Jq.thenN ?_
              refine Jc.ret ?_
              refine Jq.thenR ?_
              refine Jq.jmpR ?_
              refine Jq.nilRow 5 1 ?_
              rw [hs.bad hi (by omega)]
              exact Jq.fin (none, 0) (.inl rfl) rfl (RetVs.tmp rfl (RetVs.tmp rfl (RetVs.tmp rfl RetVs.nil))) rfl (by repeat (first | exact Take.nil | apply Take.cons (by repeat (first | exact Del.here | apply Del.there)))) (by repeat (first | exact trivial | refine And.intro (by repeat (first | exact Mem.here | apply Mem.there)) ?_))
            · try replace h2 := of_decide_eq_false h2
              refine Jc.skip ?_
              refine Jq.thenN ?_
              refine Jc.seq ?_
              refine Jc.region ?_
              refine Jl.pv (PR.move rfl) ?_
              refine Jl.pv (PR.move rfl) ?_
              refine Jl.pv (PR.move rfl) ?_
              refine Jl.slice (i + 1) b.length (b.length - (i + 1)) (u8s (b.drop (i + 1))) rfl tsl22 rfl rfl (by repeat (first | exact Mem.here | apply Mem.there)) (by omega) (Nat.le_refl _) hc rfl (sl_end b (i + 1)) ?_
              intro A62 c62 hc62
              clear hc62
              rw [show b.length - (i + 1) = (b.drop (i + 1)).length by simp]
              refine Jl.call (clone_ct A62 c62 (b.drop (i + 1)) (by simp; omega)) en48 (by rfl) (by repeat (first | exact Take.nil | apply Take.cons (by repeat (first | exact Del.here | apply Del.there)))) (by repeat (first | exact trivial | refine And.intro (by repeat (first | exact Mem.here | apply Mem.there)) ?_)) ?_
              rintro ⟨A63, c63⟩
              refine Jl.pv (PR.assign rfl) ?_
              refine Jl.pv (PR.assign rfl) ?_
              refine Jl.pv (PR.assign rfl) ?_
              refine Jl.nil ?_
              refine Jq.thenN ?_
              refine Jc.ret ?_
              refine Jq.jmpR ?_
              rw [hs.good hi (by omega) (by omega) (by omega)]
              exact Jq.fin (A63, c63) (.inl rfl) rfl (RetVs.tmp rfl (RetVs.tmp rfl (RetVs.tmp rfl RetVs.nil))) rfl (by repeat (first | exact Take.nil | apply Take.cons (by repeat (first | exact Del.here | apply Del.there)))) (by repeat (first | exact trivial | refine And.intro (by repeat (first | exact Mem.here | apply Mem.there)) ?_))
        · try replace g50 := of_decide_eq_false g50
          refine Jl.offS rfl rfl rfl ?_
          refine Jl.offS rfl rfl rfl ?_
          refine Jl.on rfl rfl ?_
          refine Jl.pv (PR.pickF rfl rfl) ?_
          refine Jl.pv (PR.pickF rfl rfl) ?_
          refine Jl.pv (PR.move rfl) ?_
          refine Jl.on rfl rfl ?_
          refine Jl.pv (PR.move rfl) ?_
          refine Jl.on rfl rfl ?_
          refine Jl.pv (PR.gtr _ rfl rfl rfl) ?_
          refine Jl.pv (PR.pickF rfl rfl) ?_
          refine Jl.nil ?_
          refine Jq.thenN ?_
          refine Jc.cond rfl (fun h3 => ?_) (fun h3 => ?_)
          · try replace h3 := of_decide_eq_true h3
            refine Jc.seq ?_
            refine Jc.region ?_
            refine Jl.pv (PR.assign rfl) ?_
            refine Jl.pv (PR.assign rfl) ?_
            refine Jl.pv (PR.assign rfl) ?_
            refine Jl.nil ?_
            refine Jq.thenN ?_
            refine Jc.ret ?_
            refine Jq.thenR ?_
            refine Jq.jmpR ?_
            refine Jq.nilRow 5 1 ?_
            rw [hs.bad hi (by omega)]
            exact Jq.fin (none, 0) (.inl rfl) rfl (RetVs.tmp rfl (RetVs.tmp rfl (RetVs.tmp rfl RetVs.nil))) rfl (by repeat (first | exact Take.nil | apply Take.cons (by repeat (first | exact Del.here | apply Del.there)))) (by repeat (first | exact trivial | refine And.intro (by repeat (first | exact Mem.here | apply Mem.there)) ?_))
          · try replace h3 := of_decide_eq_false h3
            refine Jc.skip ?_
            refine Jq.thenN ?_
            refine Jc.seq ?_
            refine Jc.region ?_
            refine Jl.pv (PR.move rfl) ?_
            refine Jl.pv (PR.move rfl) ?_
            refine Jl.pv (PR.move rfl) ?_
            refine Jl.slice (i + 1) b.length (b.length - (i + 1)) (u8s (b.drop (i + 1))) rfl tsl22 rfl rfl (by repeat (first | exact Mem.here | apply Mem.there)) (by omega) (Nat.le_refl _) hc rfl (sl_end b (i + 1)) ?_
            intro A62 c62 hc62
            clear hc62
            rw [show b.length - (i + 1) = (b.drop (i + 1)).length by simp]
            refine Jl.call (clone_ct A62 c62 (b.drop (i + 1)) (by simp; omega)) en48 (by rfl) (by repeat (first | exact Take.nil | apply Take.cons (by repeat (first | exact Del.here | apply Del.there)))) (by repeat (first | exact trivial | refine And.intro (by repeat (first | exact Mem.here | apply Mem.there)) ?_)) ?_
            rintro ⟨A63, c63⟩
            refine Jl.pv (PR.assign rfl) ?_
            refine Jl.pv (PR.assign rfl) ?_
            refine Jl.pv (PR.assign rfl) ?_
            refine Jl.nil ?_
            refine Jq.thenN ?_
            refine Jc.ret ?_
            refine Jq.jmpR ?_
            rw [hs.good hi (by omega) (by omega) (by omega)]
            exact Jq.fin (A63, c63) (.inl rfl) rfl (RetVs.tmp rfl (RetVs.tmp rfl (RetVs.tmp rfl RetVs.nil))) rfl (by repeat (first | exact Take.nil | apply Take.cons (by repeat (first | exact Del.here | apply Del.there)))) (by repeat (first | exact trivial | refine And.intro (by repeat (first | exact Mem.here | apply Mem.there)) ?_))
  · intro hfirst0
    refine Jc.seq ?_
    refine Jc.region ?_
    refine Jl.pv (PR.assign rfl) ?_
    refine Jl.nil ?_
    refine Jq.thenN ?_
    refine Jc.seq ?_
    refine Jc.label ?_
    refine Jq.thenN ?_
    exact Jc.at_ hfirst0 ⟨(0, 0), TakeI.zero b⟩ (by exact ⟨rfl, rfl, rfl, trivial⟩) rfl (by exact ⟨Mem.here, trivial⟩)

end Go.Proofs.YtcohgnagffibcaaDoor
namespace Go.Proofs.YtcohgnagffibcaaDoor
set_option linter.unusedVariables false
open Go.RowKit
attribute [local irreducible] Res.blk Res.row Fact.rd

def dvals (n k : Nat) : List Value := [.int .u8 (n / 128 ^ k % 128 : Nat), .bool (decide (n / 128 ^ k < 128))]
theorem digits1_it (n : Nat) (hn : n ≤ 1099511627776) (b : Nat) : It Tryd.prog 79 [.pointer (some ⟨b, 0, none⟩)] [.blk b 3 [.int .i64 n]] [] (dlen 10 n) (dvals n) := by
  refine It.of _ Tryd.func79 Tryd.ntmps79 rfl rfl (by rfl) (by simp) (fun W l cl clx hy => ?_)
  refine Jc.scope (σ := { k : Nat // k < dlen 10 n }) (fun s => [(0, .func (.yield l) #[] #[]), (1, .pointer (some ⟨b, 0, none⟩))]) (fun s => [.blk b 3 [.int .i64 (n / 128 ^ s.1 : Nat)]]) (fun s => [cl s.1]) (fun s => 10 - s.1) (l := 0) rfl ?_ ?_
  · rintro ⟨k, hk⟩
    show Jc _ _ _ _ _ _ [(0, Value.func (.yield l) #[] #[]), (1, .pointer (some ⟨b, 0, none⟩))] [.blk b 3 [.int .i64 (n / 128 ^ k : Nat)]] [cl k]
    have hq : n / 128 ^ k ≤ n := Nat.div_le_self _ _
    have hlast := dlen_last 10 n k (p128_10 n hn) hk
    refine Jc.seq ?_
    refine Jc.seq ?_
    refine Jc.region ?_
    refine Jl.pv (PR.move rfl) ?_
    refine Jl.pv (PR.load1 rfl tsh3 (by repeat (first | exact Has.here | apply Has.there)) (by rfl)) ?_
    refine Jl.pv (PR.and ((n / 128 ^ k % 128 : Nat) : Int) rfl rfl (andI127 _ (by omega))) ?_
    refine Jl.pv (PR.conv ((n / 128 ^ k % 128 : Nat) : Int) rfl Tryd.underlying3 Tryd.underlying5 (by rw [IntKind.wrap_u8]; omega)) ?_
    refine Jl.pv (PR.load1 rfl tsh3 (by repeat (first | exact Has.here | apply Has.there)) (by rfl)) ?_
    refine Jl.pv (PR.lss (decide (n / 128 ^ k < 128)) rfl rfl (decide_eq_decide.2 (Int.ofNat_lt (m := 128)))) ?_
    refine hy _ _ _ _ _ _ _ _ _ _ _ _ _ _ k hk rfl rfl (by repeat (first | exact Mem.here | apply Mem.there)) rfl ?_ ?_
    · refine Jl.pv (PR.not rfl) ?_
      refine Jl.pv (PR.move rfl) ?_
      refine Jl.on rfl rfl ?_
      refine Jl.pv (PR.load1 rfl tsh3 (by repeat (first | exact Has.here | apply Has.there)) (by rfl)) ?_
      refine Jl.on rfl rfl ?_
      refine Jl.pv (PR.lss (decide (n / 128 ^ k < 128)) rfl rfl (decide_eq_decide.2 (Int.ofNat_lt (m := 128)))) ?_
      refine Jl.pv (PR.pickF rfl rfl) ?_
      refine Jl.nil ?_
      refine Jq.thenN ?_
      refine Jc.cond rfl (fun h0 => ?_) (fun h0 => ?_)
      · try replace h0 := of_decide_eq_true h0
        refine Jc.ret ?_
        refine Jq.thenR ?_
        refine Jq.jmpR ?_
        rw [hlast.1 h0]; exact Jq.itDone (.inl rfl) (by repeat (first | exact Mem.here | apply Mem.there))
      · try replace h0 := of_decide_eq_false h0
        refine Jc.skip ?_
        refine Jq.thenN ?_
        refine Jc.seq ?_
        refine Jc.region ?_
        refine Jl.pv (PR.load1 rfl tsh3 (by repeat (first | exact Has.here | apply Has.there)) (by rfl)) ?_
        refine Jl.pv (PR.shr ((n / 128 ^ (k + 1) : Nat) : Int) rfl rfl (by decide) (by show Int.fdiv _ (2 ^ 7) = _; rw [shr7 _ (by omega)]; exact congrArg Nat.cast (div128 n k))) ?_
        refine Jl.store1 rfl tsh3 rfl (by rfl) (by repeat (first | exact Swap.here | apply Swap.there)) (by rfl) ?_
        refine Jl.nil ?_
        refine Jq.thenN ?_
        refine Jc.goto ?_
        exact Jq.jmpB ⟨k + 1, by have := fun h => h0 (hlast.2 h); omega⟩ (by have := dlen_le 10 n; simp only; omega) (by exact ⟨rfl, rfl, trivial⟩) rfl (by exact ⟨Mem.here, trivial⟩)
    · refine Jl.pv (PR.not rfl) ?_
      refine Jl.pv (PR.move rfl) ?_
      refine Jl.offS rfl rfl rfl ?_
      refine Jl.offS rfl rfl rfl ?_
      refine Jl.pv (PR.pickT rfl rfl) ?_
      refine Jl.nil ?_
      refine Jq.thenN ?_
      refine Jc.condT rfl ?_
      refine Jc.ret ?_
      refine Jq.thenR ?_
      refine Jq.jmpR ?_
      exact Jq.itStop (.inl rfl) hk (by repeat (first | exact Mem.here | apply Mem.there))
  · intro hfirst0
    refine Jc.seq ?_
    refine Jc.label ?_
    refine Jq.thenN ?_
    exact Jc.at_ hfirst0 ⟨0, dlen0 n⟩ (by exact ⟨rfl, rfl, trivial⟩) (by simp) (by exact ⟨Mem.here, trivial⟩)

theorem digits_ct (n : Nat) : Ct Tryd.prog 78 [.int .i64 n] [] [] (fun b : Nat => .func (.func 79) #[] #[.pointer (some ⟨b, 0, none⟩)]) (fun b => [.blk b 3 [.int .i64 n]]) (fun _ => []) := by
  refine Ct.of _ Tryd.func78 Tryd.ntmps78 rfl rfl (fun X W => ?_)
  refine Jc.seq ?_
  refine Jc.region ?_
  refine Jl.box rfl (by rfl) ?_
  intro b1
  refine Jl.pv (PR.assign rfl) ?_
  refine Jl.nil ?_
  refine Jq.thenN ?_
  refine Jc.seq ?_
  refine Jc.region ?_
  refine Jl.pv (PR.makeFunc rfl rfl) ?_
  refine Jl.pv (PR.assign rfl) ?_
  refine Jl.nil ?_
  refine Jq.thenN ?_
  refine Jc.ret ?_
  exact Jq.fin b1 (.inl rfl) rfl (RetVs.tmp rfl RetVs.nil) rfl (by repeat (first | exact Take.nil | apply Take.cons (by repeat (first | exact Del.here | apply Del.there)))) (by repeat (first | exact trivial | refine And.intro (by repeat (first | exact Mem.here | apply Mem.there)) ?_))

theorem digs_step (n k : Nat) (hn : n ≤ 1099511627776) (hk : k < dlen 10 n) : (digs 10 n).take (k + 1) = (digs 10 n).take k ++ [UInt8.ofNat (n / 128 ^ k % 128 + if n / 128 ^ k < 128 then 0 else 128)] := by
  have hl : k < (digs 10 n).length := by rw [digs_len]; exact hk
  rw [List.take_succ_eq_append_getElem hl, dig_at 10 n k (p128_10 n hn) hl]

theorem digs_app (ys : List UInt8) (n k x : Nat) (hn : n ≤ 1099511627776) (hk : k < dlen 10 n) (hx : x = n / 128 ^ k % 128 + if n / 128 ^ k < 128 then 0 else 128) :
    u8s (ys ++ (digs 10 n).take k) ++ [Value.int .u8 (x : Int)] = u8s (ys ++ (digs 10 n).take (k + 1)) := by
  subst hx
  rw [digs_step n k hn hk]
  have h : n / 128 ^ k % 128 < 128 := Nat.mod_lt _ (by omega)
  have h2 : (n / 128 ^ k % 128 + if n / 128 ^ k < 128 then 0 else 128) < 256 := by split <;> omega
  simp only [u8s, List.map_append, List.map_cons, List.map_nil, List.append_assoc, UInt8.toNat_ofNat', show (2:Nat) ^ 8 = 256 from rfl, Nat.mod_eq_of_lt h2]
theorem digs_lt (ys : List UInt8) (n k : Nat) (hn : n ≤ 1099511627776) (hk : k < dlen 10 n) : (ys ++ (digs 10 n).take k).length + 1 = (ys ++ (digs 10 n).take (k + 1)).length ∧ (ys ++ (digs 10 n).take k).length ≤ ys.length + 10 := by
  have := dlen_le 10 n
  simp [digs_len]; omega
theorem digs_all (n : Nat) : (digs 10 n).take (dlen 10 n) = putB n := by rw [List.take_of_length_le (by rw [digs_len]; exact Nat.le_refl _)]; rfl

theorem put_ct (ys : List UInt8) (A : Option Addr) (c n : Nat) (hn : n ≤ 1099511627776) (hy : ys.length ≤ 10000) :
    Ct Tryd.prog 72 [.slice A ys.length c, .int .i64 n] (rowU ys (A, c)) [] (fun x : Option Addr × Nat => .slice x.1 (ys ++ putB n).length x.2) (rowU (ys ++ putB n)) (fun _ => []) := by
  refine Ct.of _ Tryd.func72 Tryd.ntmps72 rfl rfl (fun X W => ?_)
  refine Jc.seq ?_
  refine Jc.region ?_
  refine Jl.box rfl (by rfl) ?_
  intro b2
  refine Jl.pv (PR.assign rfl) ?_
  refine Jl.nil ?_
  refine Jq.thenN ?_
  refine Jc.seq ?_
  refine Jc.seq ?_
  refine Jc.region ?_
  refine Jl.pv (PR.move rfl) ?_
  refine Jl.call (digits_ct n) en78 (by rfl) (by repeat (first | exact Take.nil | apply Take.cons (by repeat (first | exact Del.here | apply Del.there)))) (by repeat (first | exact trivial | refine And.intro (by repeat (first | exact Mem.here | apply Mem.there)) ?_)) ?_
  rintro b8
  refine Jl.nil ?_
  refine Jq.thenN ?_
  refine Jc.block ?_
  refine Jc.range (σ := (k : Nat) × (Option Addr × Nat)) (τ := Empty) (Inv := fun k s => s.1 = k) (Rs := fun s => [.blk b2 22 [.slice s.2.1 (ys ++ (digs 10 n).take s.1).length s.2.2], .row 5 1 (.slice s.2.1 (ys ++ (digs 10 n).take s.1).length s.2.2) (ys ++ (digs 10 n).take s.1).length (u8s (ys ++ (digs 10 n).take s.1))]) (Φs := fun _ => []) (InvX := fun _ _ _ => False) (RsX := fun _ => []) (ΦsX := fun _ => []) (vals := dvals n) rfl en79 (digits1_it n hn b8) (by repeat (first | exact Take.nil | apply Take.cons (by repeat (first | exact Del.here | apply Del.there)))) trivial (fun _ => rfl) rfl ⟨0, A, c⟩ rfl (by simp [rowU]) trivial ?_ ?_ ?_
  · rintro k ⟨j, A', c'⟩ hk hj l C1
    obtain rfl : k = j := hj.symm
    have hlt := digs_lt ys n k hn hk
    have hmod : n / 128 ^ k % 128 < 128 := Nat.mod_lt _ (by omega)
    show Jc _ _ _ _ _ _ (psetL [9, 10] [.int .u8 (n / 128 ^ k % 128 : Nat), .bool (decide (n / 128 ^ k < 128))] _) [.blk b2 22 [.slice A' (ys ++ (digs 10 n).take k).length c'], .row 5 1 (.slice A' (ys ++ (digs 10 n).take k).length c') (ys ++ (digs 10 n).take k).length (u8s (ys ++ (digs 10 n).take k))] []
    refine Jc.seq ?_
    refine Jc.region ?_
    refine Jl.pv (PR.assign rfl) ?_
    refine Jl.nil ?_
    refine Jq.thenN ?_
    refine Jc.region ?_
    refine Jl.pv (PR.assign rfl) ?_
    refine Jl.nil ?_
    refine Jq.assigned (fun C2 => ?_)
    refine Jc.block ?_
    refine Jc.seq ?_
    refine Jc.seq ?_
    refine Jc.region ?_
    refine Jl.pv (PR.move rfl) ?_
    refine Jl.pv (PR.not rfl) ?_
    refine Jl.nil ?_
    refine Jq.thenN ?_
    refine Jc.cond rfl (fun h0 => ?_) (fun h0 => ?_)
    · try replace h0 := of_decide_eq_true h0
      replace h0 : ¬ n / 128 ^ k < 128 := by simpa using h0
      refine Jc.region ?_
      refine Jl.pv (PR.move rfl) ?_
      refine Jl.pv (PR.or ((n / 128 ^ k % 128 + 128 : Nat) : Int) rfl rfl (orU128 _ hmod)) ?_
      refine Jl.pv (PR.assign rfl) ?_
      refine Jl.nil ?_
      refine Jq.thenN ?_
      refine Jc.region ?_
      refine Jl.pv (PR.load1 rfl tsh22 (by repeat (first | exact Has.here | apply Has.there)) (by rfl)) ?_
      refine Jl.pv (PR.move rfl) ?_
      refine Jl.buildSlice (by rfl) tsl22 tzr22_1 (by rfl) (by rfl) ?_
      intro b17
      refine Jl.seal (by repeat (first | exact Del.here | apply Del.there)) ?_
      refine Jl.append (ys ++ (digs 10 n).take (k + 1)).length (u8s (ys ++ (digs 10 n).take (k + 1))) rfl rfl rfl tsl22 tze5 (by rfl) (by decide) tby5 (fun _ _ => (by repeat (first | exact Swap.here | apply Swap.there))) (by repeat (first | exact Mem.here | apply Mem.there)) hlt.1 (digs_app ys n k _ hn hk (by rw [if_neg h0])) rfl (by simp [Value.oneCell']) (by omega) (by decide) ?_
      intro A18 c18
      refine Jl.store1 rfl tsh22 rfl (by rfl) (by repeat (first | exact Swap.here | apply Swap.there)) (by rfl) ?_
      refine Jl.nil ?_
      refine Jq.blkN ?_
      exact Jq.next ⟨k + 1, A18, c18⟩ rfl rfl trivial
    · try replace h0 := of_decide_eq_false h0
      replace h0 : n / 128 ^ k < 128 := by simpa using h0
      refine Jc.skip ?_
      refine Jq.thenN ?_
      refine Jc.region ?_
      refine Jl.pv (PR.load1 rfl tsh22 (by repeat (first | exact Has.here | apply Has.there)) (by rfl)) ?_
      refine Jl.pv (PR.move rfl) ?_
      refine Jl.buildSlice (by rfl) tsl22 tzr22_1 (by rfl) (by rfl) ?_
      intro b17
      refine Jl.seal (by repeat (first | exact Del.here | apply Del.there)) ?_
      refine Jl.append (ys ++ (digs 10 n).take (k + 1)).length (u8s (ys ++ (digs 10 n).take (k + 1))) rfl rfl rfl tsl22 tze5 (by rfl) (by decide) tby5 (fun _ _ => (by repeat (first | exact Swap.here | apply Swap.there))) (by repeat (first | exact Mem.here | apply Mem.there)) hlt.1 (digs_app ys n k _ hn hk (by rw [if_pos h0, Nat.add_zero])) rfl (by simp [Value.oneCell']) (by omega) (by decide) ?_
      intro A18 c18
      refine Jl.store1 rfl tsh22 rfl (by rfl) (by repeat (first | exact Swap.here | apply Swap.there)) (by rfl) ?_
      refine Jl.nil ?_
      refine Jq.blkN ?_
      exact Jq.next ⟨k + 1, A18, c18⟩ rfl rfl trivial
  · rintro ⟨j, A', c'⟩ D0 hj
    obtain rfl : j = dlen 10 n := hj
    show Jq _ _ _ .normal _ [.mark D0, .blk b2 22 [.slice A' (ys ++ (digs 10 n).take (dlen 10 n)).length c'], .row 5 1 (.slice A' (ys ++ (digs 10 n).take (dlen 10 n)).length c') (ys ++ (digs 10 n).take (dlen 10 n)).length (u8s (ys ++ (digs 10 n).take (dlen 10 n)))] []
    rw [digs_all]
    refine Jq.blkN ?_
    refine Jq.thenN ?_
    refine Jc.seq ?_
    refine Jc.region ?_
    refine Jl.pv (PR.load1 rfl tsh22 (by repeat (first | exact Has.here | apply Has.there)) (by rfl)) ?_
    refine Jl.pv (PR.assign rfl) ?_
    refine Jl.nil ?_
    refine Jq.thenN ?_
    refine Jc.ret ?_
    exact Jq.finM (Ds := [D0]) (A', c') (.inl rfl) rfl (by repeat (first | exact Take.nil | apply Take.cons (by repeat (first | exact Del.here | apply Del.there)))) (RetVs.tmp rfl RetVs.nil) rfl (by repeat (first | exact Take.nil | apply Take.cons (by repeat (first | exact Del.here | apply Del.there)))) (by repeat (first | exact trivial | refine And.intro (by repeat (first | exact Mem.here | apply Mem.there)) ?_))
  · exact fun _ _ t => t.elim

end Go.Proofs.YtcohgnagffibcaaDoor
namespace Go.Proofs.YtcohgnagffibcaaDoor
set_option linter.unusedVariables false
open Go.RowKit
attribute [local irreducible] Res.blk Res.row Fact.rd
theorem put1_ct (n : Int) : Ct Tryd.prog 62 [.int .i64 n] [] [] (fun x : Option Addr × Nat => .tuple #[.slice x.1 (putN n).length x.2, .int .i64 (putR n)]) (rowU (putN n)) (fun _ => []) := by
  by_cases hfn : fineN n = true
  · have hf : 0 ≤ n ∧ n ≤ 1099511627776 := by simpa [fineN] using hfn
    obtain ⟨m, rfl⟩ : ∃ m : Nat, n = m := ⟨n.toNat, by omega⟩
    have e1 : putN (m : Int) = putB m := if_pos hfn
    have e2 : putR (m : Int) = 0 := if_pos hfn
    rw [e1, e2]
    refine Ct.of _ Tryd.func62 Tryd.ntmps62 rfl rfl (fun X W => ?_)
    refine Jc.seq ?_
    refine Jc.region ?_
    refine Jl.pv (PR.assign rfl) ?_
    refine Jl.pv (PR.assign rfl) ?_
    refine Jl.nil ?_
    refine Jq.thenN ?_
    refine Jc.seq ?_
    refine Jc.seq ?_
    refine Jc.region ?_
    refine Jl.pv (PR.move rfl) ?_
    refine Jl.call (long_ct m) en71 (by rfl) (by repeat (first | exact Take.nil | apply Take.cons (by repeat (first | exact Del.here | apply Del.there)))) (by repeat (first | exact trivial | refine And.intro (by repeat (first | exact Mem.here | apply Mem.there)) ?_)) ?_
    rintro ⟨⟩
    refine Jl.pv (PR.eql false rfl rfl (by have := longZ_eq0 (m : Int); simp [hfn] at this; simpa using this)) ?_
    refine Jl.nil ?_
    refine Jq.thenN ?_
    refine Jc.condF rfl ?_
    refine Jc.skip ?_
    refine Jq.thenN ?_
    refine Jc.seq ?_
    refine Jc.region ?_
    refine Jl.pv (PR.move rfl) ?_
    refine Jl.nilRow 5 1 ?_
    refine Jl.call (put_ct [] none 0 m (by omega) (by simp)) en72 (by rfl) (by repeat (first | exact Take.nil | apply Take.cons (by repeat (first | exact Del.here | apply Del.there)))) (by repeat (first | exact trivial | refine And.intro (by repeat (first | exact Mem.here | apply Mem.there)) ?_)) ?_
    rintro ⟨A8, c8⟩
    refine Jl.pv (PR.assign rfl) ?_
    refine Jl.pv (PR.assign rfl) ?_
    refine Jl.nil ?_
    refine Jq.thenN ?_
    refine Jc.ret ?_
    exact Jq.fin (A8, c8) (.inl rfl) rfl (RetVs.tmp rfl (RetVs.tmp rfl RetVs.nil)) rfl (by repeat (first | exact Take.nil | apply Take.cons (by repeat (first | exact Del.here | apply Del.there)))) (by repeat (first | exact trivial | refine And.intro (by repeat (first | exact Mem.here | apply Mem.there)) ?_))
  · have hz := (longZ_eq0 n).2 (by simpa using hfn)
    have e1 : putN n = [] := if_neg hfn
    have e2 : putR n = 2 := if_neg hfn
    rw [e1, e2]
    refine Ct.of _ Tryd.func62 Tryd.ntmps62 rfl rfl (fun X W => ?_)
    refine Jc.seq ?_
    refine Jc.region ?_
    refine Jl.pv (PR.assign rfl) ?_
    refine Jl.pv (PR.assign rfl) ?_
    refine Jl.nil ?_
    refine Jq.thenN ?_
    refine Jc.seq ?_
    refine Jc.seq ?_
    refine Jc.region ?_
    refine Jl.pv (PR.move rfl) ?_
    refine Jl.call (long_ct n) en71 (by rfl) (by repeat (first | exact Take.nil | apply Take.cons (by repeat (first | exact Del.here | apply Del.there)))) (by repeat (first | exact trivial | refine And.intro (by repeat (first | exact Mem.here | apply Mem.there)) ?_)) ?_
    rintro ⟨⟩
    refine Jl.pv (PR.eql true rfl rfl (by simpa using hz)) ?_
    refine Jl.nil ?_
    refine Jq.thenN ?_
    refine Jc.condT rfl ?_
    refine Jc.seq ?_
    refine Jc.region ?_
    refine Jl.pv (PR.assign rfl) ?_
    refine Jl.pv (PR.assign rfl) ?_
    refine Jl.nil ?_
    refine Jq.thenN ?_
    refine Jc.ret ?_
    refine Jq.thenR ?_
    refine Jq.nilRow 5 1 ?_
    exact Jq.fin (none, 0) (.inl rfl) rfl (RetVs.tmp rfl (RetVs.tmp rfl RetVs.nil)) rfl (by repeat (first | exact Take.nil | apply Take.cons (by repeat (first | exact Del.here | apply Del.there)))) (by repeat (first | exact trivial | refine And.intro (by repeat (first | exact Mem.here | apply Mem.there)) ?_))

theorem put1_at {n : Int} {l : List UInt8} {r : Int} (h : putN n = l) (h2 : putR n = r) : Ct Tryd.prog 62 [.int .i64 n] [] [] (fun x : Option Addr × Nat => .tuple #[.slice x.1 l.length x.2, .int .i64 r]) (rowU l) (fun _ => []) := by
  subst h h2; exact put1_ct n
theorem take_at {A : Option Addr} {c : Nat} {b : List UInt8} {t : Nat × List UInt8 × Nat} (h : takeN b = t) (hn : b.length ≤ 1000000) (hc : b.length ≤ c) : Ct Tryd.prog 66 [.slice A b.length c] [] [.rd A (u8s b)] (takeV t) (rowU t.2.1) (fun _ => []) := by
  subst h; exact take_ct A c b hn hc

theorem put_fine {a : Int} (h : fineN a = true) : Ct Tryd.prog 62 [.int .i64 a] [] [] (fun x : Option Addr × Nat => .tuple #[.slice x.1 (putB a).length x.2, .int .i64 0]) (rowU (putB a)) (fun _ => []) := put1_at (if_pos h) (if_pos h)
theorem sl_take (b : List UInt8) (k : Nat) : ((u8s b).drop (0 * 1)).take (k * 1) = u8s (b.take k) := by simp [u8s]

end Go.Proofs.YtcohgnagffibcaaDoor
namespace Go.Proofs.YtcohgnagffibcaaDoor
set_option linter.unusedVariables false
open Go.RowKit
attribute [local irreducible] Res.blk Res.row Fact.rd
/-- What a function that is asked of each number answers. -/
theorem index_ct (q : Int → Bool) (A : Option Addr) (c : Nat) (l : List Int) (hn : l.length ≤ 1000000) (g : FuncId) (hg : ∀ n, Ct Tryd.prog g [.int .i64 n] [] [] (fun _ : Unit => .bool (q n)) (fun _ => []) (fun _ => [])) (hen : ∀ args w, (callFunc g args).run Tryd.prog w = .ok (.enter g args) w) :
    Ct Tryd.prog 77 [.slice A l.length c, .func (.func g) #[] #[]] [] [.rd A (l.map (Value.int .i64))] (fun _ : Unit => .int .i64 (if l.any q then (l.findIdx q : Int) else -1)) (fun _ => []) (fun _ => []) := by
  refine Ct.of _ Tryd.func77 Tryd.ntmps77 rfl rfl (fun X W => ?_)
  refine Jc.seq ?_
  refine Jc.region ?_
  refine Jl.pv (PR.assign rfl) ?_
  refine Jl.nil ?_
  refine Jq.thenN ?_
  refine Jc.seq ?_
  refine Jc.seq ?_
  refine Jc.region ?_
  refine Jl.pv (PR.move rfl) ?_
  refine Jl.pv (PR.len rfl tsl41) ?_
  refine Jl.pv (PR.move rfl) ?_
  refine Jl.nil ?_
  refine Jq.thenN ?_
  refine Jc.block ?_
  refine Jc.loop (σ := { k : Nat // k ≤ l.length ∧ ∀ j, (h : j < k) → (h' : j < l.length) → q l[j] = false }) (fun s => [(8, .int .i64 (s.1 : Int)), (7, .int .i64 (l.length : Int)), (0, .slice A l.length c), (1, .func (.func g) #[] #[])]) (fun _ => []) (fun _ => [.rd A (l.map (Value.int .i64))]) (fun s => l.length - s.1) ⟨0, Nat.zero_le _, fun _ h => by omega⟩ (by exact ⟨rfl, rfl, rfl, rfl, trivial⟩) rfl (by exact ⟨Mem.here, trivial⟩) ?_
  rintro ⟨k, hk, hq⟩
  show Jc _ _ _ _ _ _ [(8, Value.int .i64 (k : Int)), (7, Value.int .i64 (l.length : Int)), (0, .slice A l.length c), (1, .func (.func g) #[] #[])] [] [.rd A (l.map (Value.int .i64))]
  refine Jc.seq ?_
  refine Jc.region ?_
  refine Jl.pv (PR.lss _ rfl rfl rfl) ?_
  refine Jl.nil ?_
  refine Jq.thenN ?_
  refine Jc.seq ?_
  refine Jc.cond rfl (fun hlt => ?_) (fun hlt => ?_)
  · try replace hlt := of_decide_eq_true hlt
    have hlt' : k < l.length := by omega
    refine Jc.skip ?_
    refine Jq.thenN ?_
    refine Jc.seq ?_
    refine Jc.block ?_
    refine Jc.seq ?_
    refine Jc.region ?_
    refine Jl.pv (PR.move rfl) ?_
    refine Jl.pv (PR.assign rfl) ?_
    refine Jl.nil ?_
    refine Jq.thenN ?_
    refine Jc.seq ?_
    refine Jc.region ?_
    refine Jl.pv (PR.move rfl) ?_
    refine Jl.pv (PR.move rfl) ?_
    refine Jl.pv (PR.move rfl) ?_
    refine Jl.pv (PR.idx1 k rfl rfl tsl41 (by repeat (first | exact Mem.here | apply Mem.there)) (by simp) rfl hlt') ?_
    refine Jl.pv (PR.loadR rfl tsh3 (by repeat (first | exact Mem.here | apply Mem.there)) (getm hlt')) ?_
    refine Jl.callv (hg _) hen rfl (by rfl) (by rfl) (by repeat (first | exact Take.nil | apply Take.cons (by repeat (first | exact Del.here | apply Del.there)))) (by repeat (first | exact trivial | refine And.intro (by repeat (first | exact Mem.here | apply Mem.there)) ?_)) ?_
    rintro ⟨⟩
    refine Jl.nil ?_
    refine Jq.thenN ?_
    refine Jc.cond rfl (fun hqk => ?_) (fun hqk => ?_)
    · try replace hqk := of_decide_eq_true hqk
      refine Jc.seq ?_
      refine Jc.region ?_
      refine Jl.pv (PR.move rfl) ?_
      refine Jl.pv (PR.assign rfl) ?_
      refine Jl.nil ?_
      refine Jq.thenN ?_
      refine Jc.ret ?_
      refine Jq.blkR ?_
      refine Jq.thenR ?_
      refine Jq.thenR ?_
      refine Jq.blkR ?_
      refine Jq.thenR ?_
      have ha : l.any q = true := List.any_eq_true.2 ⟨l[k], List.getElem_mem _, hqk⟩
      have hi : l.findIdx q = k := by rw [List.findIdx_eq hlt']; exact ⟨hqk, fun j hj => hq j hj (by omega)⟩
      exact Jq.fin () (.inl rfl) rfl (RetVs.tmp rfl RetVs.nil) (by rw [if_pos ha, hi]; rfl) (by repeat (first | exact Take.nil | apply Take.cons (by repeat (first | exact Del.here | apply Del.there)))) (by repeat (first | exact trivial | refine And.intro (by repeat (first | exact Mem.here | apply Mem.there)) ?_))
    · try replace hqk := of_decide_eq_false hqk
      refine Jc.skip ?_
      refine Jq.blkN ?_
      refine Jq.thenN ?_
      refine Jc.region ?_
      refine Jl.pv (PR.add ((k + 1 : Nat) : Int) rfl rfl (by rw [w64 (by omega) (by omega)]; rfl)) ?_
      refine Jl.pv (PR.move rfl) ?_
      refine Jl.nil ?_
      refine Jq.again ⟨k + 1, hlt', fun j h h' => ?_⟩ (by simp only; omega) (by exact ⟨rfl, rfl, rfl, rfl, trivial⟩) rfl (by exact ⟨Mem.here, trivial⟩)
      rcases Nat.lt_or_ge j k with h1 | h1
      · exact hq j h1 h'
      · obtain rfl : j = k := by omega
        exact hqk
  · try replace hlt := of_decide_eq_false hlt
    refine Jc.exit ?_
    refine Jq.thenX ?_
    refine Jq.thenX ?_
    refine Jq.blkX ?_
    refine Jq.thenN ?_
    refine Jc.seq ?_
    refine Jc.region ?_
    refine Jl.pv (PR.assign rfl) ?_
    refine Jl.nil ?_
    refine Jq.thenN ?_
    refine Jc.ret ?_
    have ha : ¬ l.any q = true := fun h => by
      obtain ⟨x, hx, hxq⟩ := List.any_eq_true.1 h
      obtain ⟨j, hj, rfl⟩ := List.mem_iff_getElem.1 hx
      rw [hq j (by omega) hj] at hxq; cases hxq
    exact Jq.fin () (.inl rfl) rfl (RetVs.tmp rfl RetVs.nil) (by rw [if_neg ha]; rfl) (by repeat (first | exact Take.nil | apply Take.cons (by repeat (first | exact Del.here | apply Del.there)))) (by repeat (first | exact trivial | refine And.intro (by repeat (first | exact Mem.here | apply Mem.there)) ?_))

theorem contains_ct (q : Int → Bool) (A : Option Addr) (c : Nat) (l : List Int) (hn : l.length ≤ 1000000) (g : FuncId) (hg : ∀ n, Ct Tryd.prog g [.int .i64 n] [] [] (fun _ : Unit => .bool (q n)) (fun _ => []) (fun _ => [])) (hen : ∀ args w, (callFunc g args).run Tryd.prog w = .ok (.enter g args) w) :
    Ct Tryd.prog 69 [.slice A l.length c, .func (.func g) #[] #[]] [] [.rd A (l.map (Value.int .i64))] (fun _ : Unit => .bool (l.any q)) (fun _ => []) (fun _ => []) := by
  refine Ct.of _ Tryd.func69 Tryd.ntmps69 rfl rfl (fun X W => ?_)
  refine Jc.seq ?_
  refine Jc.region ?_
  refine Jl.pv (PR.assign rfl) ?_
  refine Jl.nil ?_
  refine Jq.thenN ?_
  refine Jc.seq ?_
  refine Jc.region ?_
  refine Jl.pv (PR.move rfl) ?_
  refine Jl.pv (PR.move rfl) ?_
  refine Jl.call (index_ct q A c l hn g hg hen) en77 (by rfl) (by repeat (first | exact Take.nil | apply Take.cons (by repeat (first | exact Del.here | apply Del.there)))) (by repeat (first | exact trivial | refine And.intro (by repeat (first | exact Mem.here | apply Mem.there)) ?_)) ?_
  rintro ⟨⟩
  refine Jl.pv (PR.geq (l.any q) rfl rfl (by split <;> rename_i h <;> simp [h])) ?_
  refine Jl.pv (PR.assign rfl) ?_
  refine Jl.nil ?_
  refine Jq.thenN ?_
  refine Jc.ret ?_
  exact Jq.fin () (.inl rfl) rfl (RetVs.tmp rfl RetVs.nil) rfl (by repeat (first | exact Take.nil | apply Take.cons (by repeat (first | exact Del.here | apply Del.there)))) (by repeat (first | exact trivial | refine And.intro (by repeat (first | exact Mem.here | apply Mem.there)) ?_))

theorem row1_ct (n : Int) : Ct Tryd.prog 70 [.int .i64 n] [] [] (fun _ : Unit => .bool (!fineN n)) (fun _ => []) (fun _ => []) := by
  refine Ct.of _ Tryd.func70 Tryd.ntmps70 rfl rfl (fun X W => ?_)
  refine Jc.seq ?_
  refine Jc.region ?_
  refine Jl.pv (PR.assign rfl) ?_
  refine Jl.nil ?_
  refine Jq.thenN ?_
  refine Jc.seq ?_
  refine Jc.region ?_
  refine Jl.pv (PR.move rfl) ?_
  refine Jl.call (long_ct n) en71 (by rfl) (by repeat (first | exact Take.nil | apply Take.cons (by repeat (first | exact Del.here | apply Del.there)))) (by repeat (first | exact trivial | refine And.intro (by repeat (first | exact Mem.here | apply Mem.there)) ?_)) ?_
  rintro ⟨⟩
  refine Jl.pv (PR.eql (!fineN n) rfl rfl (by rw [Bool.eq_iff_iff]; simp [longZ_eq0])) ?_
  refine Jl.pv (PR.assign rfl) ?_
  refine Jl.nil ?_
  refine Jq.thenN ?_
  refine Jc.ret ?_
  exact Jq.fin () (.inl rfl) rfl (RetVs.tmp rfl RetVs.nil) rfl (by repeat (first | exact Take.nil | apply Take.cons (by repeat (first | exact Del.here | apply Del.there)))) (by repeat (first | exact trivial | refine And.intro (by repeat (first | exact Mem.here | apply Mem.there)) ?_))

theorem row_ct (A : Option Addr) (c : Nat) (l : List Int) (hl : l.length ≤ 1000) : Ct Tryd.prog 60 [.slice A l.length c] [] [.rd A (l.map (Value.int .i64))] (fun x : Option Addr × Nat => .tuple #[.slice x.1 (rowN l).length x.2, .int .i64 (rowR l)]) (rowU (rowN l)) (fun _ => []) := by
  by_cases hok : rowOk l = true
  · have ho : l.length ≤ 40 ∧ l.any (fun n => !fineN n) = false := by simpa only [rowOk, Bool.and_eq_true, decide_eq_true_eq, Bool.not_eq_true'] using hok
    have hfl := flat_len l
    have hfine : ∀ n ∈ l, 0 ≤ n ∧ n ≤ 1099511627776 := fun n hn => by
      have := List.any_eq_false.1 ho.2 n hn
      simpa [fineN] using this
    have e1 : rowN l = rowsB l := if_pos hok
    have e2 : rowR l = 0 := if_pos hok
    rw [e1, e2]
    refine Ct.of _ Tryd.func60 Tryd.ntmps60 rfl rfl (fun X W => ?_)
    refine Jc.seq ?_
    refine Jc.region ?_
    refine Jl.pv (PR.assign rfl) ?_
    refine Jl.pv (PR.assign rfl) ?_
    refine Jl.nil ?_
    refine Jq.thenN ?_
    refine Jc.seq ?_
    refine Jc.seq ?_
    refine Jc.region ?_
    refine Jl.pv (PR.move rfl) ?_
    refine Jl.pv (PR.len rfl tsl41) ?_
    refine Jl.pv (PR.gtr false rfl rfl (by simp; omega)) ?_
    refine Jl.pv (PR.move rfl) ?_
    refine Jl.on rfl rfl ?_
    refine Jl.pv (PR.move rfl) ?_
    refine Jl.on rfl rfl ?_
    refine Jl.call (contains_ct (fun n => !fineN n) A c l (by omega) 70 row1_ct en70) en69 (by rfl) (by repeat (first | exact Take.nil | apply Take.cons (by repeat (first | exact Del.here | apply Del.there)))) (by repeat (first | exact trivial | refine And.intro (by repeat (first | exact Mem.here | apply Mem.there)) ?_)) ?_
    rintro ⟨⟩
    refine Jl.as (.bool false) (congrArg Value.bool ho.2) ?_
    refine Jl.pv (PR.pickF rfl rfl) ?_
    refine Jl.nil ?_
    refine Jq.thenN ?_
    refine Jc.condF rfl ?_
    refine Jc.skip ?_
    refine Jq.thenN ?_
    refine Jc.seq ?_
    refine Jc.region ?_
    refine Jl.pv (PR.move rfl) ?_
    refine Jl.pv (PR.len rfl tsl41) ?_
    refine Jl.nilRow 5 1 ?_
    refine Jl.call (put_ct [] none 0 l.length (by omega) (by simp)) en72 (by rfl) (by repeat (first | exact Take.nil | apply Take.cons (by repeat (first | exact Del.here | apply Del.there)))) (by repeat (first | exact trivial | refine And.intro (by repeat (first | exact Mem.here | apply Mem.there)) ?_)) ?_
    rintro ⟨A16, c16⟩
    refine Jl.pv (PR.assign rfl) ?_
    refine Jl.nil ?_
    refine Jq.thenN ?_
    refine Jc.seq ?_
    refine Jc.seq ?_
    refine Jc.region ?_
    refine Jl.pv (PR.move rfl) ?_
    refine Jl.pv (PR.len rfl tsl41) ?_
    refine Jl.pv (PR.move rfl) ?_
    refine Jl.nil ?_
    refine Jq.thenN ?_
    refine Jc.block ?_
    refine Jc.loop (σ := (k : { k : Nat // k ≤ l.length }) × (Option Addr × Nat)) (fun s => [(19, .int .i64 (s.1.1 : Int)), (18, .int .i64 (l.length : Int)), (17, .slice A l.length c), (4, .slice s.2.1 (putB l.length ++ (l.take s.1.1).flatMap putB).length s.2.2)]) (fun s => rowU (putB l.length ++ (l.take s.1.1).flatMap putB) s.2) (fun _ => [.rd A (l.map (Value.int .i64))]) (fun s => l.length - s.1.1) ⟨⟨0, Nat.zero_le _⟩, A16, c16⟩ (by exact ⟨rfl, rfl, rfl, by simp [elook], trivial⟩) (by simp [rowU]) (by exact ⟨Mem.here, trivial⟩) ?_
    rintro ⟨⟨k, hk⟩, A', c'⟩
    show Jc _ _ _ _ _ _ [(19, Value.int .i64 (k : Int)), (18, Value.int .i64 (l.length : Int)), (17, .slice A l.length c), (4, .slice A' (putB l.length ++ (l.take k).flatMap putB).length c')] (rowU (putB l.length ++ (l.take k).flatMap putB) (A', c')) [.rd A (l.map (Value.int .i64))]
    refine Jc.seq ?_
    refine Jc.region ?_
    refine Jl.pv (PR.lss _ rfl rfl rfl) ?_
    refine Jl.nil ?_
    refine Jq.thenN ?_
    refine Jc.seq ?_
    refine Jc.cond rfl (fun hlt => ?_) (fun hlt => ?_)
    · try replace hlt := of_decide_eq_true hlt
      have hlt' : k < l.length := by omega
      have hfk := hfine l[k] (List.getElem_mem _)
      have hf10 := flat_len (l.take k)
      have hp10 := putB_len (l.length : Int)
      obtain ⟨v, hv⟩ : ∃ v : Nat, l[k] = v := ⟨l[k].toNat, by omega⟩
      have hstep : putB l.length ++ (l.take (k + 1)).flatMap putB = putB l.length ++ (l.take k).flatMap putB ++ putB v := by rw [List.take_succ_eq_append_getElem hlt', hv]; simp
      refine Jc.skip ?_
      refine Jq.thenN ?_
      refine Jc.seq ?_
      refine Jc.block ?_
      refine Jc.seq ?_
      refine Jc.region ?_
      refine Jl.pv (PR.idx1 k rfl rfl tsl41 (by repeat (first | exact Mem.here | apply Mem.there)) (by simp) rfl hlt') ?_
      refine Jl.pv (PR.loadR rfl tsh3 (by repeat (first | exact Mem.here | apply Mem.there)) ((getm hlt').trans (congrArg (fun x => some (Value.int .i64 x)) hv))) ?_
      refine Jl.pv (PR.assign rfl) ?_
      refine Jl.nil ?_
      refine Jq.thenN ?_
      refine Jc.region ?_
      refine Jl.pv (PR.move rfl) ?_
      refine Jl.pv (PR.move rfl) ?_
      refine Jl.call (put_ct (putB l.length ++ (l.take k).flatMap putB) A' c' v (by omega) (by simp only [List.length_append, List.length_take] at *; omega)) en72 (by rfl) (by repeat (first | exact Take.nil | apply Take.cons (by repeat (first | exact Del.here | apply Del.there)))) (by repeat (first | exact trivial | refine And.intro (by repeat (first | exact Mem.here | apply Mem.there)) ?_)) ?_
      rintro ⟨A25, c25⟩
      refine Jl.pv (PR.assign rfl) ?_
      refine Jl.nil ?_
      refine Jq.blkN ?_
      refine Jq.thenN ?_
      refine Jc.region ?_
      refine Jl.pv (PR.add ((k + 1 : Nat) : Int) rfl rfl (by rw [w64 (by omega) (by omega)]; rfl)) ?_
      refine Jl.pv (PR.move rfl) ?_
      refine Jl.nil ?_
      refine Jq.again ⟨⟨k + 1, hlt'⟩, A25, c25⟩ (by simp only; omega) (by exact ⟨rfl, rfl, rfl, by rw [hstep]; rfl, trivial⟩) (by simp only [hstep, List.append_nil]) (by exact ⟨Mem.here, trivial⟩)
    · try replace hlt := of_decide_eq_false hlt
      have hkl : k = l.length := by omega
      have hall : putB l.length ++ (l.take k).flatMap putB = rowsB l := by rw [hkl, List.take_length]; rfl
      rw [hall]
      refine Jc.exit ?_
      refine Jq.thenX ?_
      refine Jq.thenX ?_
      refine Jq.blkX ?_
      refine Jq.thenN ?_
      refine Jc.seq ?_
      refine Jc.region ?_
      refine Jl.pv (PR.move rfl) ?_
      refine Jl.pv (PR.assign rfl) ?_
      refine Jl.pv (PR.assign rfl) ?_
      refine Jl.nil ?_
      refine Jq.thenN ?_
      refine Jc.ret ?_
      exact Jq.fin (A', c') (.inl rfl) rfl (RetVs.tmp rfl (RetVs.tmp rfl RetVs.nil)) rfl (by repeat (first | exact Take.nil | apply Take.cons (by repeat (first | exact Del.here | apply Del.there)))) (by repeat (first | exact trivial | refine And.intro (by repeat (first | exact Mem.here | apply Mem.there)) ?_))
  · have e1 : rowN l = [] := if_neg hok
    have e2 : rowR l = 2 := if_neg hok
    rw [e1, e2]
    by_cases h40 : l.length ≤ 40
    · have ho : l.any (fun n => !fineN n) = true := by
        simp only [rowOk, Bool.and_eq_true, decide_eq_true_eq, Bool.not_eq_true', not_and] at hok
        simpa only [Bool.not_eq_false] using hok h40
      refine Ct.of _ Tryd.func60 Tryd.ntmps60 rfl rfl (fun X W => ?_)
      refine Jc.seq ?_
      refine Jc.region ?_
      refine Jl.pv (PR.assign rfl) ?_
      refine Jl.pv (PR.assign rfl) ?_
      refine Jl.nil ?_
      refine Jq.thenN ?_
      refine Jc.seq ?_
      refine Jc.seq ?_
      refine Jc.region ?_
      refine Jl.pv (PR.move rfl) ?_
      refine Jl.pv (PR.len rfl tsl41) ?_
      refine Jl.pv (PR.gtr false rfl rfl (by simp; omega)) ?_
      refine Jl.pv (PR.move rfl) ?_
      refine Jl.on rfl rfl ?_
      refine Jl.pv (PR.move rfl) ?_
      refine Jl.on rfl rfl ?_
      refine Jl.call (contains_ct (fun n => !fineN n) A c l (by omega) 70 row1_ct en70) en69 (by rfl) (by repeat (first | exact Take.nil | apply Take.cons (by repeat (first | exact Del.here | apply Del.there)))) (by repeat (first | exact trivial | refine And.intro (by repeat (first | exact Mem.here | apply Mem.there)) ?_)) ?_
      rintro ⟨⟩
      refine Jl.as (.bool true) (congrArg Value.bool ho) ?_
      refine Jl.pv (PR.pickF rfl rfl) ?_
      refine Jl.nil ?_
      refine Jq.thenN ?_
      refine Jc.condT rfl ?_
      refine Jc.seq ?_
      refine Jc.region ?_
      refine Jl.pv (PR.assign rfl) ?_
      refine Jl.pv (PR.assign rfl) ?_
      refine Jl.nil ?_
      refine Jq.thenN ?_
      refine Jc.ret ?_
      refine Jq.thenR ?_
      refine Jq.nilRow 5 1 ?_
      exact Jq.fin (none, 0) (.inl rfl) rfl (RetVs.tmp rfl (RetVs.tmp rfl RetVs.nil)) rfl (by repeat (first | exact Take.nil | apply Take.cons (by repeat (first | exact Del.here | apply Del.there)))) (by repeat (first | exact trivial | refine And.intro (by repeat (first | exact Mem.here | apply Mem.there)) ?_))
    · skip
      refine Ct.of _ Tryd.func60 Tryd.ntmps60 rfl rfl (fun X W => ?_)
      refine Jc.seq ?_
      refine Jc.region ?_
      refine Jl.pv (PR.assign rfl) ?_
      refine Jl.pv (PR.assign rfl) ?_
      refine Jl.nil ?_
      refine Jq.thenN ?_
      refine Jc.seq ?_
      refine Jc.seq ?_
      refine Jc.region ?_
      refine Jl.pv (PR.move rfl) ?_
      refine Jl.pv (PR.len rfl tsl41) ?_
      refine Jl.pv (PR.gtr true rfl rfl (by simp; omega)) ?_
      refine Jl.pv (PR.move rfl) ?_
      refine Jl.offS rfl rfl rfl ?_
      refine Jl.offS rfl rfl rfl ?_
      refine Jl.pv (PR.pickT rfl rfl) ?_
      refine Jl.nil ?_
      refine Jq.thenN ?_
      refine Jc.condT rfl ?_
      refine Jc.seq ?_
      refine Jc.region ?_
      refine Jl.pv (PR.assign rfl) ?_
      refine Jl.pv (PR.assign rfl) ?_
      refine Jl.nil ?_
      refine Jq.thenN ?_
      refine Jc.ret ?_
      refine Jq.thenR ?_
      refine Jq.nilRow 5 1 ?_
      exact Jq.fin (none, 0) (.inl rfl) rfl (RetVs.tmp rfl (RetVs.tmp rfl RetVs.nil)) rfl (by repeat (first | exact Take.nil | apply Take.cons (by repeat (first | exact Del.here | apply Del.there)))) (by repeat (first | exact trivial | refine And.intro (by repeat (first | exact Mem.here | apply Mem.there)) ?_))

def takeRowV (t : List Nat × List UInt8 × Nat) (x : OA × OA) : Value := .tuple #[.slice x.1.1 t.1.length x.1.2, .slice x.2.1 t.2.1.length x.2.2, .int .i64 t.2.2]
abbrev TRS (b : List UInt8) (n : Nat) := { s : (List Nat × List UInt8 × Nat) × OA × OA // TRowI b n s.1.1 s.1.2.1 s.1.2.2 ∧ s.1.2.1.length ≤ s.2.2.2 }
theorem takeRow_ct (A : Option Addr) (c : Nat) (b : List UInt8) (hn : b.length ≤ 1000000) (hc : b.length ≤ c) :
    Ct Tryd.prog 54 [.slice A b.length c] [] [.rd A (u8s b)] (takeRowV (takeRowN b)) (fun x => [.row 3 1 (.slice x.1.1 (takeRowN b).1.length x.1.2) (takeRowN b).1.length (natI (takeRowN b).1)]) (fun x => [.rd x.2.1 (u8s (takeRowN b).2.1), .is ((takeRowN b).2.1.length ≤ x.2.2)]) := by
  refine Ct.of _ Tryd.func54 Tryd.ntmps54 rfl rfl (fun X W => ?_)
  refine Jc.seq ?_
  refine Jc.region ?_
  refine Jl.pv (PR.assign rfl) ?_
  refine Jl.pv (PR.assign rfl) ?_
  refine Jl.pv (PR.assign rfl) ?_
  refine Jl.nil ?_
  refine Jq.thenN ?_
  refine Jc.seq ?_
  refine Jc.region ?_
  refine Jl.pv (PR.move rfl) ?_
  refine Jl.call (take_ct A c b hn hc) en66 (by rfl) (by repeat (first | exact Take.nil | apply Take.cons (by repeat (first | exact Del.here | apply Del.there)))) (by repeat (first | exact trivial | refine And.intro (by repeat (first | exact Mem.here | apply Mem.there)) ?_)) ?_
  rintro ⟨A9, c9⟩
  refine Jl.sealC (by repeat (first | exact Del.here | apply Del.there)) (fun hc9 => ?_)
  refine Jl.pv (PR.move rfl) ?_
  refine Jl.pv (PR.extract rfl (by rfl)) ?_
  refine Jl.pv (PR.extract rfl (by rfl)) ?_
  refine Jl.pv (PR.extract rfl (by rfl)) ?_
  refine Jl.pv (PR.assign rfl) ?_
  refine Jl.pv (PR.assign rfl) ?_
  refine Jl.pv (PR.assign rfl) ?_
  refine Jl.nil ?_
  refine Jq.thenN ?_
  refine Jc.nilRow 3 1 ?_
  refine Jc.mid (σ := TRS b (takeN b).1) (fun s => [(2, .slice s.1.2.1.1 s.1.1.1.length s.1.2.1.2), (3, .slice s.1.2.2.1 s.1.1.2.1.length s.1.2.2.2), (4, .int .i64 (s.1.1.2.2 : Int)), (5, .int .i64 ((takeN b).1 : Int))]) (fun s => [.row 3 1 (.slice s.1.2.1.1 s.1.1.1.length s.1.2.1.2) s.1.1.1.length (natI s.1.1.1)]) (fun s => [.rd s.1.2.2.1 (u8s s.1.1.2.1)]) ?_ ?_
  · refine Jc.seq ?_
    refine Jc.region ?_
    refine Jl.pv (PR.move rfl) ?_
    refine Jl.pv (PR.eql _ rfl rfl rfl) ?_
    refine Jl.pv (PR.move rfl) ?_
    refine Jl.bsplit (fun g15 => ?_) (fun g15 => ?_)
    · try replace g15 := of_decide_eq_true g15
      refine Jl.on rfl rfl ?_
      refine Jl.pv (PR.move rfl) ?_
      refine Jl.on rfl rfl ?_
      refine Jl.pv (PR.gtr _ rfl rfl rfl) ?_
      refine Jl.pv (PR.pickT rfl rfl) ?_
      refine Jl.nil ?_
      refine Jq.thenN ?_
      refine Jc.cond rfl (fun h0 => ?_) (fun h0 => ?_)
      · try replace h0 := of_decide_eq_true h0
        refine Jc.region ?_
        refine Jl.pv (PR.assign rfl) ?_
        refine Jl.nil ?_
        exact Jq.mid ⟨(([], (takeN b).2.1, 11), (none, 0), (A9, c9)), TRowI.zero_big (by omega) (by omega), hc9⟩ (by exact ⟨rfl, rfl, rfl, rfl, trivial⟩) (by simp [natI]) (by exact ⟨(by repeat (first | exact Mem.here | apply Mem.there)), trivial⟩)
      · try replace h0 := of_decide_eq_false h0
        refine Jc.skip ?_
        exact Jq.mid ⟨(([], (takeN b).2.1, (takeN b).2.2), (none, 0), (A9, c9)), by rw [show (takeN b).2.2 = 0 by omega]; exact TRowI.zero_ok (by omega) (by omega), hc9⟩ (by exact ⟨rfl, rfl, rfl, rfl, trivial⟩) (by simp [natI]) (by exact ⟨(by repeat (first | exact Mem.here | apply Mem.there)), trivial⟩)
    · try replace g15 := of_decide_eq_false g15
      refine Jl.offS rfl rfl rfl ?_
      refine Jl.offS rfl rfl rfl ?_
      refine Jl.pv (PR.pickF rfl rfl) ?_
      refine Jl.nil ?_
      refine Jq.thenN ?_
      refine Jc.condF rfl ?_
      refine Jc.skip ?_
      exact Jq.mid ⟨(([], (takeN b).2.1, (takeN b).2.2), (none, 0), (A9, c9)), TRowI.zero_bad (by omega), hc9⟩ (by exact ⟨rfl, rfl, rfl, rfl, trivial⟩) (by simp [natI]) (by exact ⟨(by repeat (first | exact Mem.here | apply Mem.there)), trivial⟩)
  · intro s0
    refine Jc.seq ?_
    refine Jc.block ?_
    refine Jc.loop (σ := TRS b (takeN b).1) (fun s => [(2, .slice s.1.2.1.1 s.1.1.1.length s.1.2.1.2), (3, .slice s.1.2.2.1 s.1.1.2.1.length s.1.2.2.2), (4, .int .i64 (s.1.1.2.2 : Int)), (5, .int .i64 ((takeN b).1 : Int))]) (fun s => [.row 3 1 (.slice s.1.2.1.1 s.1.1.1.length s.1.2.1.2) s.1.1.1.length (natI s.1.1.1)]) (fun s => [.rd s.1.2.2.1 (u8s s.1.1.2.1)]) (fun s => (takeN b).1 - s.1.1.1.length) s0 (by exact ⟨rfl, rfl, rfl, rfl, trivial⟩) rfl (by exact ⟨(by repeat (first | exact Mem.here | apply Mem.there)), trivial⟩) ?_
    rintro ⟨⟨⟨l, r, e⟩, ⟨A1, c1⟩, ⟨A2, c2⟩⟩, hI, hcap⟩
    show Jc _ _ _ _ _ _ [(2, Value.slice A1 l.length c1), (3, .slice A2 r.length c2), (4, .int .i64 (e : Int)), (5, .int .i64 ((takeN b).1 : Int))] [.row 3 1 (.slice A1 l.length c1) l.length (natI l)] [.rd A2 (u8s r)]
    replace hI : TRowI b (takeN b).1 l r e := hI
    replace hcap : r.length ≤ c2 := hcap
    have hle := hI.le
    have hsm := hI.small
    have hrl := hI.len
    refine Jc.seq ?_
    refine Jc.seq ?_
    refine Jc.region ?_
    refine Jl.pv (PR.move rfl) ?_
    refine Jl.pv (PR.eql _ rfl rfl rfl) ?_
    refine Jl.pv (PR.move rfl) ?_
    refine Jl.bsplit (fun g21 => ?_) (fun g21 => ?_)
    · try replace g21 := of_decide_eq_true g21
      obtain rfl : e = 0 := by omega
      refine Jl.on rfl rfl ?_
      refine Jl.pv (PR.move rfl) ?_
      refine Jl.on rfl rfl ?_
      refine Jl.pv (PR.len rfl tsl41) ?_
      refine Jl.on rfl rfl ?_
      refine Jl.pv (PR.move rfl) ?_
      refine Jl.on rfl rfl ?_
      refine Jl.pv (PR.lss _ rfl rfl rfl) ?_
      refine Jl.pv (PR.pickT rfl rfl) ?_
      refine Jl.nil ?_
      refine Jq.thenN ?_
      refine Jc.cond rfl (fun h1 => ?_) (fun h1 => ?_)
      · try replace h1 := of_decide_eq_true h1
        refine Jc.skip ?_
        refine Jq.thenN ?_
        refine Jc.block ?_
        refine Jc.seq ?_
        refine Jc.region ?_
        refine Jl.pv (PR.assign rfl) ?_
        refine Jl.nil ?_
        refine Jq.thenN ?_
        refine Jc.seq ?_
        refine Jc.region ?_
        refine Jl.pv (PR.move rfl) ?_
        refine Jl.call (take_ct A2 c2 r (by omega) hcap) en66 (by rfl) (by repeat (first | exact Take.nil | apply Take.cons (by repeat (first | exact Del.here | apply Del.there)))) (by repeat (first | exact trivial | refine And.intro (by repeat (first | exact Mem.here | apply Mem.there)) ?_)) ?_
        rintro ⟨A29, c29⟩
        refine Jl.sealC (by repeat (first | exact Del.here | apply Del.there)) (fun hc29 => ?_)
        refine Jl.pv (PR.move rfl) ?_
        refine Jl.pv (PR.extract rfl (by rfl)) ?_
        refine Jl.pv (PR.extract rfl (by rfl)) ?_
        refine Jl.pv (PR.extract rfl (by rfl)) ?_
        refine Jl.pv (PR.assign rfl) ?_
        refine Jl.pv (PR.assign rfl) ?_
        refine Jl.pv (PR.assign rfl) ?_
        refine Jl.nil ?_
        refine Jq.thenN ?_
        refine Jc.region ?_
        refine Jl.pv (PR.move rfl) ?_
        refine Jl.pv (PR.move rfl) ?_
        refine Jl.buildSlice (by rfl) tsl41 tzr41_1 (by rfl) (by rfl) ?_
        intro b35
        refine Jl.seal (by repeat (first | exact Del.here | apply Del.there)) ?_
        refine Jl.append (l ++ [(takeN r).1]).length (natI (l ++ [(takeN r).1])) rfl rfl rfl tsl41 tze3 (by rfl) (by decide) tby3 (fun _ _ => (by repeat (first | exact Swap.here | apply Swap.there))) (by repeat (first | exact Mem.here | apply Mem.there)) (by simp) (by simp [natI]) rfl (by simp [Value.oneCell']) (by omega) (by decide) ?_
        intro A36 c36
        refine Jl.pv (PR.assign rfl) ?_
        refine Jl.nil ?_
        refine Jq.blkN ?_
        refine Jq.again ⟨((l ++ [(takeN r).1], (takeN r).2.1, (takeN r).2.2), (A36, c36), (A29, c29)), hI.next (by omega), hc29⟩ (by simp only [List.length_append, List.length_singleton]; omega) (by exact ⟨rfl, rfl, rfl, rfl, trivial⟩) rfl (by exact ⟨(by repeat (first | exact Mem.here | apply Mem.there)), trivial⟩)
      · try replace h1 := of_decide_eq_false h1
        refine Jc.exit ?_
        refine Jq.thenX ?_
        refine Jq.thenX ?_
        refine Jq.blkX ?_
        refine Jq.thenN ?_
        refine Jc.seq ?_
        refine Jc.seq ?_
        refine Jc.region ?_
        refine Jl.pv (PR.move rfl) ?_
        refine Jl.pv (PR.neq false rfl rfl (by simp)) ?_
        refine Jl.nil ?_
        refine Jq.thenN ?_
        refine Jc.condF rfl ?_
        refine Jc.skip ?_
        refine Jq.thenN ?_
        refine Jc.seq ?_
        refine Jc.region ?_
        refine Jl.pv (PR.move rfl) ?_
        refine Jl.pv (PR.move rfl) ?_
        refine Jl.pv (PR.assign rfl) ?_
        refine Jl.pv (PR.assign rfl) ?_
        refine Jl.pv (PR.assign rfl) ?_
        refine Jl.nil ?_
        refine Jq.thenN ?_
        refine Jc.ret ?_
        rw [hI.good (by omega)]
        refine Jq.fact0 (.is (r.length ≤ c2)) (fun _ _ => hcap) ?_
        exact Jq.fin ((A1, c1), (A2, c2)) (.inl rfl) rfl (RetVs.tmp rfl (RetVs.tmp rfl (RetVs.tmp rfl RetVs.nil))) rfl (by repeat (first | exact Take.nil | apply Take.cons (by repeat (first | exact Del.here | apply Del.there)))) (by repeat (first | exact trivial | refine And.intro (by repeat (first | exact Mem.here | apply Mem.there)) ?_))
    · try replace g21 := of_decide_eq_false g21
      refine Jl.offS rfl rfl rfl ?_
      refine Jl.offS rfl rfl rfl ?_
      refine Jl.offS rfl rfl rfl ?_
      refine Jl.offS rfl rfl rfl ?_
      refine Jl.pv (PR.pickF rfl rfl) ?_
      refine Jl.nil ?_
      refine Jq.thenN ?_
      refine Jc.condF rfl ?_
      refine Jc.exit ?_
      refine Jq.thenX ?_
      refine Jq.thenX ?_
      refine Jq.blkX ?_
      refine Jq.thenN ?_
      refine Jc.seq ?_
      refine Jc.seq ?_
      refine Jc.region ?_
      refine Jl.pv (PR.move rfl) ?_
      refine Jl.pv (PR.neq true rfl rfl (by simpa using g21)) ?_
      refine Jl.nil ?_
      refine Jq.thenN ?_
      refine Jc.condT rfl ?_
      refine Jc.seq ?_
      refine Jc.region ?_
      refine Jl.pv (PR.move rfl) ?_
      refine Jl.pv (PR.assign rfl) ?_
      refine Jl.pv (PR.assign rfl) ?_
      refine Jl.pv (PR.assign rfl) ?_
      refine Jl.nil ?_
      refine Jq.thenN ?_
      refine Jc.ret ?_
      refine Jq.thenR ?_
      rw [hI.bad (by omega)]
      refine Jq.nilRow 3 1 ?_
      refine Jq.fact0 (.rd none []) (fun X W => Fact.rd_nil none X W) ?_
      refine Jq.fact0 (.is (([] : List UInt8).length ≤ 0)) (fun _ _ => Nat.le_refl 0) ?_
      exact Jq.fin ((none, 0), (none, 0)) (.inl rfl) rfl (RetVs.tmp rfl (RetVs.tmp rfl (RetVs.tmp rfl RetVs.nil))) rfl (by repeat (first | exact Take.nil | apply Take.cons (by repeat (first | exact Del.here | apply Del.there)))) (by repeat (first | exact trivial | refine And.intro (by repeat (first | exact Mem.here | apply Mem.there)) ?_))

theorem row_at {A : Option Addr} {c : Nat} {l : List Int} {m : List UInt8} {r : Int} (hl : l.length ≤ 1000) (h : rowN l = m) (h2 : rowR l = r) : Ct Tryd.prog 60 [.slice A l.length c] [] [.rd A (l.map (Value.int .i64))] (fun x : Option Addr × Nat => .tuple #[.slice x.1 m.length x.2, .int .i64 r]) (rowU m) (fun _ => []) := by
  subst h h2; exact row_ct A c l hl
end Go.Proofs.YtcohgnagffibcaaDoor
namespace Go.Proofs.YtcohgnagffibcaaDoor
set_option linter.unusedVariables false
open Go.RowKit
attribute [local irreducible] Res.blk Res.row Fact.rd
theorem tmodN (a b : Nat) : ((a : Nat) : Int).tmod (b : Int) = ((a % b : Nat) : Int) := by rw [Int.tmod_eq_emod_of_nonneg (by omega)]; rfl
theorem tdivN (a b : Nat) : ((a : Nat) : Int).tdiv (b : Int) = ((a / b : Nat) : Int) := by rw [Int.tdiv_eq_ediv_of_nonneg (by omega)]; rfl
theorem w64n {x : Nat} (h : x < 9223372036854775808) : IntKind.i64.wrap (x : Int) = (x : Int) := w64 (by omega) (by omega)
theorem w8n {x : Nat} (h : x < 256) : IntKind.u8.wrap (x : Int) = (x : Int) := by rw [IntKind.wrap_u8]; omega
theorem fineN_nat (x : Nat) : fineN (x : Int) = decide (x ≤ 1099511627776) := by simp [fineN]; omega
theorem rfine_ct (n : Int) : Ct Tryd.prog 57 [.int .i64 n] [] [] (fun _ : Unit => .bool (fineN n)) (fun _ => []) (fun _ => []) := by
  by_cases h0 : 0 ≤ n
  · skip
    refine Ct.of _ Tryd.func57 Tryd.ntmps57 rfl rfl (fun X W => ?_)
    refine Jc.seq ?_
    refine Jc.region ?_
    refine Jl.pv (PR.assign rfl) ?_
    refine Jl.nil ?_
    refine Jq.thenN ?_
    refine Jc.seq ?_
    refine Jc.region ?_
    refine Jl.pv (PR.move rfl) ?_
    refine Jl.pv (PR.geq true rfl rfl (by simpa using h0)) ?_
    refine Jl.pv (PR.move rfl) ?_
    refine Jl.on rfl rfl ?_
    refine Jl.pv (PR.move rfl) ?_
    refine Jl.on rfl rfl ?_
    refine Jl.pv (PR.leq _ rfl rfl rfl) ?_
    refine Jl.pv (PR.pickT rfl rfl) ?_
    refine Jl.pv (PR.assign rfl) ?_
    refine Jl.nil ?_
    refine Jq.thenN ?_
    refine Jc.ret ?_
    exact Jq.fin () (.inl rfl) rfl (RetVs.tmp rfl RetVs.nil) (by simp [retval, fineN, h0]) (by repeat (first | exact Take.nil | apply Take.cons (by repeat (first | exact Del.here | apply Del.there)))) (by repeat (first | exact trivial | refine And.intro (by repeat (first | exact Mem.here | apply Mem.there)) ?_))
  · skip
    refine Ct.of _ Tryd.func57 Tryd.ntmps57 rfl rfl (fun X W => ?_)
    refine Jc.seq ?_
    refine Jc.region ?_
    refine Jl.pv (PR.assign rfl) ?_
    refine Jl.nil ?_
    refine Jq.thenN ?_
    refine Jc.seq ?_
    refine Jc.region ?_
    refine Jl.pv (PR.move rfl) ?_
    refine Jl.pv (PR.geq false rfl rfl (by simpa using h0)) ?_
    refine Jl.pv (PR.move rfl) ?_
    refine Jl.offS rfl rfl rfl ?_
    refine Jl.offS rfl rfl rfl ?_
    refine Jl.pv (PR.pickF rfl rfl) ?_
    refine Jl.pv (PR.assign rfl) ?_
    refine Jl.nil ?_
    refine Jq.thenN ?_
    refine Jc.ret ?_
    exact Jq.fin () (.inl rfl) rfl (RetVs.tmp rfl RetVs.nil) (by simp [retval, fineN, h0]) (by repeat (first | exact Take.nil | apply Take.cons (by repeat (first | exact Del.here | apply Del.there)))) (by repeat (first | exact trivial | refine And.intro (by repeat (first | exact Mem.here | apply Mem.there)) ?_))
theorem rfine_at {n : Int} {t : Bool} (h : fineN n = t) : Ct Tryd.prog 57 [.int .i64 n] [] [] (fun _ : Unit => .bool t) (fun _ => []) (fun _ => []) := by subst h; exact rfine_ct n

theorem rput_ct (n : Int) : Ct Tryd.prog 58 [.int .i64 n] [] [] (fun x : OA => .tuple #[.slice x.1 (putN n).length x.2, .int .i64 (putR n)]) (rowU (putN n)) (fun _ => []) := by
  by_cases hfn : fineN n = true
  · have hf : 0 ≤ n ∧ n ≤ 1099511627776 := by simpa [fineN] using hfn
    obtain ⟨m, rfl⟩ : ∃ m : Nat, n = m := ⟨n.toNat, by omega⟩
    have hm : m ≤ 1099511627776 := by omega
    have e1 : putN (m : Int) = putB m := if_pos hfn
    have e2 : putR (m : Int) = 0 := if_pos hfn
    have hd10 := dlen_le 10 m
    rw [e1, e2]
    refine Ct.of _ Tryd.func58 Tryd.ntmps58 rfl rfl (fun X W => ?_)
    refine Jc.seq ?_
    refine Jc.region ?_
    refine Jl.pv (PR.assign rfl) ?_
    refine Jl.pv (PR.assign rfl) ?_
    refine Jl.nil ?_
    refine Jq.thenN ?_
    refine Jc.seq ?_
    refine Jc.seq ?_
    refine Jc.region ?_
    refine Jl.pv (PR.move rfl) ?_
    refine Jl.call (rfine_at hfn) en57 (by rfl) (by repeat (first | exact Take.nil | apply Take.cons (by repeat (first | exact Del.here | apply Del.there)))) (by repeat (first | exact trivial | refine And.intro (by repeat (first | exact Mem.here | apply Mem.there)) ?_)) ?_
    rintro ⟨⟩
    refine Jl.pv (PR.not rfl) ?_
    refine Jl.as (.bool false) (congrArg Value.bool rfl) ?_
    refine Jl.nil ?_
    refine Jq.thenN ?_
    refine Jc.condF rfl ?_
    refine Jc.skip ?_
    refine Jq.thenN ?_
    refine Jc.seq ?_
    refine Jc.nilRow 5 1 ?_
    refine Jc.region ?_
    refine Jl.pv (PR.assign rfl) ?_
    refine Jl.nil ?_
    refine Jq.thenN ?_
    refine Jc.seq ?_
    refine Jc.block ?_
    refine Jc.loop (σ := { s : Nat × OA // s.1 < dlen 10 m }) (fun s => [(0, .int .i64 ((m / 128 ^ s.1.1 : Nat) : Int)), (4, .slice s.1.2.1 ((digs 10 m).take s.1.1).length s.1.2.2)]) (fun s => [.row 5 1 (.slice s.1.2.1 ((digs 10 m).take s.1.1).length s.1.2.2) ((digs 10 m).take s.1.1).length (u8s ((digs 10 m).take s.1.1))]) (fun _ => []) (fun s => dlen 10 m - s.1.1) ⟨(0, (none, 0)), dlen0 m⟩ (by exact ⟨by rw [Nat.pow_zero, Nat.div_one]; rfl, rfl, trivial⟩) rfl trivial ?_
    rintro ⟨⟨k, A', c'⟩, hk0⟩
    have hk : k < dlen 10 m := hk0
    have hlt := digs_lt [] m k hm hk
    simp only [List.nil_append, List.length_nil, Nat.zero_add] at hlt
    have hq : m / 128 ^ k ≤ m := Nat.div_le_self _ _
    have hmod : m / 128 ^ k % 128 < 128 := Nat.mod_lt _ (by omega)
    have hlast := dlen_last 10 m k (p128_10 m hm) hk
    show Jc _ _ _ _ _ _ [(0, Value.int .i64 ((m / 128 ^ k : Nat) : Int)), (4, .slice A' ((digs 10 m).take k).length c')] [.row 5 1 (.slice A' ((digs 10 m).take k).length c') ((digs 10 m).take k).length (u8s ((digs 10 m).take k))] []
    refine Jc.seq ?_
    refine Jc.seq ?_
    refine Jc.region ?_
    refine Jl.pv (PR.move rfl) ?_
    refine Jl.pv (PR.geq _ rfl rfl rfl) ?_
    refine Jl.nil ?_
    refine Jq.thenN ?_
    refine Jc.cond rfl (fun h0 => ?_) (fun h0 => ?_)
    · try replace h0 := of_decide_eq_true h0
      replace h0 : ¬ m / 128 ^ k < 128 := by omega
      refine Jc.skip ?_
      refine Jq.thenN ?_
      refine Jc.block ?_
      refine Jc.seq ?_
      refine Jc.region ?_
      refine Jl.pv (PR.move rfl) ?_
      refine Jl.pv (PR.move rfl) ?_
      refine Jl.pv (PR.rem ((m / 128 ^ k % 128 : Nat) : Int) rfl rfl (by decide) (tmodN _ 128)) ?_
      refine Jl.pv (PR.add ((m / 128 ^ k % 128 + 128 : Nat) : Int) rfl rfl (by rw [w64 (by omega) (by omega)]; rfl)) ?_
      refine Jl.pv (PR.conv ((m / 128 ^ k % 128 + 128 : Nat) : Int) rfl Tryd.underlying3 Tryd.underlying5 (by rw [IntKind.wrap_u8]; omega)) ?_
      refine Jl.buildSlice (by rfl) tsl22 tzr22_1 (by rfl) (by rfl) ?_
      intro b15
      refine Jl.seal (by repeat (first | exact Del.here | apply Del.there)) ?_
      refine Jl.append ((digs 10 m).take (k + 1)).length (u8s ((digs 10 m).take (k + 1))) rfl rfl rfl tsl22 tze5 (by rfl) (by decide) tby5 (fun _ _ => (by repeat (first | exact Swap.here | apply Swap.there))) (by repeat (first | exact Mem.here | apply Mem.there)) (by omega) (digs_app [] m k _ hm hk (by rw [if_neg h0])) rfl (by simp [Value.oneCell']) (by omega) (by decide) ?_
      intro A16 c16
      refine Jl.pv (PR.assign rfl) ?_
      refine Jl.nil ?_
      refine Jq.thenN ?_
      refine Jc.region ?_
      refine Jl.pv (PR.move rfl) ?_
      refine Jl.pv (PR.quo ((m / 128 ^ (k + 1) : Nat) : Int) rfl rfl (by decide) (by rw [show (128 : Int) = ((128 : Nat) : Int) from rfl, tdivN, div128, w64n (by have := Nat.div_le_self m (128 ^ (k + 1)); omega)])) ?_
      refine Jl.pv (PR.assign rfl) ?_
      refine Jl.nil ?_
      refine Jq.blkN ?_
      refine Jq.again ⟨(k + 1, (A16, c16)), by have := fun h => h0 (hlast.2 h); simp only; omega⟩ (by simp only; omega) (by exact ⟨rfl, rfl, trivial⟩) rfl trivial
    · try replace h0 := of_decide_eq_false h0
      replace h0 : m / 128 ^ k < 128 := by omega
      refine Jc.exit ?_
      refine Jq.thenX ?_
      refine Jq.thenX ?_
      refine Jq.blkX ?_
      refine Jq.thenN ?_
      refine Jc.seq ?_
      refine Jc.region ?_
      refine Jl.pv (PR.move rfl) ?_
      refine Jl.pv (PR.move rfl) ?_
      refine Jl.pv (PR.conv ((m / 128 ^ k : Nat) : Int) rfl Tryd.underlying3 Tryd.underlying5 (w8n (by omega))) ?_
      refine Jl.buildSlice (by rfl) tsl22 tzr22_1 (by rfl) (by rfl) ?_
      intro b22
      refine Jl.seal (by repeat (first | exact Del.here | apply Del.there)) ?_
      refine Jl.append ((digs 10 m).take (k + 1)).length (u8s ((digs 10 m).take (k + 1))) rfl rfl rfl tsl22 tze5 (by rfl) (by decide) tby5 (fun _ _ => (by repeat (first | exact Swap.here | apply Swap.there))) (by repeat (first | exact Mem.here | apply Mem.there)) (by omega) (digs_app [] m k _ hm hk (by rw [if_pos h0, Nat.add_zero, Nat.mod_eq_of_lt h0])) rfl (by simp [Value.oneCell']) (by omega) (by decide) ?_
      intro A23 c23
      refine Jl.pv (PR.assign rfl) ?_
      refine Jl.pv (PR.assign rfl) ?_
      refine Jl.nil ?_
      refine Jq.thenN ?_
      refine Jc.ret ?_
      rw [show (digs 10 m).take (k + 1) = putB m by rw [hlast.1 h0, digs_all]]
      exact Jq.fin (A23, c23) (.inl rfl) rfl (RetVs.tmp rfl (RetVs.tmp rfl RetVs.nil)) rfl (by repeat (first | exact Take.nil | apply Take.cons (by repeat (first | exact Del.here | apply Del.there)))) (by repeat (first | exact trivial | refine And.intro (by repeat (first | exact Mem.here | apply Mem.there)) ?_))
  · have e1 : putN n = [] := if_neg hfn
    have e2 : putR n = 2 := if_neg hfn
    rw [e1, e2]
    refine Ct.of _ Tryd.func58 Tryd.ntmps58 rfl rfl (fun X W => ?_)
    refine Jc.seq ?_
    refine Jc.region ?_
    refine Jl.pv (PR.assign rfl) ?_
    refine Jl.pv (PR.assign rfl) ?_
    refine Jl.nil ?_
    refine Jq.thenN ?_
    refine Jc.seq ?_
    refine Jc.seq ?_
    refine Jc.region ?_
    refine Jl.pv (PR.move rfl) ?_
    refine Jl.call (rfine_at (t := false) (by simpa using hfn)) en57 (by rfl) (by repeat (first | exact Take.nil | apply Take.cons (by repeat (first | exact Del.here | apply Del.there)))) (by repeat (first | exact trivial | refine And.intro (by repeat (first | exact Mem.here | apply Mem.there)) ?_)) ?_
    rintro ⟨⟩
    refine Jl.pv (PR.not rfl) ?_
    refine Jl.as (.bool true) (congrArg Value.bool rfl) ?_
    refine Jl.nil ?_
    refine Jq.thenN ?_
    refine Jc.condT rfl ?_
    refine Jc.seq ?_
    refine Jc.region ?_
    refine Jl.pv (PR.assign rfl) ?_
    refine Jl.pv (PR.assign rfl) ?_
    refine Jl.nil ?_
    refine Jq.thenN ?_
    refine Jc.ret ?_
    refine Jq.thenR ?_
    refine Jq.nilRow 5 1 ?_
    exact Jq.fin (none, 0) (.inl rfl) rfl (RetVs.tmp rfl (RetVs.tmp rfl RetVs.nil)) rfl (by repeat (first | exact Take.nil | apply Take.cons (by repeat (first | exact Del.here | apply Del.there)))) (by repeat (first | exact trivial | refine And.intro (by repeat (first | exact Mem.here | apply Mem.there)) ?_))
theorem p128_succ (i : Nat) : 128 ^ i * 128 = 128 ^ (i + 1) := (Nat.pow_succ ..).symm
theorem rtake_ct (A : Option Addr) (c : Nat) (b : List UInt8) (hn : b.length ≤ 1000000) (hc : b.length ≤ c) :
    Ct Tryd.prog 41 [.slice A b.length c] [] [.rd A (u8s b)] (takeV (takeN b)) (rowU (takeN b).2.1) (fun _ => []) := by
  refine Ct.of _ Tryd.func41 Tryd.ntmps41 rfl rfl (fun X W => ?_)
  refine Jc.seq ?_
  refine Jc.region ?_
  refine Jl.pv (PR.assign rfl) ?_
  refine Jl.pv (PR.assign rfl) ?_
  refine Jl.pv (PR.assign rfl) ?_
  refine Jl.nil ?_
  refine Jq.thenN ?_
  refine Jc.seq ?_
  refine Jc.region ?_
  refine Jl.pv (PR.assign rfl) ?_
  refine Jl.pv (PR.assign rfl) ?_
  refine Jl.nil ?_
  refine Jq.thenN ?_
  refine Jc.seq ?_
  refine Jc.seq ?_
  refine Jc.region ?_
  refine Jl.pv (PR.assign rfl) ?_
  refine Jl.nil ?_
  refine Jq.thenN ?_
  refine Jc.block ?_
  refine Jc.loop (σ := { s : Nat × Nat // TakeI b s.1 s.2 }) (fun s => [(0, .slice A b.length c), (5, .int .i64 (s.1.2 : Int)), (6, .int .i64 ((128 ^ s.1.1 : Nat) : Int)), (7, .int .i64 (s.1.1 : Int))]) (fun _ => []) (fun _ => [.rd A (u8s b)]) (fun s => 6 - s.1.1) ⟨(0, 0), TakeI.zero b⟩ (by exact ⟨rfl, rfl, rfl, rfl, trivial⟩) rfl (by exact ⟨Mem.here, trivial⟩) ?_
  rintro ⟨⟨i, acc⟩, hs0⟩
  have hs : TakeI b i acc := hs0
  show Jc _ _ _ _ _ _ [(0, Value.slice A b.length c), (5, .int .i64 (acc : Int)), (6, .int .i64 ((128 ^ i : Nat) : Int)), (7, .int .i64 (i : Int))] [] [.rd A (u8s b)]
  have hlt6 := hs.lt
  have hle := hs.le
  have hbd := hs.bound
  refine Jc.seq ?_
  refine Jc.seq ?_
  refine Jc.region ?_
  refine Jl.pv (PR.move rfl) ?_
  refine Jl.pv (PR.move rfl) ?_
  refine Jl.pv (PR.len rfl tsl22) ?_
  refine Jl.pv (PR.lss _ rfl rfl rfl) ?_
  refine Jl.nil ?_
  refine Jq.thenN ?_
  refine Jc.cond rfl (fun h0 => ?_) (fun h0 => ?_)
  · try replace h0 := of_decide_eq_true h0
    have hi : i < b.length := by omega
    have hm128 : b[i].toNat % 128 < 128 := Nat.mod_lt _ (by omega)
    have hbig := hs.big _ hm128
    have hbb := b[i].toNat_lt
    refine Jc.skip ?_
    refine Jq.thenN ?_
    refine Jc.seq ?_
    refine Jc.block ?_
    refine Jc.seq ?_
    refine Jc.region ?_
    refine Jl.pv (PR.move rfl) ?_
    refine Jl.pv (PR.move rfl) ?_
    refine Jl.pv (PR.move rfl) ?_
    refine Jl.pv (PR.idx1 i rfl rfl tsl22 (by repeat (first | exact Mem.here | apply Mem.there)) (by simp [u8s]) rfl hi) ?_
    refine Jl.pv (PR.loadR rfl tsh5 (by repeat (first | exact Mem.here | apply Mem.there)) (getu hi)) ?_
    refine Jl.pv (PR.rem ((b[i].toNat % 128 : Nat) : Int) rfl rfl (by decide) (tmodN _ 128)) ?_
    refine Jl.pv (PR.conv ((b[i].toNat % 128 : Nat) : Int) rfl Tryd.underlying5 Tryd.underlying3 (w64 (by omega) (by omega))) ?_
    refine Jl.pv (PR.move rfl) ?_
    refine Jl.pv (PR.mul ((b[i].toNat % 128 * 128 ^ i : Nat) : Int) rfl rfl (by rw [← Int.natCast_mul, w64 (by omega) (by omega)])) ?_
    refine Jl.pv (PR.add ((acc + b[i].toNat % 128 * 128 ^ i : Nat) : Int) rfl rfl (by rw [← Int.natCast_add, w64 (by omega) (by omega)])) ?_
    refine Jl.pv (PR.assign rfl) ?_
    refine Jl.nil ?_
    refine Jq.thenN ?_
    refine Jc.seq ?_
    refine Jc.region ?_
    refine Jl.pv (PR.move rfl) ?_
    refine Jl.pv (PR.mul ((128 ^ (i + 1) : Nat) : Int) rfl rfl (by rw [show ((128 ^ i : Nat) : Int) * 128 = ((128 ^ i * 128 : Nat) : Int) from (Int.natCast_mul ..).symm, p128_succ, w64n (by rw [← p128_succ]; omega)])) ?_
    refine Jl.pv (PR.assign rfl) ?_
    refine Jl.nil ?_
    refine Jq.thenN ?_
    refine Jc.seq ?_
    refine Jc.seq ?_
    refine Jc.region ?_
    refine Jl.pv (PR.move rfl) ?_
    refine Jl.pv (PR.move rfl) ?_
    refine Jl.pv (PR.idx1 i rfl rfl tsl22 (by repeat (first | exact Mem.here | apply Mem.there)) (by simp [u8s]) rfl hi) ?_
    refine Jl.pv (PR.loadR rfl tsh5 (by repeat (first | exact Mem.here | apply Mem.there)) (getu hi)) ?_
    refine Jl.pv (PR.lss _ rfl rfl rfl) ?_
    refine Jl.nil ?_
    refine Jq.thenN ?_
    refine Jc.cond rfl (fun h1 => ?_) (fun h1 => ?_)
    · try replace h1 := of_decide_eq_true h1
      refine Jc.seq ?_
      refine Jc.seq ?_
      refine Jc.region ?_
      refine Jl.pv (PR.move rfl) ?_
      refine Jl.pv (PR.move rfl) ?_
      refine Jl.pv (PR.idx1 i rfl rfl tsl22 (by repeat (first | exact Mem.here | apply Mem.there)) (by simp [u8s]) rfl hi) ?_
      refine Jl.pv (PR.loadR rfl tsh5 (by repeat (first | exact Mem.here | apply Mem.there)) (getu hi)) ?_
      refine Jl.pv (PR.eql _ rfl rfl rfl) ?_
      refine Jl.pv (PR.move rfl) ?_
      refine Jl.bsplit (fun g36 => ?_) (fun g36 => ?_)
      · try replace g36 := of_decide_eq_true g36
        refine Jl.on rfl rfl ?_
        refine Jl.pv (PR.move rfl) ?_
        refine Jl.on rfl rfl ?_
        refine Jl.pv (PR.gtr _ rfl rfl rfl) ?_
        refine Jl.pv (PR.pickT rfl rfl) ?_
        refine Jl.pv (PR.move rfl) ?_
        refine Jl.bsplit (fun g40 => ?_) (fun g40 => ?_)
        · try replace g40 := of_decide_eq_true g40
          refine Jl.offS rfl rfl rfl ?_
          refine Jl.offS rfl rfl rfl ?_
          refine Jl.offS rfl rfl rfl ?_
          refine Jl.pv (PR.pickT rfl rfl) ?_
          refine Jl.nil ?_
          refine Jq.thenN ?_
          refine Jc.condT rfl ?_
          refine Jc.seq ?_
          refine Jc.region ?_
          refine Jl.pv (PR.assign rfl) ?_
          refine Jl.pv (PR.assign rfl) ?_
          refine Jl.pv (PR.assign rfl) ?_
          refine Jl.nil ?_
          refine Jq.thenN ?_
          refine Jc.ret ?_
          refine Jq.thenR ?_
          refine Jq.thenR ?_
          refine Jq.blkR ?_
          refine Jq.thenR ?_
          refine Jq.thenR ?_
          refine Jq.blkR ?_
          refine Jq.thenR ?_
          refine Jq.nilRow 5 1 ?_
          rw [hs.bad hi (.inr ⟨by omega, .inl ⟨by omega, by omega⟩⟩)]
          exact Jq.fin (none, 0) (.inl rfl) rfl (RetVs.tmp rfl (RetVs.tmp rfl (RetVs.tmp rfl RetVs.nil))) rfl (by repeat (first | exact Take.nil | apply Take.cons (by repeat (first | exact Del.here | apply Del.there)))) (by repeat (first | exact trivial | refine And.intro (by repeat (first | exact Mem.here | apply Mem.there)) ?_))
        · try replace g40 := of_decide_eq_false g40
          refine Jl.on rfl rfl ?_
          refine Jl.pv (PR.move rfl) ?_
          refine Jl.on rfl rfl ?_
          refine Jl.call (rfine_ct _) en57 (by rfl) (by repeat (first | exact Take.nil | apply Take.cons (by repeat (first | exact Del.here | apply Del.there)))) (by repeat (first | exact trivial | refine And.intro (by repeat (first | exact Mem.here | apply Mem.there)) ?_)) ?_
          rintro ⟨⟩
          refine Jl.on rfl rfl ?_
          refine Jl.pv (PR.not rfl) ?_
          refine Jl.pv (PR.pickF rfl rfl) ?_
          refine Jl.nil ?_
          refine Jq.thenN ?_
          refine Jc.cond rfl (fun h2 => ?_) (fun h2 => ?_)
          · try replace h2 := of_decide_eq_true h2
            replace h2 : 1099511627776 < acc + b[i].toNat % 128 * 128 ^ i := by rw [fineN_nat] at h2; simpa using h2
            refine Jc.seq ?_
            refine Jc.region ?_
            refine Jl.pv (PR.assign rfl) ?_
            refine Jl.pv (PR.assign rfl) ?_
            refine Jl.pv (PR.assign rfl) ?_
            refine Jl.nil ?_
            refine Jq.thenN ?_
            refine Jc.ret ?_
            refine Jq.thenR ?_
            refine Jq.thenR ?_
            refine Jq.blkR ?_
            refine Jq.thenR ?_
            refine Jq.thenR ?_
            refine Jq.blkR ?_
            refine Jq.thenR ?_
            refine Jq.nilRow 5 1 ?_
            rw [hs.bad hi (.inr ⟨by omega, .inr h2⟩)]
            exact Jq.fin (none, 0) (.inl rfl) rfl (RetVs.tmp rfl (RetVs.tmp rfl (RetVs.tmp rfl RetVs.nil))) rfl (by repeat (first | exact Take.nil | apply Take.cons (by repeat (first | exact Del.here | apply Del.there)))) (by repeat (first | exact trivial | refine And.intro (by repeat (first | exact Mem.here | apply Mem.there)) ?_))
          · try replace h2 := of_decide_eq_false h2
            replace h2 : acc + b[i].toNat % 128 * 128 ^ i ≤ 1099511627776 := by rw [fineN_nat] at h2; simpa using h2
            refine Jc.skip ?_
            refine Jq.thenN ?_
            refine Jc.seq ?_
            refine Jc.region ?_
            refine Jl.pv (PR.move rfl) ?_
            refine Jl.buildSlice (by rfl) tsl22 tzr22_0 (by rfl) (by rfl) ?_
            intro b46
            refine Jl.pv (PR.move rfl) ?_
            refine Jl.pv (PR.move rfl) ?_
            refine Jl.pv (PR.add _ rfl rfl (w64 (by omega) (by omega))) ?_
            refine Jl.slice (i + 1) b.length (b.length - (i + 1)) (u8s (b.drop (i + 1))) rfl tsl22 rfl rfl (by repeat (first | exact Mem.here | apply Mem.there)) (by omega) (Nat.le_refl _) hc rfl (sl_end b (i + 1)) ?_
            intro A50 c50 hc50
            clear hc50
            refine Jl.toRow 1 0 (by repeat (first | exact Swap.here | apply Swap.there)) (by rfl) (by rfl) ?_
            refine Jl.append (b.drop (i + 1)).length (u8s (b.drop (i + 1))) rfl rfl rfl tsl22 tze5 (by rfl) (by decide) tby5 (fun _ _ => (by repeat (first | exact Swap.here | apply Swap.there))) (by repeat (first | exact Mem.here | apply Mem.there)) (by simp) rfl (by simp [u8s]) (u8s_one _) (by simp; omega) (by decide) ?_
            intro A51 c51
            refine Jl.pv (PR.assign rfl) ?_
            refine Jl.pv (PR.assign rfl) ?_
            refine Jl.pv (PR.assign rfl) ?_
            refine Jl.nil ?_
            refine Jq.thenN ?_
            refine Jc.ret ?_
            refine Jq.thenR ?_
            refine Jq.blkR ?_
            refine Jq.thenR ?_
            refine Jq.thenR ?_
            refine Jq.blkR ?_
            refine Jq.thenR ?_
            rw [hs.good hi (by omega) (by omega) h2]
            exact Jq.fin (A51, c51) (.inl rfl) rfl (RetVs.tmp rfl (RetVs.tmp rfl (RetVs.tmp rfl RetVs.nil))) rfl (by repeat (first | exact Take.nil | apply Take.cons (by repeat (first | exact Del.here | apply Del.there)))) (by repeat (first | exact trivial | refine And.intro (by repeat (first | exact Mem.here | apply Mem.there)) ?_))
      · try replace g36 := of_decide_eq_false g36
        refine Jl.offS rfl rfl rfl ?_
        refine Jl.offS rfl rfl rfl ?_
        refine Jl.pv (PR.pickF rfl rfl) ?_
        refine Jl.pv (PR.move rfl) ?_
        refine Jl.on rfl rfl ?_
        refine Jl.pv (PR.move rfl) ?_
        refine Jl.on rfl rfl ?_
        refine Jl.call (rfine_ct _) en57 (by rfl) (by repeat (first | exact Take.nil | apply Take.cons (by repeat (first | exact Del.here | apply Del.there)))) (by repeat (first | exact trivial | refine And.intro (by repeat (first | exact Mem.here | apply Mem.there)) ?_)) ?_
        rintro ⟨⟩
        refine Jl.on rfl rfl ?_
        refine Jl.pv (PR.not rfl) ?_
        refine Jl.pv (PR.pickF rfl rfl) ?_
        refine Jl.nil ?_
        refine Jq.thenN ?_
        refine Jc.cond rfl (fun h3 => ?_) (fun h3 => ?_)
        · try replace h3 := of_decide_eq_true h3
          replace h3 : 1099511627776 < acc + b[i].toNat % 128 * 128 ^ i := by rw [fineN_nat] at h3; simpa using h3
          refine Jc.seq ?_
          refine Jc.region ?_
          refine Jl.pv (PR.assign rfl) ?_
          refine Jl.pv (PR.assign rfl) ?_
          refine Jl.pv (PR.assign rfl) ?_
          refine Jl.nil ?_
          refine Jq.thenN ?_
          refine Jc.ret ?_
          refine Jq.thenR ?_
          refine Jq.thenR ?_
          refine Jq.blkR ?_
          refine Jq.thenR ?_
          refine Jq.thenR ?_
          refine Jq.blkR ?_
          refine Jq.thenR ?_
          refine Jq.nilRow 5 1 ?_
          rw [hs.bad hi (.inr ⟨by omega, .inr h3⟩)]
          exact Jq.fin (none, 0) (.inl rfl) rfl (RetVs.tmp rfl (RetVs.tmp rfl (RetVs.tmp rfl RetVs.nil))) rfl (by repeat (first | exact Take.nil | apply Take.cons (by repeat (first | exact Del.here | apply Del.there)))) (by repeat (first | exact trivial | refine And.intro (by repeat (first | exact Mem.here | apply Mem.there)) ?_))
        · try replace h3 := of_decide_eq_false h3
          replace h3 : acc + b[i].toNat % 128 * 128 ^ i ≤ 1099511627776 := by rw [fineN_nat] at h3; simpa using h3
          refine Jc.skip ?_
          refine Jq.thenN ?_
          refine Jc.seq ?_
          refine Jc.region ?_
          refine Jl.pv (PR.move rfl) ?_
          refine Jl.buildSlice (by rfl) tsl22 tzr22_0 (by rfl) (by rfl) ?_
          intro b46
          refine Jl.pv (PR.move rfl) ?_
          refine Jl.pv (PR.move rfl) ?_
          refine Jl.pv (PR.add _ rfl rfl (w64 (by omega) (by omega))) ?_
          refine Jl.slice (i + 1) b.length (b.length - (i + 1)) (u8s (b.drop (i + 1))) rfl tsl22 rfl rfl (by repeat (first | exact Mem.here | apply Mem.there)) (by omega) (Nat.le_refl _) hc rfl (sl_end b (i + 1)) ?_
          intro A50 c50 hc50
          clear hc50
          refine Jl.toRow 1 0 (by repeat (first | exact Swap.here | apply Swap.there)) (by rfl) (by rfl) ?_
          refine Jl.append (b.drop (i + 1)).length (u8s (b.drop (i + 1))) rfl rfl rfl tsl22 tze5 (by rfl) (by decide) tby5 (fun _ _ => (by repeat (first | exact Swap.here | apply Swap.there))) (by repeat (first | exact Mem.here | apply Mem.there)) (by simp) rfl (by simp [u8s]) (u8s_one _) (by simp; omega) (by decide) ?_
          intro A51 c51
          refine Jl.pv (PR.assign rfl) ?_
          refine Jl.pv (PR.assign rfl) ?_
          refine Jl.pv (PR.assign rfl) ?_
          refine Jl.nil ?_
          refine Jq.thenN ?_
          refine Jc.ret ?_
          refine Jq.thenR ?_
          refine Jq.blkR ?_
          refine Jq.thenR ?_
          refine Jq.thenR ?_
          refine Jq.blkR ?_
          refine Jq.thenR ?_
          rw [hs.good hi (by omega) (by omega) h3]
          exact Jq.fin (A51, c51) (.inl rfl) rfl (RetVs.tmp rfl (RetVs.tmp rfl (RetVs.tmp rfl RetVs.nil))) rfl (by repeat (first | exact Take.nil | apply Take.cons (by repeat (first | exact Del.here | apply Del.there)))) (by repeat (first | exact trivial | refine And.intro (by repeat (first | exact Mem.here | apply Mem.there)) ?_))
    · try replace h1 := of_decide_eq_false h1
      refine Jc.skip ?_
      refine Jq.thenN ?_
      refine Jc.seq ?_
      refine Jc.region ?_
      refine Jl.pv (PR.move rfl) ?_
      refine Jl.pv (PR.eql _ rfl rfl rfl) ?_
      refine Jl.nil ?_
      refine Jq.thenN ?_
      refine Jc.cond rfl (fun h4 => ?_) (fun h4 => ?_)
      · try replace h4 := of_decide_eq_true h4
        refine Jc.seq ?_
        refine Jc.region ?_
        refine Jl.pv (PR.assign rfl) ?_
        refine Jl.pv (PR.assign rfl) ?_
        refine Jl.pv (PR.assign rfl) ?_
        refine Jl.nil ?_
        refine Jq.thenN ?_
        refine Jc.ret ?_
        refine Jq.blkR ?_
        refine Jq.thenR ?_
        refine Jq.thenR ?_
        refine Jq.blkR ?_
        refine Jq.thenR ?_
        refine Jq.nilRow 5 1 ?_
        rw [hs.bad hi (.inl ⟨by omega, by omega⟩)]
        exact Jq.fin (none, 0) (.inl rfl) rfl (RetVs.tmp rfl (RetVs.tmp rfl (RetVs.tmp rfl RetVs.nil))) rfl (by repeat (first | exact Take.nil | apply Take.cons (by repeat (first | exact Del.here | apply Del.there)))) (by repeat (first | exact trivial | refine And.intro (by repeat (first | exact Mem.here | apply Mem.there)) ?_))
      · try replace h4 := of_decide_eq_false h4
        refine Jc.skip ?_
        refine Jq.blkN ?_
        refine Jq.thenN ?_
        refine Jc.region ?_
        refine Jl.pv (PR.move rfl) ?_
        refine Jl.pv (PR.add ((i + 1 : Nat) : Int) rfl rfl (by rw [w64 (by omega) (by omega)]; rfl)) ?_
        refine Jl.pv (PR.assign rfl) ?_
        refine Jl.nil ?_
        refine Jq.again ⟨(i + 1, acc + b[i].toNat % 128 * 128 ^ i), hs.next hi (by omega) (by omega)⟩ (by simp only; omega) (by exact ⟨rfl, rfl, rfl, rfl, trivial⟩) rfl (by exact ⟨Mem.here, trivial⟩)
  · try replace h0 := of_decide_eq_false h0
    refine Jc.exit ?_
    refine Jq.thenX ?_
    refine Jq.thenX ?_
    refine Jq.blkX ?_
    refine Jq.thenN ?_
    refine Jc.seq ?_
    refine Jc.region ?_
    refine Jl.pv (PR.assign rfl) ?_
    refine Jl.pv (PR.assign rfl) ?_
    refine Jl.pv (PR.assign rfl) ?_
    refine Jl.nil ?_
    refine Jq.thenN ?_
    refine Jc.ret ?_
    refine Jq.nilRow 5 1 ?_
    rw [hs.short (by omega)]
    exact Jq.fin (none, 0) (.inl rfl) rfl (RetVs.tmp rfl (RetVs.tmp rfl (RetVs.tmp rfl RetVs.nil))) rfl (by repeat (first | exact Take.nil | apply Take.cons (by repeat (first | exact Del.here | apply Del.there)))) (by repeat (first | exact trivial | refine And.intro (by repeat (first | exact Mem.here | apply Mem.there)) ?_))
theorem rput_fine {a : Int} (h : fineN a = true) : Ct Tryd.prog 58 [.int .i64 a] [] [] (fun x : OA => .tuple #[.slice x.1 (putB a).length x.2, .int .i64 0]) (rowU (putB a)) (fun _ => []) := by
  have h0 := rput_ct a
  rw [show putN a = putB a from if_pos h, show putR a = 0 from if_pos h] at h0
  exact h0
end Go.Proofs.YtcohgnagffibcaaDoor
namespace Go.Proofs.YtcohgnagffibcaaDoor
set_option linter.unusedVariables false
open Go.RowKit
attribute [local irreducible] Res.blk Res.row Fact.rd
theorem rput_bad {a : Int} (h : fineN a = false) : Ct Tryd.prog 58 [.int .i64 a] [] [] (fun x : OA => .tuple #[.slice x.1 0 x.2, .int .i64 2]) (rowU []) (fun _ => []) := by
  have h0 := rput_ct a
  rw [show putN a = [] from if_neg (by rw [h]; simp), show putR a = 2 from if_neg (by rw [h]; simp)] at h0
  exact h0
theorem rrowN_ct (A : Option Addr) (c : Nat) (l : List Int) (hl : l.length ≤ 1000) : Ct Tryd.prog 65 [.slice A l.length c] [] [.rd A (l.map (Value.int .i64))] (fun x : Option Addr × Nat => .tuple #[.slice x.1 (rowN l).length x.2, .int .i64 (rowR l)]) (rowU (rowN l)) (fun _ => []) := by
  have hno : rowOk l = false → rowN l = [] ∧ rowR l = 2 := fun h => ⟨if_neg (by rw [h]; simp), if_neg (by rw [h]; simp)⟩
  refine Ct.of _ Tryd.func65 Tryd.ntmps65 rfl rfl (fun X W => ?_)
  refine Jc.seq ?_
  refine Jc.region ?_
  refine Jl.pv (PR.assign rfl) ?_
  refine Jl.pv (PR.assign rfl) ?_
  refine Jl.nil ?_
  refine Jq.thenN ?_
  refine Jc.seq ?_
  refine Jc.seq ?_
  refine Jc.region ?_
  refine Jl.pv (PR.move rfl) ?_
  refine Jl.pv (PR.len rfl tsl41) ?_
  refine Jl.pv (PR.gtr _ rfl rfl rfl) ?_
  refine Jl.nil ?_
  refine Jq.thenN ?_
  refine Jc.cond rfl (fun h0 => ?_) (fun h0 => ?_)
  · try replace h0 := of_decide_eq_true h0
    have hb : rowOk l = false := by rw [rowOk, decide_eq_false (by omega), Bool.false_and]
    refine Jc.seq ?_
    refine Jc.region ?_
    refine Jl.pv (PR.assign rfl) ?_
    refine Jl.pv (PR.assign rfl) ?_
    refine Jl.nil ?_
    refine Jq.thenN ?_
    refine Jc.ret ?_
    refine Jq.thenR ?_
    rw [(hno hb).1, (hno hb).2]
    refine Jq.nilRow 5 1 ?_
    exact Jq.fin (none, 0) (.inl rfl) rfl (RetVs.tmp rfl (RetVs.tmp rfl RetVs.nil)) rfl (by repeat (first | exact Take.nil | apply Take.cons (by repeat (first | exact Del.here | apply Del.there)))) (by repeat (first | exact trivial | refine And.intro (by repeat (first | exact Mem.here | apply Mem.there)) ?_))
  · try replace h0 := of_decide_eq_false h0
    have h40 : l.length ≤ 40 := by omega
    refine Jc.skip ?_
    refine Jq.thenN ?_
    refine Jc.seq ?_
    refine Jc.region ?_
    refine Jl.pv (PR.move rfl) ?_
    refine Jl.pv (PR.len rfl tsl41) ?_
    refine Jl.call (rput_fine (a := l.length) (by simp [fineN]; omega)) en58 (by rfl) (by repeat (first | exact Take.nil | apply Take.cons (by repeat (first | exact Del.here | apply Del.there)))) (by repeat (first | exact trivial | refine And.intro (by repeat (first | exact Mem.here | apply Mem.there)) ?_)) ?_
    rintro ⟨A15, c15⟩
    refine Jl.pv (PR.move rfl) ?_
    refine Jl.pv (PR.extract rfl (by rfl)) ?_
    refine Jl.pv (PR.extract rfl (by rfl)) ?_
    refine Jl.pv (PR.assign rfl) ?_
    refine Jl.pv (PR.assign rfl) ?_
    refine Jl.nil ?_
    refine Jq.thenN ?_
    refine Jc.seq ?_
    refine Jc.seq ?_
    refine Jc.region ?_
    refine Jl.pv (PR.assign rfl) ?_
    refine Jl.nil ?_
    refine Jq.thenN ?_
    refine Jc.block ?_
    refine Jc.loop (σ := (k : { k : Nat // k ≤ l.length ∧ ∀ j, j < k → ∀ h : j < l.length, fineN l[j] = true }) × (Option Addr × Nat)) (fun s => [(6, .int .i64 (s.1.1 : Int)), (0, .slice A l.length c), (4, .slice s.2.1 (putB l.length ++ (l.take s.1.1).flatMap putB).length s.2.2)]) (fun s => rowU (putB l.length ++ (l.take s.1.1).flatMap putB) s.2) (fun _ => [.rd A (l.map (Value.int .i64))]) (fun s => l.length - s.1.1) ⟨⟨0, Nat.zero_le _, fun _ h => by omega⟩, A15, c15⟩ (by exact ⟨rfl, rfl, by simp [elook], trivial⟩) (by simp [rowU]) (by repeat (first | exact trivial | refine And.intro (by repeat (first | exact Mem.here | apply Mem.there)) ?_)) ?_
    rintro ⟨⟨k, hk, hF⟩, A', c'⟩
    show Jc _ _ _ _ _ _ [(6, Value.int .i64 (k : Int)), (0, .slice A l.length c), (4, .slice A' (putB l.length ++ (l.take k).flatMap putB).length c')] (rowU (putB l.length ++ (l.take k).flatMap putB) (A', c')) [.rd A (l.map (Value.int .i64))]
    refine Jc.seq ?_
    refine Jc.seq ?_
    refine Jc.region ?_
    refine Jl.pv (PR.move rfl) ?_
    refine Jl.pv (PR.move rfl) ?_
    refine Jl.pv (PR.len rfl tsl41) ?_
    refine Jl.pv (PR.lss _ rfl rfl rfl) ?_
    refine Jl.nil ?_
    refine Jq.thenN ?_
    refine Jc.cond rfl (fun hlt => ?_) (fun hlt => ?_)
    · try replace hlt := of_decide_eq_true hlt
      have hlt' : k < l.length := by omega
      have hf10 := flat_len (l.take k)
      have hp10 := putB_len (l.length : Int)
      obtain ⟨v, hv⟩ : ∃ v : Int, l[k] = v := ⟨_, rfl⟩
      have hpv := putB_len v
      have hstep : putB l.length ++ (l.take (k + 1)).flatMap putB = putB l.length ++ (l.take k).flatMap putB ++ putB v := by rw [List.take_succ_eq_append_getElem hlt', hv]; simp
      have hlen : (putB l.length ++ (l.take k).flatMap putB).length ≤ 1000 := by simp only [List.length_append, List.length_take] at *; omega
      refine Jc.skip ?_
      refine Jq.thenN ?_
      refine Jc.seq ?_
      refine Jc.block ?_
      refine Jc.seq ?_
      refine Jc.region ?_
      refine Jl.pv (PR.move rfl) ?_
      refine Jl.pv (PR.move rfl) ?_
      refine Jl.pv (PR.idx1 k rfl rfl tsl41 (by repeat (first | exact Mem.here | apply Mem.there)) (by simp) rfl hlt') ?_
      refine Jl.pv (PR.loadR rfl tsh3 (by repeat (first | exact Mem.here | apply Mem.there)) ((getm hlt').trans (congrArg (fun x => some (Value.int .i64 x)) hv))) ?_
      refine Jl.call (rput_ct v) en58 (by rfl) (by repeat (first | exact Take.nil | apply Take.cons (by repeat (first | exact Del.here | apply Del.there)))) (by repeat (first | exact trivial | refine And.intro (by repeat (first | exact Mem.here | apply Mem.there)) ?_)) ?_
      rintro ⟨A29, c29⟩
      refine Jl.sealR (by repeat (first | exact Del.here | apply Del.there)) ?_
      refine Jl.pv (PR.move rfl) ?_
      refine Jl.pv (PR.extract rfl (by rfl)) ?_
      refine Jl.pv (PR.extract rfl (by rfl)) ?_
      refine Jl.pv (PR.assign rfl) ?_
      refine Jl.pv (PR.assign rfl) ?_
      refine Jl.nil ?_
      refine Jq.thenN ?_
      refine Jc.seq ?_
      refine Jc.seq ?_
      refine Jc.region ?_
      refine Jl.pv (PR.move rfl) ?_
      refine Jl.pv (PR.neq _ rfl rfl rfl) ?_
      refine Jl.nil ?_
      refine Jq.thenN ?_
      refine Jc.cond rfl (fun h2 => ?_) (fun h2 => ?_)
      · try replace h2 := of_decide_eq_true h2
        have hfv : fineN v = false := by rw [Bool.eq_false_iff]; intro h; exact h2 (if_pos h)
        have hb : rowOk l = false := by
          rw [rowOk, List.any_eq_true.2 ⟨l[k], List.getElem_mem _, by rw [hv, hfv]; rfl⟩]; simp
        refine Jc.seq ?_
        refine Jc.region ?_
        refine Jl.pv (PR.move rfl) ?_
        refine Jl.pv (PR.assign rfl) ?_
        refine Jl.pv (PR.assign rfl) ?_
        refine Jl.nil ?_
        refine Jq.thenN ?_
        refine Jc.ret ?_
        refine Jq.thenR ?_
        refine Jq.blkR ?_
        refine Jq.thenR ?_
        refine Jq.thenR ?_
        refine Jq.blkR ?_
        refine Jq.thenR ?_
        rw [(hno hb).1, (hno hb).2]
        refine Jq.nilRow 5 1 ?_
        exact Jq.fin (none, 0) (.inl rfl) rfl (RetVs.tmp rfl (RetVs.tmp rfl RetVs.nil)) (by rw [show putR v = 2 from if_neg (by rw [hfv]; simp)]; rfl) (by repeat (first | exact Take.nil | apply Take.cons (by repeat (first | exact Del.here | apply Del.there)))) (by repeat (first | exact trivial | refine And.intro (by repeat (first | exact Mem.here | apply Mem.there)) ?_))
      · try replace h2 := of_decide_eq_false h2
        have hfv : fineN v = true := by
          by_cases h : fineN v = true
          · exact h
          · exact absurd (show putR v = 2 from if_neg h) (by omega)
        have hpn : putN v = putB v := if_pos hfv
        refine Jc.skip ?_
        refine Jq.thenN ?_
        refine Jc.region ?_
        refine Jl.pv (PR.move rfl) ?_
        refine Jl.pv (PR.move rfl) ?_
        refine Jl.append (putB l.length ++ (l.take (k + 1)).flatMap putB).length (u8s (putB l.length ++ (l.take (k + 1)).flatMap putB)) rfl rfl rfl tsl22 tze5 (by rfl) (by decide) tby5 (fun _ _ => (by repeat (first | exact Swap.here | apply Swap.there))) (by repeat (first | exact Mem.here | apply Mem.there)) (by rw [hstep, hpn]; simp only [List.length_append]) (by rw [hstep, hpn]; simp only [u8s, List.map_append]) (by simp) (u8s_one _) (by rw [hpn]; omega) (by decide) ?_
        intro A37 c37
        refine Jl.pv (PR.assign rfl) ?_
        refine Jl.nil ?_
        refine Jq.blkN ?_
        refine Jq.thenN ?_
        refine Jc.region ?_
        refine Jl.pv (PR.move rfl) ?_
        refine Jl.pv (PR.add ((k + 1 : Nat) : Int) rfl rfl (by rw [w64 (by omega) (by omega)]; rfl)) ?_
        refine Jl.pv (PR.assign rfl) ?_
        refine Jl.nil ?_
        refine Jq.again ⟨⟨k + 1, hlt', fun j hj hjl => (Nat.lt_succ_iff_lt_or_eq.1 hj).elim (fun h => hF j h hjl) (fun e => by subst e; rw [hv]; exact hfv)⟩, A37, c37⟩ (by simp only; omega) (by repeat (first | exact trivial | refine And.intro rfl ?_)) rfl (by repeat (first | exact trivial | refine And.intro (by repeat (first | exact Mem.here | apply Mem.there)) ?_))
    · try replace hlt := of_decide_eq_false hlt
      have hkl : k = l.length := by omega
      have hall : putB l.length ++ (l.take k).flatMap putB = rowsB l := by rw [hkl, List.take_length]; rfl
      have hok : rowOk l = true := by
        simp only [rowOk, Bool.and_eq_true, decide_eq_true_eq, Bool.not_eq_true']
        refine ⟨h40, List.any_eq_false.2 fun n hn => ?_⟩
        obtain ⟨j, hj, rfl⟩ := List.mem_iff_getElem.1 hn
        rw [hF j (by omega) hj]; simp
      rw [hall, show rowN l = rowsB l from if_pos hok, show rowR l = 0 from if_pos hok]
      refine Jc.exit ?_
      refine Jq.thenX ?_
      refine Jq.thenX ?_
      refine Jq.blkX ?_
      refine Jq.thenN ?_
      refine Jc.seq ?_
      refine Jc.region ?_
      refine Jl.pv (PR.move rfl) ?_
      refine Jl.pv (PR.assign rfl) ?_
      refine Jl.pv (PR.assign rfl) ?_
      refine Jl.nil ?_
      refine Jq.thenN ?_
      refine Jc.ret ?_
      exact Jq.fin (A', c') (.inl rfl) rfl (RetVs.tmp rfl (RetVs.tmp rfl RetVs.nil)) rfl (by repeat (first | exact Take.nil | apply Take.cons (by repeat (first | exact Del.here | apply Del.there)))) (by repeat (first | exact trivial | refine And.intro (by repeat (first | exact Mem.here | apply Mem.there)) ?_))
abbrev TRT (b : List UInt8) (n : Nat) := { s : (List Nat × List UInt8) × OA × OA // TRowI b n s.1.1 s.1.2 0 ∧ s.1.2.length ≤ s.2.2.2 }
theorem rtakeRow_ct (A : Option Addr) (c : Nat) (b : List UInt8) (hn : b.length ≤ 1000000) (hc : b.length ≤ c) :
    Ct Tryd.prog 43 [.slice A b.length c] [] [.rd A (u8s b)] (takeRowV (takeRowN b)) (fun x => [.row 3 1 (.slice x.1.1 (takeRowN b).1.length x.1.2) (takeRowN b).1.length (natI (takeRowN b).1)]) (fun x => [.rd x.2.1 (u8s (takeRowN b).2.1), .is ((takeRowN b).2.1.length ≤ x.2.2)]) := by
  refine Ct.of _ Tryd.func43 Tryd.ntmps43 rfl rfl (fun X W => ?_)
  refine Jc.seq ?_
  refine Jc.region ?_
  refine Jl.pv (PR.assign rfl) ?_
  refine Jl.pv (PR.assign rfl) ?_
  refine Jl.pv (PR.assign rfl) ?_
  refine Jl.nil ?_
  refine Jq.thenN ?_
  refine Jc.seq ?_
  refine Jc.region ?_
  refine Jl.pv (PR.move rfl) ?_
  refine Jl.call (rtake_ct A c b hn hc) en41 (by rfl) (by repeat (first | exact Take.nil | apply Take.cons (by repeat (first | exact Del.here | apply Del.there)))) (by repeat (first | exact trivial | refine And.intro (by repeat (first | exact Mem.here | apply Mem.there)) ?_)) ?_
  rintro ⟨A14, c14⟩
  refine Jl.sealC (by repeat (first | exact Del.here | apply Del.there)) (fun hc14 => ?_)
  refine Jl.pv (PR.move rfl) ?_
  refine Jl.pv (PR.extract rfl (by rfl)) ?_
  refine Jl.pv (PR.extract rfl (by rfl)) ?_
  refine Jl.pv (PR.extract rfl (by rfl)) ?_
  refine Jl.pv (PR.assign rfl) ?_
  refine Jl.pv (PR.assign rfl) ?_
  refine Jl.pv (PR.assign rfl) ?_
  refine Jl.nil ?_
  refine Jq.thenN ?_
  refine Jc.seq ?_
  refine Jc.seq ?_
  refine Jc.region ?_
  refine Jl.pv (PR.move rfl) ?_
  refine Jl.pv (PR.neq _ rfl rfl rfl) ?_
  refine Jl.nil ?_
  refine Jq.thenN ?_
  refine Jc.cond rfl (fun h0 => ?_) (fun h0 => ?_)
  · try replace h0 := of_decide_eq_true h0
    refine Jc.seq ?_
    refine Jc.region ?_
    refine Jl.pv (PR.move rfl) ?_
    refine Jl.pv (PR.assign rfl) ?_
    refine Jl.pv (PR.assign rfl) ?_
    refine Jl.pv (PR.assign rfl) ?_
    refine Jl.nil ?_
    refine Jq.thenN ?_
    refine Jc.ret ?_
    refine Jq.thenR ?_
    rw [(TRowI.zero_bad (b := b) (by omega)).bad (by omega)]
    refine Jq.nilRow 3 1 ?_
    refine Jq.fact0 (.rd none []) (fun X W => Fact.rd_nil none X W) ?_
    refine Jq.fact0 (.is (([] : List UInt8).length ≤ 0)) (fun _ _ => Nat.le_refl 0) ?_
    exact Jq.fin ((none, 0), (none, 0)) (.inl rfl) rfl (RetVs.tmp rfl (RetVs.tmp rfl (RetVs.tmp rfl RetVs.nil))) rfl (by repeat (first | exact Take.nil | apply Take.cons (by repeat (first | exact Del.here | apply Del.there)))) (by repeat (first | exact trivial | refine And.intro (by repeat (first | exact Mem.here | apply Mem.there)) ?_))
  · try replace h0 := of_decide_eq_false h0
    refine Jc.skip ?_
    refine Jq.thenN ?_
    refine Jc.seq ?_
    refine Jc.seq ?_
    refine Jc.region ?_
    refine Jl.pv (PR.move rfl) ?_
    refine Jl.pv (PR.gtr _ rfl rfl rfl) ?_
    refine Jl.nil ?_
    refine Jq.thenN ?_
    refine Jc.cond rfl (fun h1 => ?_) (fun h1 => ?_)
    · try replace h1 := of_decide_eq_true h1
      refine Jc.seq ?_
      refine Jc.region ?_
      refine Jl.pv (PR.assign rfl) ?_
      refine Jl.pv (PR.assign rfl) ?_
      refine Jl.pv (PR.assign rfl) ?_
      refine Jl.nil ?_
      refine Jq.thenN ?_
      refine Jc.ret ?_
      refine Jq.thenR ?_
      rw [(TRowI.zero_big (b := b) (by omega) (by omega)).bad (by omega)]
      refine Jq.nilRow 3 1 ?_
      refine Jq.fact0 (.rd none []) (fun X W => Fact.rd_nil none X W) ?_
      refine Jq.fact0 (.is (([] : List UInt8).length ≤ 0)) (fun _ _ => Nat.le_refl 0) ?_
      exact Jq.fin ((none, 0), (none, 0)) (.inl rfl) rfl (RetVs.tmp rfl (RetVs.tmp rfl (RetVs.tmp rfl RetVs.nil))) rfl (by repeat (first | exact Take.nil | apply Take.cons (by repeat (first | exact Del.here | apply Del.there)))) (by repeat (first | exact trivial | refine And.intro (by repeat (first | exact Mem.here | apply Mem.there)) ?_))
    · try replace h1 := of_decide_eq_false h1
      refine Jc.skip ?_
      refine Jq.thenN ?_
      refine Jc.seq ?_
      refine Jc.region ?_
      refine Jl.pv (PR.assign rfl) ?_
      refine Jl.nil ?_
      refine Jq.thenN ?_
      refine Jc.seq ?_
      refine Jc.seq ?_
      refine Jc.region ?_
      refine Jl.pv (PR.assign rfl) ?_
      refine Jl.nil ?_
      refine Jq.thenN ?_
      refine Jc.block ?_
      refine Jc.nilRow 3 1 ?_
      refine Jc.loop (σ := TRT b (takeN b).1) (fun s => [(8, .int .i64 (s.1.1.1.length : Int)), (7, .slice s.1.2.1.1 s.1.1.1.length s.1.2.1.2), (0, .slice s.1.2.2.1 s.1.1.2.length s.1.2.2.2), (5, .int .i64 ((takeN b).1 : Int))]) (fun s => [.row 3 1 (.slice s.1.2.1.1 s.1.1.1.length s.1.2.1.2) s.1.1.1.length (natI s.1.1.1)]) (fun s => [.rd s.1.2.2.1 (u8s s.1.1.2)]) (fun s => (takeN b).1 - s.1.1.1.length) ⟨(([], (takeN b).2.1), (none, 0), (A14, c14)), TRowI.zero_ok (by omega) (by omega), hc14⟩ (by repeat (first | exact trivial | refine And.intro rfl ?_)) (by simp [natI]) (by repeat (first | exact trivial | refine And.intro (by repeat (first | exact Mem.here | apply Mem.there)) ?_)) ?_
      rintro ⟨⟨⟨l, r⟩, ⟨A1, c1⟩, ⟨A2, c2⟩⟩, hI, hcap⟩
      show Jc _ _ _ _ _ _ [(8, .int .i64 (l.length : Int)), (7, Value.slice A1 l.length c1), (0, .slice A2 r.length c2), (5, .int .i64 ((takeN b).1 : Int))] [.row 3 1 (.slice A1 l.length c1) l.length (natI l)] [.rd A2 (u8s r)]
      replace hI : TRowI b (takeN b).1 l r 0 := hI
      replace hcap : r.length ≤ c2 := hcap
      have hle := hI.le
      have hsm := hI.small rfl
      have hrl := hI.len
      refine Jc.seq ?_
      refine Jc.seq ?_
      refine Jc.region ?_
      refine Jl.pv (PR.move rfl) ?_
      refine Jl.pv (PR.move rfl) ?_
      refine Jl.pv (PR.lss _ rfl rfl rfl) ?_
      refine Jl.nil ?_
      refine Jq.thenN ?_
      refine Jc.cond rfl (fun h2 => ?_) (fun h2 => ?_)
      · try replace h2 := of_decide_eq_true h2
        have hnx := hI.next (by omega)
        refine Jc.skip ?_
        refine Jq.thenN ?_
        refine Jc.seq ?_
        refine Jc.block ?_
        refine Jc.seq ?_
        refine Jc.region ?_
        refine Jl.pv (PR.move rfl) ?_
        refine Jl.call (rtake_ct A2 c2 r (by omega) hcap) en41 (by rfl) (by repeat (first | exact Take.nil | apply Take.cons (by repeat (first | exact Del.here | apply Del.there)))) (by repeat (first | exact trivial | refine And.intro (by repeat (first | exact Mem.here | apply Mem.there)) ?_)) ?_
        rintro ⟨A30, c30⟩
        refine Jl.sealC (by repeat (first | exact Del.here | apply Del.there)) (fun hc30 => ?_)
        refine Jl.pv (PR.move rfl) ?_
        refine Jl.pv (PR.extract rfl (by rfl)) ?_
        refine Jl.pv (PR.extract rfl (by rfl)) ?_
        refine Jl.pv (PR.extract rfl (by rfl)) ?_
        refine Jl.pv (PR.assign rfl) ?_
        refine Jl.pv (PR.assign rfl) ?_
        refine Jl.pv (PR.assign rfl) ?_
        refine Jl.nil ?_
        refine Jq.thenN ?_
        refine Jc.seq ?_
        refine Jc.seq ?_
        refine Jc.region ?_
        refine Jl.pv (PR.move rfl) ?_
        refine Jl.pv (PR.neq _ rfl rfl rfl) ?_
        refine Jl.nil ?_
        refine Jq.thenN ?_
        refine Jc.cond rfl (fun h3 => ?_) (fun h3 => ?_)
        · try replace h3 := of_decide_eq_true h3
          refine Jc.seq ?_
          refine Jc.region ?_
          refine Jl.pv (PR.move rfl) ?_
          refine Jl.pv (PR.assign rfl) ?_
          refine Jl.pv (PR.assign rfl) ?_
          refine Jl.pv (PR.assign rfl) ?_
          refine Jl.nil ?_
          refine Jq.thenN ?_
          refine Jc.ret ?_
          refine Jq.thenR ?_
          refine Jq.blkR ?_
          refine Jq.thenR ?_
          refine Jq.thenR ?_
          refine Jq.blkR ?_
          refine Jq.thenR ?_
          rw [hnx.bad (by omega)]
          refine Jq.nilRow 3 1 ?_
          refine Jq.fact0 (.rd none []) (fun X W => Fact.rd_nil none X W) ?_
          refine Jq.fact0 (.is (([] : List UInt8).length ≤ 0)) (fun _ _ => Nat.le_refl 0) ?_
          exact Jq.fin ((none, 0), (none, 0)) (.inl rfl) rfl (RetVs.tmp rfl (RetVs.tmp rfl (RetVs.tmp rfl RetVs.nil))) rfl (by repeat (first | exact Take.nil | apply Take.cons (by repeat (first | exact Del.here | apply Del.there)))) (by repeat (first | exact trivial | refine And.intro (by repeat (first | exact Mem.here | apply Mem.there)) ?_))
        · try replace h3 := of_decide_eq_false h3
          have he0 : (takeN r).2.2 = 0 := by omega
          rw [he0] at hnx
          refine Jc.skip ?_
          refine Jq.thenN ?_
          refine Jc.seq ?_
          refine Jc.region ?_
          refine Jl.pv (PR.move rfl) ?_
          refine Jl.pv (PR.move rfl) ?_
          refine Jl.buildSlice (by rfl) tsl41 tzr41_1 (by rfl) (by rfl) ?_
          intro b39
          refine Jl.seal (by repeat (first | exact Del.here | apply Del.there)) ?_
          refine Jl.append (l ++ [(takeN r).1]).length (natI (l ++ [(takeN r).1])) rfl rfl rfl tsl41 tze3 (by rfl) (by decide) tby3 (fun _ _ => (by repeat (first | exact Swap.here | apply Swap.there))) (by repeat (first | exact Mem.here | apply Mem.there)) (by simp) (by simp [natI]) rfl (by simp [Value.oneCell']) (by omega) (by decide) ?_
          intro A40 c40
          refine Jl.pv (PR.assign rfl) ?_
          refine Jl.nil ?_
          refine Jq.thenN ?_
          refine Jc.region ?_
          refine Jl.pv (PR.move rfl) ?_
          refine Jl.pv (PR.assign rfl) ?_
          refine Jl.nil ?_
          refine Jq.blkN ?_
          refine Jq.thenN ?_
          refine Jc.region ?_
          refine Jl.pv (PR.move rfl) ?_
          refine Jl.pv (PR.add ((l ++ [(takeN r).1]).length : Int) rfl rfl (by rw [w64 (by omega) (by omega)]; simp)) ?_
          refine Jl.pv (PR.assign rfl) ?_
          refine Jl.nil ?_
          refine Jq.again ⟨((l ++ [(takeN r).1], (takeN r).2.1), (A40, c40), (A30, c30)), hnx, hc30⟩ (by simp only [List.length_append, List.length_singleton]; omega) (by repeat (first | exact trivial | refine And.intro rfl ?_)) rfl (by repeat (first | exact trivial | refine And.intro (by repeat (first | exact Mem.here | apply Mem.there)) ?_))
      · try replace h2 := of_decide_eq_false h2
        refine Jc.exit ?_
        refine Jq.thenX ?_
        refine Jq.thenX ?_
        refine Jq.blkX ?_
        refine Jq.thenN ?_
        refine Jc.seq ?_
        refine Jc.region ?_
        refine Jl.pv (PR.move rfl) ?_
        refine Jl.pv (PR.move rfl) ?_
        refine Jl.pv (PR.assign rfl) ?_
        refine Jl.pv (PR.assign rfl) ?_
        refine Jl.pv (PR.assign rfl) ?_
        refine Jl.nil ?_
        refine Jq.thenN ?_
        refine Jc.ret ?_
        rw [hI.good (by omega)]
        refine Jq.fact0 (.is (r.length ≤ c2)) (fun _ _ => hcap) ?_
        exact Jq.fin ((A1, c1), (A2, c2)) (.inl rfl) rfl (RetVs.tmp rfl (RetVs.tmp rfl (RetVs.tmp rfl RetVs.nil))) rfl (by repeat (first | exact Take.nil | apply Take.cons (by repeat (first | exact Del.here | apply Del.there)))) (by repeat (first | exact trivial | refine And.intro (by repeat (first | exact Mem.here | apply Mem.there)) ?_))
end Go.Proofs.YtcohgnagffibcaaDoor
