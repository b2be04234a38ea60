/-
Plain facts on numbers put in bytes.
Conditions: none; no program in sight.
-/
import Derived.Test.YtljgaglbgkejhaaDoorMem
namespace Go.Proofs.YtljgaglbgkejhaaDoor
set_option linter.unusedVariables false

/-- How many digits by 128. -/
def dlen : Nat → Nat → Nat
  | 0, _ => 0
  | f + 1, n => if n < 128 then 1 else 1 + dlen f (n / 128)
/-- A number's bytes. -/
def digs : Nat → Nat → List UInt8
  | 0, _ => []
  | f + 1, n => if n < 128 then [UInt8.ofNat n] else UInt8.ofNat (n % 128 + 128) :: digs f (n / 128)
def fineN (n : Int) : Bool := decide (0 ≤ n ∧ n ≤ 1099511627776)
def longZ (n : Int) : Int := if fineN n then dlen 10 n.toNat else 0
def putB (n : Int) : List UInt8 := digs 10 n.toNat

theorem dlen_pos (f n : Nat) : 0 < dlen (f + 1) n := by unfold dlen; split <;> omega
theorem dlen_le : ∀ f n, dlen f n ≤ f
  | 0, n => by simp [dlen]
  | f + 1, n => by unfold dlen; have := dlen_le f (n / 128); split <;> omega
theorem digs_len : ∀ f n, (digs f n).length = dlen f n
  | 0, n => by simp [dlen, digs]
  | f + 1, n => by
    unfold dlen digs
    split
    · rfl
    · simp [digs_len f (n / 128)]; omega
theorem longZ_eq0 (n : Int) : longZ n = 0 ↔ fineN n = false := by
  unfold longZ
  split
  · rename_i h; have : 0 < dlen 10 n.toNat := dlen_pos 9 _; simp [h]; omega
  · rename_i h; simpa using h
/-- More fuel makes no difference. -/
theorem dlen_fuel : ∀ f g n, n < 128 ^ f → n < 128 ^ g → 0 < f → 0 < g → dlen f n = dlen g n
  | 0, g, n, h, h', h1, h2 => by omega
  | f + 1, 0, n, h, h', h1, h2 => by omega
  | f + 1, g + 1, n, h, h', h1, h2 => by
    unfold dlen
    split
    · rfl
    · rename_i hn
      have a1 : n / 128 < 128 ^ f := by rw [Nat.div_lt_iff_lt_mul (by omega)]; rw [Nat.pow_succ] at h; exact h
      have a2 : n / 128 < 128 ^ g := by rw [Nat.div_lt_iff_lt_mul (by omega)]; rw [Nat.pow_succ] at h'; exact h'
      have a3 : 0 < f := by
        rcases Nat.eq_zero_or_pos f with e | e
        · subst e; simp at a1; omega
        · exact e
      have a4 : 0 < g := by
        rcases Nat.eq_zero_or_pos g with e | e
        · subst e; simp at a2; omega
        · exact e
      rw [dlen_fuel f g _ a1 a2 a3 a4]

/-- What is taken: the number, the rest, how it went. -/
def takeZ : Nat → Nat → List UInt8 → Nat × List UInt8 × Nat
  | _, _, [] => (0, [], 10)
  | i, acc, b :: r =>
    if 128 ≤ b.toNat then (if i + 1 < 6 then takeZ (i + 1) (acc + b.toNat % 128 * 128 ^ i) r else (0, [], 11))
    else if (b.toNat = 0 ∧ 0 < i) ∨ 1099511627776 < acc + b.toNat % 128 * 128 ^ i then (0, [], 11)
    else (acc + b.toNat % 128 * 128 ^ i, r, 0)
def takeN (b : List UInt8) : Nat × List UInt8 × Nat := takeZ 0 0 b

theorem and127 (x : UInt8) : IntKind.u8.wrap ((BitVec.ofInt IntKind.u8.bits (x.toNat : Int) &&& BitVec.ofInt IntKind.u8.bits 127).toNat : Int) = ((x.toNat % 128 : Nat) : Int) := by
  have hx := x.toNat_lt
  have e : (BitVec.ofInt IntKind.u8.bits (x.toNat : Int) &&& BitVec.ofInt IntKind.u8.bits 127).toNat = x.toNat % 128 := by
    show (BitVec.ofInt 8 (x.toNat : Int) &&& BitVec.ofInt 8 127).toNat = _
    rw [BitVec.toNat_and, BitVec.ofInt_natCast, BitVec.toNat_ofNat, show (BitVec.ofInt 8 127).toNat = 2 ^ 7 - 1 from rfl, Nat.and_two_pow_sub_one_eq_mod]
    omega
  rw [e, IntKind.wrap_u8]
  omega
theorem or64 (a b : Nat) (ha : a < 9223372036854775808) (hb : b < 9223372036854775808) : IntKind.i64.wrap ((BitVec.ofInt IntKind.i64.bits (a : Int) ||| BitVec.ofInt IntKind.i64.bits (b : Int)).toNat : Int) = ((a ||| b : Nat) : Int) := by
  have hx : a ||| b < 2 ^ 63 := Nat.or_lt_two_pow (by omega) (by omega)
  have e : (BitVec.ofInt IntKind.i64.bits (a : Int) ||| BitVec.ofInt IntKind.i64.bits (b : Int)).toNat = a ||| b := by
    show (BitVec.ofInt 64 (a : Int) ||| BitVec.ofInt 64 (b : Int)).toNat = _
    rw [BitVec.toNat_or, BitVec.ofInt_natCast, BitVec.ofInt_natCast, BitVec.toNat_ofNat, BitVec.toNat_ofNat, Nat.mod_eq_of_lt (by omega), Nat.mod_eq_of_lt (by omega)]
  rw [e, IntKind.wrap_i64]
  omega
theorem or_add (a c k : Nat) (h : a < 2 ^ k) : a ||| c * 2 ^ k = a + c * 2 ^ k := by
  rw [Nat.or_comm, ← Nat.shiftLeft_eq, ← Nat.shiftLeft_add_eq_or_of_lt h, Nat.add_comm]

/-- How far Take has come. -/
structure TakeI (b : List UInt8) (i acc : Nat) : Prop where
  lt : i < 6
  le : i ≤ b.length
  small : acc < 128 ^ i
  eq : takeZ i acc (b.drop i) = takeN b
theorem TakeI.zero (b : List UInt8) : TakeI b 0 0 := ⟨by omega, Nat.zero_le _, by simp, by simp [takeN]⟩
theorem p128 (i : Nat) : 128 ^ i = 2 ^ (7 * i) := by rw [Nat.pow_mul]
theorem TakeI.bound {b : List UInt8} {i acc : Nat} (h : TakeI b i acc) : acc < 34359738368 ∧ 128 ^ i ≤ 34359738368 := by
  have h1 := h.small
  have h2 := h.lt
  have : 128 ^ i ≤ 128 ^ 5 := Nat.pow_le_pow_right (by omega) (by omega)
  constructor
  · calc acc < 128 ^ i := h1
      _ ≤ 128 ^ 5 := this
      _ = 34359738368 := by decide
  · calc 128 ^ i ≤ 128 ^ 5 := this
      _ = 34359738368 := by decide
theorem TakeI.next {b : List UInt8} {i acc : Nat} (h : TakeI b i acc) (hi : i < b.length) (hb : 128 ≤ b[i].toNat) (h5 : i + 1 < 6) : TakeI b (i + 1) (acc + b[i].toNat % 128 * 128 ^ i) := by
  refine ⟨h5, hi, ?_, ?_⟩
  · have h1 := h.small
    have h2 : b[i].toNat % 128 < 128 := Nat.mod_lt _ (by omega)
    have h3 : (b[i].toNat % 128 + 1) * 128 ^ i ≤ 128 * 128 ^ i := Nat.mul_le_mul_right _ (by omega)
    rw [Nat.pow_succ, Nat.mul_comm (128 ^ i)]
    rw [Nat.add_mul] at h3
    omega
  · rw [← h.eq]
    conv => rhs; rw [List.drop_eq_getElem_cons hi]
    simp only [takeZ]
    rw [if_pos hb, if_pos h5]
theorem TakeI.short {b : List UInt8} {i acc : Nat} (h : TakeI b i acc) (hi : i = b.length) : takeN b = (0, [], 10) := by
  rw [← h.eq, List.drop_of_length_le (by omega)]; rfl
theorem TakeI.bad {b : List UInt8} {i acc : Nat} (h : TakeI b i acc) (hi : i < b.length)
    (hb : (128 ≤ b[i].toNat ∧ ¬ i + 1 < 6) ∨ (b[i].toNat < 128 ∧ ((b[i].toNat = 0 ∧ 0 < i) ∨ 1099511627776 < acc + b[i].toNat % 128 * 128 ^ i))) : takeN b = (0, [], 11) := by
  rw [← h.eq, List.drop_eq_getElem_cons hi]
  simp only [takeZ]
  rcases hb with ⟨h1, h2⟩ | ⟨h1, h2⟩
  · rw [if_pos h1, if_neg h2]
  · rw [if_neg (by omega), if_pos h2]
theorem TakeI.good {b : List UInt8} {i acc : Nat} (h : TakeI b i acc) (hi : i < b.length) (h1 : b[i].toNat < 128) (h2 : ¬ (b[i].toNat = 0 ∧ 0 < i)) (h3 : acc + b[i].toNat % 128 * 128 ^ i ≤ 1099511627776) :
    takeN b = (acc + b[i].toNat % 128 * 128 ^ i, b.drop (i + 1), 0) := by
  rw [← h.eq, List.drop_eq_getElem_cons hi]
  simp only [takeZ]
  rw [if_neg (by omega), if_neg (by omega)]
/-- What the program reckons. -/
theorem take_shl {b : List UInt8} {i acc : Nat} (h : TakeI b i acc) (m : Nat) (hm : m < 128) : IntKind.i64.wrap ((m : Int) * 2 ^ (min (7 * (i : Int)).toNat IntKind.i64.bits)) = ((m * 2 ^ (7 * i) : Nat) : Int) := by
  have hb := h.bound
  have hl := h.lt
  rw [p128] at hb
  have e : min (7 * (i : Int)).toNat IntKind.i64.bits = 7 * i := by show min (7 * (i : Int)).toNat 64 = _; omega
  rw [e]
  have h2 : m * 2 ^ (7 * i) ≤ 127 * 34359738368 := Nat.mul_le_mul (by omega) hb.2
  have : ((m : Int) * 2 ^ (7 * i)) = ((m * 2 ^ (7 * i) : Nat) : Int) := by rw [Int.natCast_mul, Int.natCast_pow]; rfl
  rw [this, w64_ (by omega) (by omega)]
where w64_ {a : Int} (h1 : -9223372036854775808 ≤ a) (h2 : a ≤ 9223372036854775807) : IntKind.i64.wrap a = a := by rw [IntKind.wrap_i64]; omega
theorem take_or {b : List UInt8} {i acc : Nat} (h : TakeI b i acc) (m : Nat) (hm : m < 128) : IntKind.i64.wrap ((BitVec.ofInt IntKind.i64.bits (acc : Int) ||| BitVec.ofInt IntKind.i64.bits ((m * 2 ^ (7 * i) : Nat) : Int)).toNat : Int) = ((acc + m * 128 ^ i : Nat) : Int) := by
  have hb := h.bound
  rw [p128] at hb
  have h2 : m * 2 ^ (7 * i) ≤ 127 * 34359738368 := Nat.mul_le_mul (by omega) hb.2
  rw [or64 _ _ (by omega) (by omega), or_add _ _ _ (by rw [← p128]; exact h.small), p128]
theorem TakeI.big {b : List UInt8} {i acc : Nat} (h : TakeI b i acc) (m : Nat) (hm : m < 128) : acc + m * 128 ^ i ≤ 4432406249472 := by
  have hb := h.bound
  have h2 : m * 128 ^ i ≤ 127 * 34359738368 := Nat.mul_le_mul (by omega) hb.2
  omega
/-- The digits by place. -/
theorem dlen_last : ∀ f n k, n < 128 ^ f → k < dlen f n → (n / 128 ^ k < 128 ↔ k + 1 = dlen f n)
  | 0, n, k, _, h => by simp [dlen] at h
  | f + 1, n, k, hn, h => by
    unfold dlen at h ⊢
    split at h
    · rename_i h1
      obtain rfl : k = 0 := by omega
      simp [h1]
    · rename_i h1
      rw [if_neg h1]
      cases k with
      | zero =>
        have : 0 < dlen f (n / 128) := by
          cases f with
          | zero => simp at hn; omega
          | succ f => exact dlen_pos f _
        simp; omega
      | succ k =>
        have a1 : n / 128 < 128 ^ f := by rw [Nat.div_lt_iff_lt_mul (by omega)]; rw [Nat.pow_succ] at hn; exact hn
        have := dlen_last f (n / 128) k a1 (by omega)
        rw [Nat.pow_succ, Nat.mul_comm, ← Nat.div_div_eq_div_mul, this]
        omega
theorem dig_at : ∀ f n k, n < 128 ^ f → (h : k < (digs f n).length) → (digs f n)[k] = UInt8.ofNat (n / 128 ^ k % 128 + if n / 128 ^ k < 128 then 0 else 128)
  | 0, n, k, _, h => by simp [digs] at h
  | f + 1, n, k, hn, h => by
    by_cases h1 : n < 128
    · have e : digs (f + 1) n = [UInt8.ofNat n] := by unfold digs; rw [if_pos h1]
      simp only [e] at h ⊢
      obtain rfl : k = 0 := by simp at h; exact h
      show UInt8.ofNat n = _
      rw [Nat.pow_zero, Nat.div_one, if_pos h1, Nat.add_zero, Nat.mod_eq_of_lt h1]
    · have e : digs (f + 1) n = UInt8.ofNat (n % 128 + 128) :: digs f (n / 128) := by
        conv => lhs; unfold digs
        rw [if_neg h1]
      simp only [e] at h ⊢
      cases k with
      | zero => simp [h1]
      | succ k =>
        have a1 : n / 128 < 128 ^ f := by rw [Nat.div_lt_iff_lt_mul (by omega)]; rw [Nat.pow_succ] at hn; exact hn
        have := dig_at f (n / 128) k a1 (by simpa using h)
        rw [Nat.pow_succ, Nat.mul_comm, ← Nat.div_div_eq_div_mul]
        simpa using this
theorem dlen0 (n : Nat) : 0 < dlen 10 n := dlen_pos 9 n
theorem p128_10 (n : Nat) (hn : n ≤ 1099511627776) : n < 128 ^ 10 := Nat.lt_of_le_of_lt hn (by decide)
theorem andI127 (x : Nat) (hx : x < 9223372036854775808) : IntKind.i64.wrap ((BitVec.ofInt IntKind.i64.bits (x : Int) &&& BitVec.ofInt IntKind.i64.bits 127).toNat : Int) = ((x % 128 : Nat) : Int) := by
  have e : (BitVec.ofInt IntKind.i64.bits (x : Int) &&& BitVec.ofInt IntKind.i64.bits 127).toNat = x % 128 := by
    show (BitVec.ofInt 64 (x : Int) &&& BitVec.ofInt 64 127).toNat = _
    rw [BitVec.toNat_and, BitVec.ofInt_natCast, BitVec.toNat_ofNat, show (BitVec.ofInt 64 127).toNat = 2 ^ 7 - 1 from rfl, Nat.and_two_pow_sub_one_eq_mod]
    omega
  rw [e, IntKind.wrap_i64]
  omega
theorem orU128 (x : Nat) (hx : x < 128) : IntKind.u8.wrap ((BitVec.ofInt IntKind.u8.bits (x : Int) ||| BitVec.ofInt IntKind.u8.bits 128).toNat : Int) = ((x + 128 : Nat) : Int) := by
  have e : (BitVec.ofInt IntKind.u8.bits (x : Int) ||| BitVec.ofInt IntKind.u8.bits 128).toNat = x + 1 * 2 ^ 7 := by
    show (BitVec.ofInt 8 (x : Int) ||| BitVec.ofInt 8 128).toNat = _
    rw [BitVec.toNat_or, BitVec.ofInt_natCast, BitVec.toNat_ofNat, show (BitVec.ofInt 8 128).toNat = 1 * 2 ^ 7 from rfl, Nat.mod_eq_of_lt (by omega), or_add _ _ _ (by omega)]
  rw [e, IntKind.wrap_u8]
  omega
theorem div128 (n k : Nat) : n / 128 ^ k / 128 = n / 128 ^ (k + 1) := by rw [Nat.pow_succ, Nat.div_div_eq_div_mul]
/-- Put, Row, TakeRow. -/
def putN (n : Int) : List UInt8 := if fineN n then putB n else []
def putR (n : Int) : Int := if fineN n then 0 else 2
def rowsB (l : List Int) : List UInt8 := putB l.length ++ l.flatMap putB
def rowOk (l : List Int) : Bool := decide (l.length ≤ 40) && !l.any (fun n => !fineN n)
def rowN (l : List Int) : List UInt8 := if rowOk l then rowsB l else []
def rowR (l : List Int) : Int := if rowOk l then 0 else 2
theorem putB_len (n : Int) : (putB n).length ≤ 10 := by rw [putB, digs_len]; exact dlen_le _ _
theorem flat_len : ∀ l : List Int, (l.flatMap putB).length ≤ 10 * l.length
  | [] => by simp
  | n :: l => by have := flat_len l; have := putB_len n; simp only [List.flatMap_cons, List.length_append, List.length_cons]; omega
/-- Numbers taken one behind the other. -/
def takeM : Nat → List UInt8 → List Nat × List UInt8 × Nat
  | 0, b => ([], b, 0)
  | k + 1, b => if (takeN b).2.2 = 0 then (let (l, r, e) := takeM k (takeN b).2.1; if e = 0 then ((takeN b).1 :: l, r, 0) else ([], [], e)) else ([], [], (takeN b).2.2)
def takeRowN (b : List UInt8) : List Nat × List UInt8 × Nat :=
  if (takeN b).2.2 = 0 then (if 40 < (takeN b).1 then ([], [], 11) else takeM (takeN b).1 (takeN b).2.1) else ([], [], (takeN b).2.2)
theorem takeZ_len : ∀ (b : List UInt8) (i acc : Nat), (takeZ i acc b).2.1.length ≤ b.length
  | [], i, acc => by simp [takeZ]
  | b :: r, i, acc => by
    unfold takeZ
    split
    · split
      · have := takeZ_len r (i + 1) (acc + b.toNat % 128 * 128 ^ i); simp only [List.length_cons]; omega
      · simp
    · split <;> simp
theorem takeN_len (b : List UInt8) : (takeN b).2.1.length ≤ b.length := takeZ_len b 0 0
theorem takeZ_err : ∀ (b : List UInt8) (i acc : Nat), (takeZ i acc b).2.2 ≠ 0 → (takeZ i acc b).1 = 0 ∧ (takeZ i acc b).2.1 = [] ∧ ((takeZ i acc b).2.2 = 10 ∨ (takeZ i acc b).2.2 = 11)
  | [], i, acc => by simp [takeZ]
  | b :: r, i, acc => by
    unfold takeZ
    split
    · split
      · exact takeZ_err r (i + 1) (acc + b.toNat % 128 * 128 ^ i)
      · simp
    · split <;> simp
theorem takeN_err (b : List UInt8) (h : (takeN b).2.2 ≠ 0) : takeN b = (0, [], (takeN b).2.2) ∧ ((takeN b).2.2 = 10 ∨ (takeN b).2.2 = 11) := by
  have := takeZ_err b 0 0 h
  exact ⟨Prod.ext this.1 (Prod.ext this.2.1 rfl), this.2.2⟩
def ahead (l : List Nat) (t : List Nat × List UInt8 × Nat) : List Nat × List UInt8 × Nat := if t.2.2 = 0 then (l ++ t.1, t.2.1, 0) else ([], [], t.2.2)
/-- How far TakeRow has come. -/
structure TRowI (b : List UInt8) (n : Nat) (l : List Nat) (r : List UInt8) (e : Nat) : Prop where
  len : r.length ≤ b.length
  le : l.length ≤ n
  small : e = 0 → n ≤ 40
  code : e = 0 ∨ e = 10 ∨ e = 11
  eq : if e = 0 then ahead l (takeM (n - l.length) r) = takeRowN b else takeRowN b = ([], [], e)
theorem takeM_err : ∀ k r, (takeM k r).2.2 ≠ 0 → takeM k r = ([], [], (takeM k r).2.2)
  | 0, r, h => by simp [takeM] at h
  | k + 1, r, h => by
    simp only [takeM] at h ⊢
    split
    · rename_i h1
      rw [if_pos h1] at h
      split
      · rename_i h2; rw [if_pos h2] at h; simp at h
      · rfl
    · rfl
theorem TRowI.zero_ok {b : List UInt8} (h0 : (takeN b).2.2 = 0) (h40 : ¬ 40 < (takeN b).1) : TRowI b (takeN b).1 [] (takeN b).2.1 0 := by
  refine ⟨takeN_len b, Nat.zero_le _, fun h => by omega, .inl rfl, ?_⟩
  rw [if_pos rfl, takeRowN, if_pos h0, if_neg h40]
  simp only [ahead, List.nil_append, List.length_nil, Nat.sub_zero]
  split
  · rename_i h4; rw [← h4]
  · rename_i h4; exact (takeM_err _ _ h4).symm
theorem TRowI.zero_big {b : List UInt8} (h0 : (takeN b).2.2 = 0) (h40 : 40 < (takeN b).1) : TRowI b (takeN b).1 [] (takeN b).2.1 11 :=
  ⟨takeN_len b, Nat.zero_le _, fun h => by omega, .inr (.inr rfl), by rw [if_neg (by omega), takeRowN, if_pos h0, if_pos h40]⟩
theorem TRowI.zero_bad {b : List UInt8} (h0 : ¬ (takeN b).2.2 = 0) : TRowI b (takeN b).1 [] (takeN b).2.1 (takeN b).2.2 :=
  ⟨takeN_len b, Nat.zero_le _, fun h => absurd h h0, .inr (takeN_err b h0).2, by rw [if_neg h0, takeRowN, if_neg h0]⟩
theorem TRowI.next {b : List UInt8} {n : Nat} {l : List Nat} {r : List UInt8} (h : TRowI b n l r 0) (hl : l.length < n) : TRowI b n (l ++ [(takeN r).1]) (takeN r).2.1 (takeN r).2.2 := by
  refine ⟨Nat.le_trans (takeN_len r) h.len, by simp; omega, fun _ => h.small rfl, ?_, ?_⟩
  · by_cases h0 : (takeN r).2.2 = 0
    · exact .inl h0
    · exact .inr (takeN_err r h0).2
  · have he := h.eq
    obtain ⟨k, hk⟩ : ∃ k, n - l.length = k + 1 := ⟨n - l.length - 1, by omega⟩
    rw [if_pos rfl, hk] at he
    rw [← he]
    have hk' : n - (l ++ [(takeN r).1]).length = k := by simp; omega
    by_cases h0 : (takeN r).2.2 = 0
    · rw [if_pos h0, hk']
      simp only [takeM, if_pos h0, ahead]
      by_cases h1 : (takeM k (takeN r).2.1).2.2 = 0
      · simp [h1]
      · simp [h1]
    · rw [if_neg h0]
      simp only [takeM, if_neg h0, ahead]
theorem TRowI.bad {b : List UInt8} {n : Nat} {l : List Nat} {r : List UInt8} {e : Nat} (h : TRowI b n l r e) (he : e ≠ 0) : takeRowN b = ([], [], e) := by
  have := h.eq; rwa [if_neg he] at this
theorem TRowI.good {b : List UInt8} {n : Nat} {l : List Nat} {r : List UInt8} (h : TRowI b n l r 0) (hl : ¬ l.length < n) : takeRowN b = (l, r, 0) := by
  have := h.eq
  have hk : n - l.length = 0 := by omega
  rw [if_pos rfl, hk] at this
  rw [← this]
  simp [takeM, ahead]
theorem digs_pref : ∀ f a b, a < 128 ^ f → b < 128 ^ f → 0 < f → digs f a = (digs f b).take (digs f a).length → a = b
  | 0, _, _, _, _, h, _ => by omega
  | f + 1, a, b, ha, hb, _, h => by
    have a1 : a / 128 < 128 ^ f := by rw [Nat.div_lt_iff_lt_mul (by omega)]; rw [Nat.pow_succ] at ha; exact ha
    have a2 : b / 128 < 128 ^ f := by rw [Nat.div_lt_iff_lt_mul (by omega)]; rw [Nat.pow_succ] at hb; exact hb
    have hu : ∀ x y, x < 256 → y < 256 → UInt8.ofNat x = UInt8.ofNat y → x = y := fun x y hx hy h => by
      have := congrArg UInt8.toNat h
      simp only [UInt8.toNat_ofNat'] at this
      omega
    unfold digs at h
    by_cases h1 : a < 128 <;> by_cases h2 : b < 128
    · rw [if_pos h1, if_pos h2] at h
      simp only [List.length_cons, List.take_succ_cons, List.cons.injEq] at h
      exact hu _ _ (by omega) (by omega) h.1
    · rw [if_pos h1, if_neg h2] at h
      simp only [List.length_cons, List.take_succ_cons, List.cons.injEq] at h
      have := hu _ _ (by omega) (by omega) h.1
      omega
    · rw [if_neg h1, if_pos h2] at h
      simp only [List.length_cons, List.take_succ_cons, List.cons.injEq] at h
      have := hu _ _ (by omega) (by omega) h.1
      omega
    · rw [if_neg h1, if_neg h2] at h
      simp only [List.length_cons, List.take_succ_cons, List.cons.injEq] at h
      have e1 := hu _ _ (by omega) (by omega) h.1
      have e2 := digs_pref f (a / 128) (b / 128) a1 a2 (by
        rcases Nat.eq_zero_or_pos f with e | e
        · subst e; simp at a1; omega
        · exact e) h.2
      omega
theorem dlen_mono : ∀ f a b, a ≤ b → dlen f a ≤ dlen f b
  | 0, _, _, _ => by simp [dlen]
  | f + 1, a, b, h => by
    unfold dlen
    have := dlen_mono f (a / 128) (b / 128) (Nat.div_le_div_right h)
    split <;> split <;> omega
theorem dlen_up : ∀ f n, n < 128 ^ f → n < 128 ^ dlen f n
  | 0, n, h => by simpa [dlen] using h
  | f + 1, n, h => by
    unfold dlen
    split
    · simpa
    · have a1 : n / 128 < 128 ^ f := by rw [Nat.div_lt_iff_lt_mul (by omega)]; rw [Nat.pow_succ] at h; exact h
      have := dlen_up f (n / 128) a1
      rw [Nat.add_comm, Nat.pow_succ]
      exact (Nat.div_lt_iff_lt_mul (by omega)).1 this
theorem dlen_down : ∀ f n, 1 < dlen f n → 128 ^ (dlen f n - 1) ≤ n
  | 0, n, h => by simp [dlen] at h
  | f + 1, n, h => by
    unfold dlen at h ⊢
    split
    · rename_i h1; rw [if_pos h1] at h; omega
    · rename_i h1
      rw [if_neg h1] at h
      rw [Nat.add_comm, Nat.add_sub_cancel]
      by_cases h2 : 1 < dlen f (n / 128)
      · have := dlen_down f (n / 128) h2
        obtain ⟨k, hk⟩ : ∃ k, dlen f (n / 128) = k + 1 := ⟨dlen f (n / 128) - 1, by omega⟩
        rw [hk, Nat.add_sub_cancel] at this
        rw [hk, Nat.pow_succ]
        exact (Nat.le_div_iff_mul_le (by omega)).1 this
      · have : dlen f (n / 128) = 1 := by omega
        rw [this]; omega
theorem dlen6 (n : Nat) (h : n ≤ 1099511627776) : dlen 10 n ≤ 6 := by
  rcases Nat.lt_or_ge 6 (dlen 10 n) with h1 | h1
  · have := dlen_down 10 n (by omega)
    have h2 : 128 ^ 6 ≤ 128 ^ (dlen 10 n - 1) := Nat.pow_le_pow_right (by omega) (by omega)
    have h3 : (128 : Nat) ^ 6 = 4398046511104 := by decide
    omega
  · exact h1
theorem putB_pref {a b : Int} (ha : fineN a = true) (hb : fineN b = true) : putB a = (putB b).take (putB a).length ↔ a = b := by
  simp [fineN] at ha hb
  refine ⟨fun h => ?_, fun h => by subst h; simp⟩
  have := digs_pref 10 a.toNat b.toNat (p128_10 _ (by omega)) (p128_10 _ (by omega)) (by omega) h
  omega
theorem putB_mono {a b : Int} (ha : 0 ≤ a) (h : a ≤ b) : (putB a).length ≤ (putB b).length := by
  rw [putB, putB, digs_len, digs_len]; exact dlen_mono _ _ _ (by omega)
theorem longZ_len {a : Int} (h : fineN a = true) : longZ a = (putB a).length := by rw [longZ, if_pos h, putB, digs_len]
end Go.Proofs.YtljgaglbgkejhaaDoor
