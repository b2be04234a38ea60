/-
A rule for a region that draws its order, whose head only reads, calls and makes memory, and whose tail is in order: the head is walked in the order of the text, each operation in whatever world has grown; its result is a value, or is said by a predicate.
Conditions: none; no program in sight.
-/
import Derived.Test.YtcppphgpbaablaaGreatDoorMem
import Derived.StillTail
namespace Go.Proofs.YtcppphgpbaablaaGreatDoor.Dr
set_option linter.unusedVariables false
open Go.RowKit

/-- How a head operation ends. -/
def hpost (df : List Deferred) (d : Tmp) (post : Value → World → Prop) : Exit → Act → World → Prop
  | .normal, a, w => post (a.tmps.getD d undef) w ∧ a.defers = df
  | _, _, _ => False

/-- What an operation waits for. -/
def needs (o : Oper) : List Nat := o.after.toList.filterMap fun e => if Region.binds .any e then some e.on else none

/-- What is said of a head operation's result: it is this value; or the predicate. -/
abbrev Ph := Value ⊕ ((Value → Prop) × (Value → World → Prop))
def phi : Ph → Value → World → Prop
  | .inl x, u, _ => u = x
  | .inr φ, u, W => φ.1 u ∧ φ.2 u W
def phNd (Φs : List Ph) (vs : List Value) (W : World) : List Nat → Prop
  | [] => True
  | j :: js => (match Φs[j]? with | some (.inr φ) => (φ.1 (vs.getD j undef) ∧ φ.2 (vs.getD j undef) W) ∧ phNd Φs vs W js | _ => phNd Φs vs W js)

def detP (x : Value) (W : World) (u : Value) (W' : World) : Prop := u = x ∧ Below W.heap.size W W'
def ndP (φ : Value → World → Prop) (al : List Nat) (i : Nat) (W : World) (u : Value) (W' : World) : Prop :=
  φ u W' ∧ Below W.heap.size W W' ∧ (i ∈ al → u = .pointer (some ⟨W.heap.size, 0, none⟩) ∧ W.heap.size < W'.heap.size)

section
variable (P : Program) (ops : Array Oper) (Q : Exit → Act → World → Prop) (tail : List Oper) (w : World) (al : List Nat) (all : List Ph)

/-- The head's walk, in the order of the text. -/
def RG : List Oper → List Ph → Nat → List Value → Act → Prop
  | [], _, i, vs, a => ∀ W, Below w.heap.size w W → phNd all vs W (List.range i) →
      (∀ i j, i ∈ al → j ∈ al → i ≠ j → vs.getD i undef ≠ vs.getD j undef) → wpList P ops Q tail a W
  | o :: rest, .inl x :: Φs, i, vs, a => (∀ W, Below w.heap.size w W → phNd all vs W (needs o) →
      wpList P ops (hpost a.defers (o.dst.getD 0) (detP x W)) [o] a W) ∧ RG rest Φs (i + 1) (vs ++ [x]) (a.put o.dst x)
  | o :: rest, .inr φ :: Φs, i, vs, a => (∀ W, Below w.heap.size w W → phNd all vs W (needs o) →
      wpList P ops (hpost a.defers (o.dst.getD 0) (ndP (fun u W' => φ.1 u ∧ φ.2 u W') al i W)) [o] a W) ∧
      ∀ u, φ.1 u → RG rest Φs (i + 1) (vs ++ [u]) (a.put o.dst u)
  | _ :: _, [], _, _, _ => False
end

def dstAt (ops : Array Oper) (i : Nat) : Option Tmp := (ops[i]?).bind (·.dst)
def headDone (N n : Nat) : Array Bool := Array.ofFn (n := N) fun i => decide (i.val < n)

/-- An operation that hangs on nothing but its operand: it may stand anywhere. -/
def isFloat (o : Oper) : Bool := o.guard.isNone && match o.op with | .extract .. => true | _ => false

/-- The region has that form. -/
def regOk (ops : Array Oper) (n : Nat) (size : Nat) : Bool :=
  Region.noSelect ops && decide (n ≤ ops.size) && Region.seqB .any ops (ops.size - n) n (headDone ops.size n) &&
  (List.range n).all (fun i => match ops[i]? with
    | none => false
    | some o => (match o.dst with | none => false | some d => decide (d < size) && (List.range n).all fun j => j == i || dstAt ops j != some d) &&
        (needs o).all (· < i) &&
        (o.looksAt ops).all (fun t => (List.range n).all fun j => dstAt ops j != some t || (needs o).contains j) &&
        (if isFloat o then (List.range ops.size).all fun j => j == i || (needs o).contains j || match ops[j]? with | some o' => (needs o').contains i || o.apart ops o' | none => true
         else n == ops.size || (List.range' (i + 1) (n - i)).any fun m => match ops[m]? with | some o' => (needs o').contains i && (m == n || !isFloat o') | none => false)) &&
  (List.range' (n + 1) (ops.size - (n + 1))).all (fun k => match ops[k]? with | none => true | some o => (needs o).contains (k - 1))

/-- The frame when the first i operations have run, in the order of the text. -/
def tx (ops : Array Oper) (v : Nat → Value) : Nat → Act → Act
  | 0, a => a
  | i + 1, a => (tx ops v i a).put (dstAt ops i) (v i)

section
variable {P : Program} {ops : Array Oper} {Q : Exit → Act → World → Prop} {tail : List Oper} {w : World} {al : List Nat} {all : List Ph} {a : Act}

theorem put_size (a : Act) (d : Option Tmp) (v : Value) : (a.put d v).tmps.size = a.tmps.size := by cases d <;> simp [Act.put]
theorem put_defers' (a : Act) (d : Option Tmp) (v : Value) : (a.put d v).defers = a.defers := by cases d <;> rfl
theorem put_at (a : Act) (d : Tmp) (v : Value) (hd : d < a.tmps.size) : (a.put (some d) v).tmps[d]? = some v := by simp [Act.put, hd]
theorem put_ne (a : Act) (d : Option Tmp) (v : Value) (t : Nat) (h : d ≠ some t) : (a.put d v).tmps[t]? = a.tmps[t]? := by
  cases d with
  | none => rfl
  | some d => simp [Act.put, Array.getElem?_setIfInBounds_ne (show d ≠ t from fun e => h (by rw [e]))]

theorem tx_size (v : Nat → Value) : ∀ i, (tx ops v i a).tmps.size = a.tmps.size
  | 0 => rfl
  | i + 1 => by simp only [tx, put_size]; exact tx_size v i
theorem tx_defers (v : Nat → Value) : ∀ i, (tx ops v i a).defers = a.defers
  | 0 => rfl
  | i + 1 => by simp only [tx, put_defers']; exact tx_defers v i
theorem tx_none (v : Nat → Value) (t : Nat) : ∀ i, (∀ j, j < i → dstAt ops j ≠ some t) → (tx ops v i a).tmps[t]? = a.tmps[t]?
  | 0, _ => rfl
  | i + 1, h => by
    simp only [tx]
    rw [put_ne _ _ _ _ (h i (by omega))]
    exact tx_none v t i fun j hj => h j (by omega)
theorem tx_some (v : Nat → Value) (t j : Nat) (ht : t < a.tmps.size) (hj : dstAt ops j = some t) : ∀ i, j < i → (∀ k, k < i → k ≠ j → dstAt ops k ≠ some t) → (tx ops v i a).tmps[t]? = some (v j)
  | 0, h, _ => by omega
  | i + 1, h, hu => by
    simp only [tx]
    by_cases e : i = j
    · subst e; rw [hj]; exact put_at _ _ _ (by rw [tx_size]; exact ht)
    · rw [put_ne _ _ _ _ (hu i (by omega) e)]
      exact tx_some v t j ht hj i (by omega) fun k hk => hu k (by omega)

theorem phNd_of {vs : List Value} {W : World} : ∀ js : List Nat, (∀ j ∈ js, ∀ φ, all[j]? = some (.inr φ) → φ.1 (vs.getD j undef) ∧ φ.2 (vs.getD j undef) W) → phNd all vs W js
  | [], _ => trivial
  | j :: js, h => by
    have ih := phNd_of js fun k hk => h k (by simp [hk])
    unfold phNd
    split
    · rename_i φ hφ; exact ⟨h j (by simp) φ hφ, ih⟩
    · exact ih

/-- One step of the head, and its end, whatever the results. -/
def stepAt (P : Program) (ops : Array Oper) (w : World) (al : List Nat) (all : List Ph) (a : Act) (v : Nat → Value) (k : Nat) : Prop :=
  ∃ o ph, ops[k]? = some o ∧ all[k]? = some ph ∧ ∀ W, Below w.heap.size w W → phNd all ((List.range k).map v) W (needs o) →
    wpList P ops (hpost (tx ops v k a).defers (o.dst.getD 0) fun u W' => phi ph u W' ∧ Below W.heap.size W W' ∧ (ph.isRight = true → k ∈ al → u = .pointer (some ⟨W.heap.size, 0, none⟩) ∧ W.heap.size < W'.heap.size)) [o] (tx ops v k a) W
def finAt (P : Program) (ops : Array Oper) (Q : Exit → Act → World → Prop) (tail : List Oper) (w : World) (al : List Nat) (all : List Ph) (a : Act) (v : Nat → Value) (n : Nat) : Prop :=
  ∀ W, Below w.heap.size w W → phNd all ((List.range n).map v) W (List.range n) →
    (∀ i j, i ∈ al → j ∈ al → i ≠ j → ((List.range n).map v).getD i undef ≠ ((List.range n).map v).getD j undef) → wpList P ops Q tail (tx ops v n a) W

theorem hpost_mono {df : List Deferred} {d : Tmp} {p q : Value → World → Prop} (h : ∀ u W, p u W → q u W) : ∀ e a W, hpost df d p e a W → hpost df d q e a W
  | .normal, _, _, hp => ⟨h _ _ hp.1, hp.2⟩
  | .exit _, _, _, hp => hp
  | .goto _, _, _, hp => hp
  | .ret, _, _, hp => hp
  | .panic _, _, _, hp => hp
  | .outgrown, _, _, hp => hp

/-- What a step of one operation comes to. -/
theorem one_iff {o : Oper} {Q' : Exit → Act → World → Prop} {a : Act} {W : World} : wpList P ops Q' [o] a W ↔
    (if Region.wanted o (yielded ops a.tmps) then o.wp P a W (fun a W => Q' .normal a W) Q' ∨ (o.asks P a W ∧ LetsOut Q') else Q' .normal (a.put o.dst undef) W) := by
  unfold wpList
  split <;> rfl

theorem one_mono {o : Oper} {df : List Deferred} {d : Tmp} {p q : Value → World → Prop} {a : Act} {W : World} (h : ∀ u W, p u W → q u W) (hp : wpList P ops (hpost df d p) [o] a W) : wpList P ops (hpost df d q) [o] a W := by
  rw [one_iff] at hp ⊢
  split
  · rename_i hw
    rw [if_pos hw] at hp
    rcases hp with hp | ⟨_, _, _, hp⟩
    · left
      unfold Oper.wp at hp ⊢
      generalize (execOp a.eval o).run P W = r at *
      cases r with
      | ok n w' =>
        cases n <;> simp only [Oper.upon] at hp ⊢ <;>
          first
            | exact ⟨h _ _ hp.1, hp.2⟩
            | exact Calls.mono hp (fun e w'' he => by
                cases e with
                | returned v => exact ⟨h _ _ he.1, he.2⟩
                | panicked c => exact he
                | outgrown => obtain ⟨_, _, he⟩ := he; exact (show False from he).elim)
            | exact Rows.mono hp (fun _ _ he => ⟨h _ _ he.1, he.2⟩)
      | halt x w' => cases x <;> simp only [Oper.upon] at hp ⊢ <;> exact hp
    · exact (show False from hp).elim
  · rename_i hw
    rw [if_neg hw] at hp
    exact ⟨h _ _ hp.1, hp.2⟩

theorem rg_flat (v : Nat → Value) (hv : ∀ j x, all[j]? = some (.inl x) → v j = x) (hv2 : ∀ (j : Nat) (φ : (Value → Prop) × (Value → World → Prop)), all[j]? = some (.inr φ) → φ.1 (v j)) : ∀ (l : List Oper) (Φs : List Ph) (i : Nat), (∀ j, j < l.length → l[j]? = ops[i + j]?) → (∀ j, Φs[j]? = all[i + j]?) →
    RG P ops Q tail w al all l Φs i ((List.range i).map v) (tx ops v i a) →
    (∀ k, i ≤ k → k < i + l.length → stepAt P ops w al all a v k) ∧ finAt P ops Q tail w al all a v (i + l.length)
  | [], Φs, i, hl, hΦ, h => ⟨fun k h1 h2 => by simp at h2; omega, by simpa [RG, finAt] using h⟩
  | o :: l, [], i, hl, hΦ, h => h.elim
  | o :: l, .inl x :: Φs, i, hl, hΦ, h => by
    have ho : ops[i]? = some o := by simpa using (hl 0 (by simp)).symm
    have hp : all[i]? = some (.inl x) := by simpa using (hΦ 0).symm
    have hvx := hv i x hp
    have hr := h.2
    rw [show (List.range i).map v ++ [x] = (List.range (i + 1)).map v by rw [List.range_succ, List.map_append]; simp [hvx],
      show (tx ops v i a).put o.dst x = tx ops v (i + 1) a by simp [tx, dstAt, ho, hvx]] at hr
    obtain ⟨h1, h2⟩ := rg_flat v hv hv2 l Φs (i + 1) (fun j hj => by have := hl (j + 1) (by simp; omega); simpa [Nat.add_assoc, Nat.add_comm 1 j] using this)
      (fun j => by have := hΦ (j + 1); simpa [Nat.add_assoc, Nat.add_comm 1 j] using this) hr
    refine ⟨fun k hk1 hk2 => ?_, by simpa [Nat.add_assoc, Nat.add_comm 1] using h2⟩
    by_cases e : k = i
    · subst e
      exact ⟨o, .inl x, ho, hp, fun W hb hn => one_mono (fun u W' hu => ⟨hu.1, hu.2, fun he => by simp at he⟩) (h.1 W hb hn)⟩
    · exact h1 k (by omega) (by simp at hk2; omega)
  | o :: l, .inr φ :: Φs, i, hl, hΦ, h => by
    have ho : ops[i]? = some o := by simpa using (hl 0 (by simp)).symm
    have hp : all[i]? = some (.inr φ) := by simpa using (hΦ 0).symm
    have hr := h.2 (v i) (hv2 i φ hp)
    rw [show (List.range i).map v ++ [v i] = (List.range (i + 1)).map v by rw [List.range_succ, List.map_append]; simp,
      show (tx ops v i a).put o.dst (v i) = tx ops v (i + 1) a by simp [tx, dstAt, ho]] at hr
    obtain ⟨h1, h2⟩ := rg_flat v hv hv2 l Φs (i + 1) (fun j hj => by have := hl (j + 1) (by simp; omega); simpa [Nat.add_assoc, Nat.add_comm 1 j] using this)
      (fun j => by have := hΦ (j + 1); simpa [Nat.add_assoc, Nat.add_comm 1 j] using this) hr
    refine ⟨fun k hk1 hk2 => ?_, by simpa [Nat.add_assoc, Nat.add_comm 1] using h2⟩
    by_cases e : k = i
    · subst e
      exact ⟨o, .inr φ, ho, hp, fun W hb hn => one_mono (fun u W' hu => ⟨hu.1, hu.2.1, fun _ => hu.2.2⟩) (h.1 W hb hn)⟩
    · exact h1 k (by omega) (by simp at hk2; omega)

theorem head_transfer {o : Oper} {d : Tmp} {post : Value → World → Prop} {a a' : Act} {W : World} {i : Nat} (ho : ops[i]? = some o) (hs : ∀ cs b, o.op ≠ .select cs b) (hd : o.dst = some d)
    (hda : d < a.tmps.size) (hdf : a'.defers = a.defers) (hops : ∀ x ∈ o.op.operands, a'.eval x = a.eval x)
    (hw : Region.wanted o (yielded ops a'.tmps) = Region.wanted o (yielded ops a.tmps)) (h : wpList P ops (hpost a.defers d post) [o] a W) {K : Act → World → Prop}
    (hK : ∀ u W', post u W' → K (a'.put (some d) u) W') : wpOp P ops Q i K a' W := by
  rw [one_iff] at h
  unfold wpOp
  simp only [ho]
  rw [hw]
  have hget : ∀ u, (a.put o.dst u).tmps.getD d undef = u := fun u => by
    rw [hd, Array.getD_eq_getD_getElem?, put_at _ _ _ hda]; rfl
  rw [← hd] at hK
  split
  · rename_i hwant
    rw [if_pos hwant] at h
    rcases h with h | ⟨_, _, _, h⟩
    case inr => exact (show False from h).elim
    left
    unfold Oper.wp at h ⊢
    rw [execOp_congr o hs hops]
    generalize (execOp a.eval o).run P W = r at *
    cases r with
    | ok n w' =>
      cases n <;> simp only [Oper.upon] at h ⊢
      case value u => have h1 := h.1; rw [hget] at h1; exact hK u _ h1
      case skip => have h1 := h.1; rw [hget] at h1; exact hK _ _ h1
      case defer df =>
        have h2 := h.2
        rw [put_defers'] at h2
        exact absurd h2 (by simp)
      case enter f args =>
        exact Calls.mono h (fun e w'' he => by
          cases e with
          | returned u => have h1 := he.1; rw [hget] at h1; exact hK u _ h1
          | panicked c => exact (show False from he).elim
          | outgrown => obtain ⟨_, _, he⟩ := he; exact (show False from he).elim)
      case row row args => exact Rows.mono h (fun u _ he => by have h1 := he.1; rw [hget] at h1; exact hK u _ h1)
    | halt x w' => cases x <;> simp only [Oper.upon] at h ⊢ <;> exact (show False from h).elim
  · rename_i hwant
    rw [if_neg hwant] at h
    have h1 := h.1
    rw [hget] at h1
    exact hK _ _ h1

structure RegOk (ops : Array Oper) (n size : Nat) : Prop where
  sel : Region.noSelect ops = true
  le : n ≤ ops.size
  seq : Region.seqB .any ops (ops.size - n) n (headDone ops.size n) = true
  head : ∀ i, i < n → ∃ o d, ops[i]? = some o ∧ o.dst = some d ∧ d < size ∧ (∀ j, j < n → j ≠ i → dstAt ops j ≠ some d) ∧ (∀ j ∈ needs o, j < i) ∧
    (∀ t ∈ o.looksAt ops, ∀ j, j < n → dstAt ops j = some t → j ∈ needs o) ∧ (if isFloat o then ∀ j o', ops[j]? = some o' → j ≠ i → j ∉ needs o → i ∉ needs o' → o.apart ops o' = true
      else n = ops.size ∨ ∃ m o', i < m ∧ m ≤ n ∧ ops[m]? = some o' ∧ i ∈ needs o' ∧ (m = n ∨ isFloat o' = false))
  tail : ∀ k o, n < k → ops[k]? = some o → k - 1 ∈ needs o

theorem regOk_spec {n size : Nat} (h : regOk ops n size = true) : RegOk ops n size := by
  simp only [regOk, Bool.and_eq_true, decide_eq_true_eq] at h
  obtain ⟨⟨⟨⟨h1, h2⟩, h3⟩, h4⟩, h5⟩ := h
  refine ⟨h1, h2, h3, fun i hi => ?_, fun k o hk ho => ?_⟩
  · have hh := List.all_eq_true.1 h4 i (List.mem_range.2 hi)
    cases ho : ops[i]? with
    | none => rw [ho] at hh; simp at hh
    | some o =>
      rw [ho] at hh
      simp only [Bool.and_eq_true] at hh
      obtain ⟨⟨⟨ha, hb⟩, hc⟩, hd⟩ := hh
      cases hdst : o.dst with
      | none => rw [hdst] at ha; simp at ha
      | some d =>
        rw [hdst] at ha
        simp only [Bool.and_eq_true, decide_eq_true_eq, List.all_eq_true, List.mem_range, Bool.or_eq_true, beq_iff_eq, bne_iff_ne] at ha
        refine ⟨o, d, rfl, hdst, ha.1, fun j hj hne => (ha.2 j hj).resolve_left hne, fun j hj => by simpa using List.all_eq_true.1 hb j hj, fun t ht j hj he => ?_, ?_⟩
        · have := List.all_eq_true.1 (List.all_eq_true.1 hc t ht) j (List.mem_range.2 hj)
          simpa [he] using this
        · by_cases hfl : isFloat o = true
          · rw [if_pos hfl] at hd ⊢
            intro j o' ho' hne hjn hin
            have hjs := (Array.getElem?_eq_some_iff.1 ho').1
            have := List.all_eq_true.1 hd j (List.mem_range.2 hjs)
            rw [ho'] at this
            simp only [Bool.or_eq_true, beq_iff_eq, List.contains_iff_mem] at this
            rcases this with (h | h) | h | h
            · exact absurd h hne
            · exact absurd h hjn
            · exact absurd h hin
            · exact h
          · rw [if_neg hfl] at hd ⊢
            simp only [Bool.or_eq_true, beq_iff_eq] at hd
            rcases hd with hd | hd
            · exact .inl hd
            · right
              obtain ⟨m, hm, hm'⟩ := List.any_eq_true.1 hd
              rw [List.mem_range'_1] at hm
              cases ho' : ops[m]? with
              | none => rw [ho'] at hm'; simp at hm'
              | some o' =>
                rw [ho'] at hm'
                simp only [Bool.and_eq_true, Bool.or_eq_true, beq_iff_eq, Bool.not_eq_true', List.contains_iff_mem] at hm'
                exact ⟨m, o', by omega, by omega, ho', hm'.1, hm'.2⟩
  · have hk' := (Array.getElem?_eq_some_iff.1 ho).1
    have := List.all_eq_true.1 h5 k (by rw [List.mem_range'_1]; omega)
    rw [ho] at this
    simpa using this

theorem mem_needs {o : Oper} {j : Nat} : j ∈ needs o ↔ ∃ e ∈ o.after, Region.binds .any e = true ∧ e.on = j := by
  unfold needs
  simp only [List.mem_filterMap, Array.mem_toList_iff]
  constructor
  · rintro ⟨e, he, h⟩
    split at h
    · rename_i hb; exact ⟨e, he, hb, by simpa using h⟩
    · cases h
  · rintro ⟨e, he, hb, rfl⟩
    exact ⟨e, he, by simp [hb]⟩

theorem ready_iff {listed : Array Bool} {j : Nat} : j ∈ Region.ready .any ops listed ↔ listed.getD j true = false ∧ ∃ o, ops[j]? = some o ∧ ∀ k ∈ needs o, listed.getD k false = true := by
  rw [mem_ready]
  refine and_congr_right fun _ => ⟨fun ⟨o, ho, h⟩ => ⟨o, ho, fun k hk => ?_⟩, fun ⟨o, ho, h⟩ => ⟨o, ho, fun e he hb => h e.on (mem_needs.2 ⟨e, he, hb, rfl⟩)⟩⟩
  obtain ⟨e, he, hb, rfl⟩ := mem_needs.1 hk
  exact h e he hb

/-- What holds while the head runs. -/
structure HeadAt (ops : Array Oper) (n : Nat) (w : World) (al : List Nat) (all : List Ph) (a : Act) (rem : List Nat) (listed : Array Bool) (a' : Act) (W : World) (v : Nat → Value) : Prop where
  size : listed.size = ops.size
  rems : ∀ j, j < n → (listed.getD j false = false ↔ j ∈ rem)
  nodup : rem.Nodup
  lt : ∀ j ∈ rem, j < n
  tails : ∀ k, n ≤ k → listed.getD k false = false
  closed : ∀ j o, j < n → listed.getD j false = true → ops[j]? = some o → ∀ e ∈ needs o, listed.getD e false = true
  defers : a'.defers = a.defers
  tmps : a'.tmps.size = a.tmps.size
  put : ∀ t j, j < n → dstAt ops j = some t → listed.getD j false = true → a'.tmps[t]? = some (v j)
  old : ∀ t, (∀ j, j < n → dstAt ops j = some t → listed.getD j false = false) → a'.tmps[t]? = a.tmps[t]?
  below : Below w.heap.size w W
  says : ∀ j ph, j < n → listed.getD j false = true → all[j]? = some ph → phi ph (v j) W
  vals : ∀ j x, all[j]? = some (.inl x) → v j = x
  rng : ∀ (j : Nat) (φ : (Value → Prop) × (Value → World → Prop)), all[j]? = some (.inr φ) → φ.1 (v j)
  allocs : ∀ j, j ∈ al → j < n → listed.getD j false = true → ∃ b, v j = .pointer (some ⟨b, 0, none⟩) ∧ b < W.heap.size
  apart : ∀ i j, i ∈ al → j ∈ al → i ≠ j → i < n → j < n → listed.getD i false = true → listed.getD j false = true → v i ≠ v j

theorem getD_ft {listed : Array Bool} {j : Nat} (h : listed.getD j true = false) : listed.getD j false = false := by
  rw [Array.getD_eq_getD_getElem?] at h ⊢
  cases hj : listed[j]? with
  | none => rw [hj] at h; cases h
  | some b => rw [hj] at h; exact h
theorem getD_tf {listed : Array Bool} {j : Nat} (hj : j < listed.size) (h : listed.getD j false = false) : listed.getD j true = false := by
  rw [Array.getD_eq_getD_getElem?] at h ⊢
  rw [Array.getElem?_eq_getElem hj] at h ⊢
  exact h
theorem getD_setT {listed : Array Bool} {i : Nat} (hi : i < listed.size) : (listed.setIfInBounds i true).getD i false = true := by
  rw [Array.getD_eq_getD_getElem?, Array.getElem?_setIfInBounds_self_of_lt hi]; rfl
theorem getD_setN {listed : Array Bool} {i j : Nat} (d : Bool) (h : i ≠ j) : (listed.setIfInBounds i true).getD j d = listed.getD j d := getD_set_ne d h

theorem range_map_getD (v : Nat → Value) (k j : Nat) (h : j < k) : ((List.range k).map v).getD j undef = v j := by
  rw [List.getD_eq_getElem?_getD, List.getElem?_map, List.getElem?_range h]; rfl

theorem tx_agrees {n : Nat} (hr : RegOk ops n a.tmps.size) {rem : List Nat} {listed : Array Bool} {a' : Act} {W : World} {v : Nat → Value} (inv : HeadAt ops n w al all a rem listed a' W v)
    {i : Nat} {o : Oper} (hi : i < n) (ho : ops[i]? = some o) (hl : ∀ k ∈ needs o, listed.getD k false = true) : ∀ t ∈ o.looksAt ops, a'.tmps[t]? = (tx ops v i a).tmps[t]? := by
  intro t ht
  obtain ⟨o', d, ho', hd, _, hu, hlt, hlook, _⟩ := hr.head i hi
  rw [ho] at ho'; cases ho'
  by_cases hex : ∃ j, j < n ∧ dstAt ops j = some t
  · obtain ⟨j, hj, hjt⟩ := hex
    have hjn := hlook t ht j hj hjt
    have hji := hlt j hjn
    obtain ⟨oj, dj, hoj, hdj, hdl, huj, _⟩ := hr.head j hj
    have e : dj = t := by have : dstAt ops j = some dj := by simp [dstAt, hoj, hdj]
                          rw [hjt] at this; exact (Option.some.inj this).symm
    subst e
    rw [inv.put dj j hj hjt (hl j hjn)]
    exact (tx_some v dj j hdl hjt i hji (fun k hk hne => huj k (by omega) hne)).symm
  · have hno : ∀ j, j < n → dstAt ops j ≠ some t := fun j hj e => hex ⟨j, hj, e⟩
    rw [inv.old t (fun j hj e => absurd e (hno j hj))]
    exact (tx_none v t i fun j hj => hno j (by omega)).symm

theorem exists_least : ∀ l : List Nat, l ≠ [] → ∃ j ∈ l, ∀ k ∈ l, j ≤ k
  | [], h => absurd rfl h
  | [x], _ => ⟨x, by simp, fun k hk => by simp at hk; omega⟩
  | x :: y :: l, _ => by
    obtain ⟨j, hj, hm⟩ := exists_least (y :: l) (by simp)
    by_cases h : x ≤ j
    · exact ⟨x, by simp, fun k hk => by
        rcases List.mem_cons.1 hk with rfl | hk
        · exact Nat.le_refl _
        · have := hm k hk; omega⟩
    · exact ⟨j, List.mem_cons_of_mem _ hj, fun k hk => by
        rcases List.mem_cons.1 hk with rfl | hk
        · omega
        · exact hm k hk⟩
theorem exists_most : ∀ l : List Nat, l ≠ [] → ∃ j ∈ l, ∀ k ∈ l, k ≤ j
  | [], h => absurd rfl h
  | [x], _ => ⟨x, by simp, fun k hk => by simp at hk; omega⟩
  | x :: y :: l, _ => by
    obtain ⟨j, hj, hm⟩ := exists_most (y :: l) (by simp)
    by_cases h : j ≤ x
    · exact ⟨x, by simp, fun k hk => by
        rcases List.mem_cons.1 hk with rfl | hk
        · exact Nat.le_refl _
        · have := hm k hk; omega⟩
    · exact ⟨j, List.mem_cons_of_mem _ hj, fun k hk => by
        rcases List.mem_cons.1 hk with rfl | hk
        · omega
        · exact hm k hk⟩

theorem act_ext {a b : Act} (h1 : a.tmps = b.tmps) (h2 : a.defers = b.defers) : a = b := by
  cases a; cases b; cases h1; cases h2; rfl

theorem wanted_slots {a b : Act} {o : Oper} (h : ∀ t ∈ o.looksAt ops, a.tmps[t]? = b.tmps[t]?) : Region.wanted o (yielded ops a.tmps) = Region.wanted o (yielded ops b.tmps) := by
  unfold Region.wanted
  cases hg : o.guard with
  | none => rfl
  | some gw =>
    obtain ⟨g, want⟩ := gw
    have hy : yielded ops a.tmps g = yielded ops b.tmps g := by
      unfold yielded
      cases ht : (ops[g]?).bind (·.dst) with
      | none => rfl
      | some t =>
        have := h t (by simp [Oper.looksAt, hg, ht])
        simp only [Option.bind_some, this]
    simp only [hy]

theorem eval_slots {a b : Act} {o : Oper} (h : ∀ t ∈ o.looksAt ops, a.tmps[t]? = b.tmps[t]?) : ∀ x ∈ o.op.operands, a.eval x = b.eval x := by
  intro x hx
  cases x with
  | tmp t =>
    have := h t (List.mem_append_left _ (List.mem_filterMap.2 ⟨.tmp t, by simpa using hx, rfl⟩))
    simp only [Act.eval, Array.getD_eq_getD_getElem?, this]
  | _ => rfl

/-- The invariant behind a head operation. -/
theorem HeadAt.step {n : Nat} (hr : RegOk ops n a.tmps.size)
    (hmono : ∀ (j : Nat) (φ : (Value → Prop) × (Value → World → Prop)), all[j]? = some (.inr φ) → ∀ u W W', φ.2 u W → Below W.heap.size W W' → φ.2 u W')
    (hal : ∀ j ∈ al, ∃ φ : (Value → Prop) × (Value → World → Prop), all[j]? = some (.inr φ))
    {rem : List Nat} {listed : Array Bool} {a' : Act} {W : World} {v : Nat → Value} (inv : HeadAt ops n w al all a rem listed a' W v)
    {i : Nat} {o : Oper} {d : Tmp} {ph : Ph} (hin : i < n) (ho : ops[i]? = some o) (hd : o.dst = some d) (hun' : listed.getD i false = false) (hl : ∀ k ∈ needs o, listed.getD k false = true)
    (hph : all[i]? = some ph) {u : Value} {W' : World} (hu1 : phi ph u W') (hu2 : Below W.heap.size W W')
    (hu3 : ph.isRight = true → i ∈ al → u = .pointer (some ⟨W.heap.size, 0, none⟩) ∧ W.heap.size < W'.heap.size) :
    ∃ v', HeadAt ops n w al all a (rem.erase i) (listed.setIfInBounds i true) (a'.put (some d) u) W' v' := by
  have his : i < ops.size := (Array.getElem?_eq_some_iff.1 ho).1
  have hisl : i < listed.size := by rw [inv.size]; exact his
  obtain ⟨o', d', ho', hd', hds, hu, hlt, hlook, _⟩ := hr.head i hin
  rw [ho] at ho'; cases ho'
  rw [hd] at hd'; cases hd'
  have hir : i ∈ rem := (inv.rems i hin).1 hun'
  obtain ⟨v', hv'⟩ : ∃ v' : Nat → Value, v' = fun j => if j = i then u else v j := ⟨_, rfl⟩
  have hvi : v' i = u := by rw [hv']; simp
  have hvj : ∀ j, j ≠ i → v' j = v j := fun j hj => by rw [hv']; simp [hj]
  refine ⟨v', ?_⟩
  have hset : ∀ j, j ≠ i → (listed.setIfInBounds i true).getD j false = listed.getD j false := fun j hj => getD_setN false (Ne.symm hj)
  have hseti : (listed.setIfInBounds i true).getD i false = true := getD_setT hisl
  have hdi : dstAt ops i = some d := by simp [dstAt, ho, hd]
  refine ⟨by simp [inv.size], ?_, inv.nodup.erase _, fun j hj => inv.lt j (List.mem_of_mem_erase hj), ?_, ?_, ?_, ?_, ?_, ?_, inv.below.trans (hu2.mono inv.below.size), ?_, ?_, ?_, ?_, ?_⟩
  · intro j hj
    by_cases e : j = i
    · subst e
      rw [hseti]
      simp [inv.nodup.mem_erase_iff]
    · rw [hset j e, inv.rems j hj, inv.nodup.mem_erase_iff]
      simp [e]
  · intro k hk
    rw [hset k (by omega)]
    exact inv.tails k hk
  · intro j oj hj hlj hoj e he
    by_cases ej : j = i
    · subst ej
      rw [ho] at hoj; cases hoj
      have := hlt e he
      rw [hset e (by omega)]
      exact hl e he
    · rw [hset j ej] at hlj
      by_cases ee : e = i
      · subst ee; exact hseti
      · rw [hset e ee]; exact inv.closed j oj hj hlj hoj e he
  · rw [put_defers']; exact inv.defers
  · rw [put_size]; exact inv.tmps
  · intro t j hj hjt hlj
    by_cases e : j = i
    · subst e
      rw [hdi] at hjt; cases hjt
      rw [hvi]
      exact put_at _ _ _ (by rw [inv.tmps]; exact hds)
    · rw [hset j e] at hlj
      rw [hvj j e, put_ne _ _ _ _ (fun he => hu j hj e (by rw [hjt, ← he]))]
      exact inv.put t j hj hjt hlj
  · intro t ht
    have hdt : (some d : Option Tmp) ≠ some t := fun he => by
      have := ht i hin (by rw [hdi, he])
      rw [hseti] at this; cases this
    rw [put_ne _ _ _ _ hdt]
    refine inv.old t fun j hj hjt => ?_
    have := ht j hj hjt
    by_cases e : j = i
    · subst e; exact hun'
    · rwa [hset j e] at this
  · intro j phj hj hlj hphj
    by_cases e : j = i
    · subst e
      rw [hph] at hphj; cases hphj
      rw [hvi]; exact hu1
    · rw [hset j e] at hlj
      rw [hvj j e]
      have := inv.says j phj hj hlj hphj
      cases phj with
      | inl x => exact this
      | inr φ => exact ⟨this.1, hmono j φ hphj _ _ _ this.2 hu2⟩
  · intro j x hx
    by_cases e : j = i
    · subst e
      rw [hph] at hx; cases hx
      rw [hvi]; exact hu1
    · rw [hvj j e]; exact inv.vals j x hx
  · intro j φ hφ
    by_cases e : j = i
    · subst e
      rw [hph] at hφ; cases hφ
      rw [hvi]; exact hu1.1
    · rw [hvj j e]; exact inv.rng j φ hφ
  · intro j hj hjn hlj
    by_cases e : j = i
    · subst e
      obtain ⟨φ, hφ⟩ := hal j hj
      rw [hph] at hφ; cases hφ
      obtain ⟨h1, h2⟩ := hu3 rfl hj
      exact ⟨W.heap.size, by rw [hvi]; exact h1, h2⟩
    · rw [hset j e] at hlj
      obtain ⟨b, h1, h2⟩ := inv.allocs j hj hjn hlj
      exact ⟨b, by rw [hvj j e]; exact h1, Nat.lt_of_lt_of_le h2 hu2.size⟩
  · have key : ∀ j, j ∈ al → i ∈ al → j ≠ i → j < n → listed.getD j false = true → v j ≠ u := fun j hj hi' hne hjn hlj e => by
      obtain ⟨φ, hφ⟩ := hal i hi'
      rw [hph] at hφ; cases hφ
      obtain ⟨h1, h2⟩ := hu3 rfl hi'
      obtain ⟨b, h3, h4⟩ := inv.allocs j hj hjn hlj
      rw [e, h1] at h3
      injection h3 with h3
      injection h3 with h3
      injection h3 with h3
      omega
    intro x y hx hy hxy hxn hyn hlx hly
    by_cases ex : x = i
    · by_cases ey : y = i
      · exact absurd (ex.trans ey.symm) hxy
      · rw [hset y ey] at hly
        rw [hvj y ey, ex, hvi]
        exact fun e => key y hy (ex ▸ hx) ey hyn hly e.symm
    · rw [hset x ex] at hlx
      by_cases ey : y = i
      · rw [hvj x ex, ey, hvi]
        exact key x hx (ey ▸ hy) ex hxn hlx
      · rw [hset y ey] at hly
        rw [hvj x ex, hvj y ey]
        exact inv.apart x y hx hy hxy hxn hyn hlx hly

theorem float_yields {o : Oper} {d : Tmp} {df : List Deferred} {post : Value → World → Prop} {a : Act} {W : World} (hf : isFloat o = true) (h : wpList P ops (hpost df d post) [o] a W) :
    o.guard = none ∧ ∃ y, (∀ w', (execOp a.eval o).run P w' = .ok (.value y) w') ∧ hpost df d post .normal (a.put o.dst y) W := by
  obtain ⟨dst, op, type, pos, after, guard⟩ := o
  simp only [isFloat, Bool.and_eq_true, Option.isNone_iff_eq_none] at hf
  obtain ⟨hg, hop⟩ := hf
  subst hg
  refine ⟨rfl, ?_⟩
  rw [one_iff, if_pos (by rfl)] at h
  rcases h with h | ⟨_, _, _, h⟩
  case inr => exact (show False from h).elim
  cases op <;> simp at hop
  rename_i x ix
  unfold Oper.wp at h
  cases hx : a.eval x with
  | tuple vs =>
    cases hk : vs[ix]? with
    | some y =>
      have hrun : ∀ w', (execOp a.eval ⟨dst, .extract x ix, type, pos, after, none⟩).run P w' = .ok (.value y) w' := fun w' => by
        simp only [execOp, hx]; simp [Instr.extract, hk]
      rw [hrun] at h
      exact ⟨y, hrun, h⟩
    | none =>
      have hrun : (execOp a.eval ⟨dst, .extract x ix, type, pos, after, none⟩).run P W = .halt (.stuck "Extract: no such component") W := by
        simp only [execOp, hx]; simp [Instr.extract, hk]
      rw [hrun] at h
      exact (show False from h).elim
  | _ =>
    have hrun : (execOp a.eval ⟨dst, .extract x ix, type, pos, after, none⟩).run P W = .halt (.stuck "Extract: tuple expected") W := by
      simp only [execOp, hx]; simp [Instr.extract]
    rw [hrun] at h
    exact (show False from h).elim

theorem head_sound {n : Nat} (hr : RegOk ops n a.tmps.size) (hlen : all.length = n)
    (hmono : ∀ (j : Nat) (φ : (Value → Prop) × (Value → World → Prop)), all[j]? = some (.inr φ) → ∀ u W W', φ.2 u W → Below W.heap.size W W' → φ.2 u W')
    (hal : ∀ j ∈ al, ∃ φ : (Value → Prop) × (Value → World → Prop), all[j]? = some (.inr φ))
    (hQ : (∃ i o, i < n ∧ ops[i]? = some o ∧ isFloat o = true) → ∀ c a d v w, Q (.panic c) (a.put d v) w → Q (.panic c) a w)
    (H : ∀ v : Nat → Value, (∀ j x, all[j]? = some (.inl x) → v j = x) → (∀ (j : Nat) (φ : (Value → Prop) × (Value → World → Prop)), all[j]? = some (.inr φ) → φ.1 (v j)) → (∀ k, k < n → stepAt P ops w al all a v k) ∧ finAt P ops Q (ops.toList.drop n) w al all a v n) :
    ∀ (m : Nat) (rem : List Nat) (listed : Array Bool) (a' : Act) (W : World) (v : Nat → Value), rem.length = m → HeadAt ops n w al all a rem listed a' W v →
      wpAny P .any ops Q ((ops.size - n) + m) listed a' W := by
  intro m
  induction m with
  | zero =>
    intro rem listed a' W v hrem inv
    have hnil : rem = [] := List.eq_nil_of_length_eq_zero hrem
    subst hnil
    have hall : ∀ j, j < n → listed.getD j false = true := fun j hj => by
      have := (inv.rems j hj)
      cases h : listed.getD j false
      · exact absurd (this.1 h) (by simp)
      · rfl
    have hL : listed = headDone ops.size n := by
      apply Array.ext (by rw [inv.size]; simp [headDone])
      intro j h1 h2
      have hj : listed.getD j false = listed[j] := by rw [Array.getD_eq_getD_getElem?, Array.getElem?_eq_getElem h1]; rfl
      rw [← hj]
      simp only [headDone, Array.getElem_ofFn]
      by_cases hjn : j < n
      · rw [hall j hjn]; simp [hjn]
      · rw [inv.tails j (by omega)]; simp [hjn]
    have ha : a' = tx ops v n a := by
      have hs : a'.tmps = (tx ops v n a).tmps := by
        apply Array.ext (by rw [inv.tmps, tx_size])
        intro t h1 h2
        have key : a'.tmps[t]? = (tx ops v n a).tmps[t]? := by
          by_cases hex : ∃ j, j < n ∧ dstAt ops j = some t
          · obtain ⟨j, hj, hjt⟩ := hex
            obtain ⟨oj, dj, hoj, hdj, hdl, huj, _⟩ := hr.head j hj
            have e : dj = t := by have : dstAt ops j = some dj := by simp [dstAt, hoj, hdj]
                                  rw [hjt] at this; exact (Option.some.inj this).symm
            subst e
            rw [inv.put dj j hj hjt (hall j hj)]
            exact (tx_some v dj j hdl hjt n hj (fun k hk hne => huj k hk hne)).symm
          · have hno : ∀ j, j < n → dstAt ops j ≠ some t := fun j hj e => hex ⟨j, hj, e⟩
            rw [inv.old t (fun j hj e => absurd e (hno j hj))]
            exact (tx_none v t n hno).symm
        rw [Array.getElem?_eq_getElem h1, Array.getElem?_eq_getElem h2] at key
        exact Option.some.inj key
      exact act_ext hs (by rw [inv.defers, tx_defers])
    have hin : ∀ j ∈ al, j < n := fun j hj => by
      obtain ⟨φ, hφ⟩ := hal j hj
      have := (List.getElem?_eq_some_iff.1 hφ).1
      omega
    have hf := (H v inv.vals inv.rng).2 W inv.below (phNd_of _ fun j hj φ hφ => by
      have hj' := List.mem_range.1 hj
      rw [range_map_getD v n j hj']
      exact inv.says j _ hj' (hall j hj') hφ) (fun i j hi hj hne => by
      rw [range_map_getD v n i (hin i hi), range_map_getD v n j (hin j hj)]
      exact inv.apart i j hi hj hne (hin i hi) (hin j hj) (hall i (hin i hi)) (hall j (hin j hj)))
    have hd : (ops.toList.drop n).length = ops.size - n := by simp
    have := wpAny_of_seq (md := .any) (ops := ops) (P := P) (Q' := Q) (ops.toList.drop n) n listed a' W (fun j => by simp [List.getElem?_drop]) (by rw [hd, hL]; exact hr.seq) (by rw [ha]; exact hf)
    rw [hd] at this
    exact this
  | succ m ih =>
    intro rem listed a' W v hrem inv
    have hne : rem ≠ [] := fun e => by rw [e] at hrem; simp at hrem
    by_cases hflo : ∃ i o, i < n ∧ ops[i]? = some o ∧ isFloat o = true ∧ i ∈ Region.ready .any ops listed
    · -- an operation that floats is taken first
      obtain ⟨i, o, hin, ho, hfl, hi⟩ := hflo
      obtain ⟨hun, o', ho', hl⟩ := ready_iff.1 hi
      rw [ho] at ho'; cases ho'
      have hun' := getD_ft hun
      obtain ⟨o', d, ho', hd, hds, hu, hlt, hlook, hfree⟩ := hr.head i hin
      rw [ho] at ho'; cases ho'
      rw [if_pos hfl] at hfree
      obtain ⟨o', ph, ho', hph, hst⟩ := (H v inv.vals inv.rng).1 i hin
      rw [ho] at ho'; cases ho'
      have hag := tx_agrees hr inv hin ho hl
      have hstep := hst W inv.below (phNd_of _ fun j hj φ hφ => by
        have hj' := hlt j hj
        rw [range_map_getD v i j hj']
        exact inv.says j _ (by omega) (hl j hj) hφ)
      obtain ⟨hg, y, hrun, hpo⟩ := float_yields hfl hstep
      have hrun' : ∀ w', (execOp a'.eval o).run P w' = .ok (.value y) w' := fun w' => by
        rw [execOp_congr o (Region.noSelect_spec hr.sel i o · · ho) (eval_slots hag)]; exact hrun w'
      obtain ⟨⟨hu1, hu2, hu3⟩, _⟩ := hpo
      rw [hd] at hu1 hu3
      simp only [Option.getD_some, Array.getD_eq_getD_getElem?, put_at _ _ _ (show d < (tx ops v i a).tmps.size by rw [tx_size]; exact hds)] at hu1 hu3
      have hir : i ∈ rem := (inv.rems i hin).1 hun'
      obtain ⟨v', inv'⟩ := inv.step hr hmono hal hin ho hd hun' hl hph hu1 hu2 hu3
      refine wpAny_first (md := .any) (v := y) ho (Region.noSelect_spec hr.sel) (fun c a w h => hQ ⟨i, o, hin, ho, hfl⟩ c a o.dst y w h) ((ops.size - n) + m) listed a' W ?_ hi (.inl ⟨by simp [Region.wanted, hg], hrun'⟩) ?_
      · intro j oj hoj hji hunj hnot
        refine hfree j oj hoj hji (fun h => ?_) (fun h => ?_)
        · have := hl j h; rw [getD_ft hunj] at this; cases this
        · obtain ⟨e, he, hb, hon⟩ := mem_needs.1 h
          exact hnot e he hb hon
      · rw [hd]
        exact ih (rem.erase i) _ _ W v' (by rw [List.length_erase_of_mem hir, hrem]; rfl) inv'
    refine ⟨fun hnil => ?_, fun i hi => ?_⟩
    · exfalso
      obtain ⟨j, hj, hmin⟩ := exists_least rem hne
      have hjn := inv.lt j hj
      obtain ⟨o, d, ho, hd, _, _, hlt, _⟩ := hr.head j hjn
      have hjs : j < listed.size := by rw [inv.size]; exact (Array.getElem?_eq_some_iff.1 ho).1
      have : j ∈ Region.ready .any ops listed := ready_iff.2 ⟨getD_tf hjs ((inv.rems j hjn).2 hj), o, ho, fun k hk => by
        have hkj := hlt k hk
        cases h : listed.getD k false
        · exact absurd (hmin k ((inv.rems k (by omega)).1 h)) (by omega)
        · rfl⟩
      rw [hnil] at this
      cases this
    · obtain ⟨hun, o, ho, hl⟩ := ready_iff.1 hi
      have hun' := getD_ft hun
      have his : i < ops.size := (Array.getElem?_eq_some_iff.1 ho).1
      have hisl : i < listed.size := by rw [inv.size]; exact his
      by_cases hin : i < n
      · -- a head operation
        obtain ⟨o', d, ho', hd, hds, hu, hlt, hlook, _⟩ := hr.head i hin
        rw [ho] at ho'; cases ho'
        obtain ⟨o', ph, ho', hph, hst⟩ := (H v inv.vals inv.rng).1 i hin
        rw [ho] at ho'; cases ho'
        have hag := tx_agrees hr inv hin ho hl
        have hstep := hst W inv.below (phNd_of _ fun j hj φ hφ => by
          have hj' := hlt j hj
          rw [range_map_getD v i j hj']
          exact inv.says j _ (by omega) (hl j hj) hφ)
        rw [hd] at hstep
        simp only [Option.getD_some] at hstep
        refine head_transfer ho (Region.noSelect_spec hr.sel i o · · ho) hd (by rw [tx_size]; exact hds) (by rw [inv.defers, tx_defers]) (eval_slots hag) (wanted_slots hag) hstep ?_
        rintro u W' ⟨hu1, hu2, hu3⟩
        have hir : i ∈ rem := (inv.rems i hin).1 hun'
        obtain ⟨v', inv'⟩ := inv.step hr hmono hal hin ho hd hun' hl hph hu1 hu2 hu3
        exact ih (rem.erase i) _ _ W' v' (by rw [List.length_erase_of_mem hir, hrem]; rfl) inv'
      · -- a tail operation does not stand next
        exfalso
        obtain ⟨fl, hfl⟩ : ∃ fl : Nat → Bool, fl = fun j => match ops[j]? with | some o => isFloat o | none => false := ⟨_, rfl⟩
        have hrd : ∀ j, j ∈ rem → (∀ k, k < j → k ∈ rem → False) → j ∈ Region.ready .any ops listed := fun j hj hmin => by
          have hjn := inv.lt j hj
          obtain ⟨o, d, ho, hd, _, _, hlt, _⟩ := hr.head j hjn
          have hjs : j < listed.size := by rw [inv.size]; exact (Array.getElem?_eq_some_iff.1 ho).1
          exact ready_iff.2 ⟨getD_tf hjs ((inv.rems j hjn).2 hj), o, ho, fun k hk => by
            have hkj := hlt k hk
            cases h : listed.getD k false
            · exact absurd ((inv.rems k (by omega)).1 h) (hmin k hkj)
            · rfl⟩
        have hsolid : rem.filter (fun j => !fl j) ≠ [] := fun hnil => by
          obtain ⟨j, hj, hmin⟩ := exists_least rem hne
          have hjn := inv.lt j hj
          obtain ⟨o, d, ho, _⟩ := hr.head j hjn
          have hjf : fl j = true := by
            have := List.filter_eq_nil_iff.1 hnil j hj
            simpa using this
          rw [hfl] at hjf
          simp only [ho] at hjf
          exact hflo ⟨j, o, hjn, ho, hjf, hrd j hj fun k hk hkr => by have := hmin k hkr; omega⟩
        obtain ⟨j, hj', hmax⟩ := exists_most _ hsolid
        obtain ⟨hj, hjf⟩ := List.mem_filter.1 hj'
        have hjn := inv.lt j hj
        have hjl := (inv.rems j hjn).2 hj
        obtain ⟨oj, dj, hoj, _, _, _, _, _, hsucc⟩ := hr.head j hjn
        have hjf' : isFloat oj = false := by rw [hfl] at hjf; simpa [hoj] using hjf
        rw [if_neg (by simp [hjf'])] at hsucc
        rcases hsucc with h | ⟨k, o', h1, h2, h3, h4, h5⟩
        · omega
        · by_cases hkn : k < n
          · have hkl : listed.getD k false = false := by
              cases h : listed.getD k false
              · rfl
              · have := inv.closed k o' hkn h h3 j h4
                rw [hjl] at this; cases this
            have hkf : fl k = false := by
              rw [hfl]; simp only [h3]
              rcases h5 with h5 | h5
              · omega
              · exact h5
            have := hmax k (List.mem_filter.2 ⟨(inv.rems k hkn).1 hkl, by simp [hkf]⟩)
            omega
          · have hk : k = n := by omega
            by_cases hi' : i = n
            · rw [hi', ← hk] at ho
              rw [ho] at h3; cases h3
              have := hl j h4
              rw [hjl] at this; cases this
            · have := hr.tail i o (by omega) ho
              have h5 := hl _ this
              rw [inv.tails (i - 1) (by omega)] at h5
              cases h5
end

/-- A REGION THAT DRAWS ITS ORDER. n: where its tail begins; al: which operations of the head are allocations; Φs: what is said of each head operation's result. -/
theorem wp_region_rg {P : Program} {id : Nat} {l : List Oper} {Q : Exit → Act → World → Prop} {a : Act} {w : World} (n : Nat) (al : List Nat) (Φs : List Ph)
    (hm : P.follows .mixedOrders = true) (hok : regOk l.toArray n a.tmps.size = true) (hlen : Φs.length = n)
    (hal : al.all (fun j => match Φs[j]? with | some (.inr _) => true | _ => false) = true)
    (hmono : ∀ (j : Nat) (φ : (Value → Prop) × (Value → World → Prop)), Φs[j]? = some (.inr φ) → ∀ u W W', φ.2 u W → Below W.heap.size W W' → φ.2 u W')
    (hne : ∀ (j : Nat) (φ : (Value → Prop) × (Value → World → Prop)), Φs[j]? = some (.inr φ) → ∃ u, φ.1 u)
    (h : RG P l.toArray Q (l.drop n) w.drew al Φs (l.take n) Φs 0 [] a)
    (hQ : ((l.take n).any isFloat = true) → ∀ c a d v w, Q (.panic c) (a.put d v) w → Q (.panic c) a w := by exact fun h => by cases h) : (Code.region id l.toArray true).wp P Q a w := by
  have hr := regOk_spec hok
  have hnl : n ≤ l.length := by simpa using hr.le
  refine wp_region_any hm ?_
  have hw : ({ w with drawn := w.drawn + 1 } : World) = w.drew := rfl
  have hex : ∀ j : Nat, ∃ u : Value, (∀ x : Value, Φs[j]? = some (.inl x) → u = x) ∧ (∀ φ : (Value → Prop) × (Value → World → Prop), Φs[j]? = some (.inr φ) → φ.1 u) := fun j => by
    cases hj : Φs[j]? with
    | none => exact ⟨undef, fun x h => (by cases h), fun φ h => (by cases h)⟩
    | some p =>
      cases p with
      | inl x => exact ⟨x, fun y h => (by cases h; rfl), fun φ h => (by cases h)⟩
      | inr φ => obtain ⟨u, hu⟩ := hne j φ hj; exact ⟨u, fun y h => (by cases h), fun ψ h => (by cases h; exact hu)⟩
  obtain ⟨v0, hv0⟩ := Classical.axiomOfChoice hex
  rw [hw]
  have := head_sound (P := P) (ops := l.toArray) (Q := Q) (w := w.drew) (al := al) (all := Φs) (a := a) hr hlen hmono (fun j hj => by
    have := List.all_eq_true.1 hal j hj
    split at this
    · rename_i φ hφ; exact ⟨φ, hφ⟩
    · cases this) (fun ⟨i, o, hi, ho, hf⟩ => hQ (List.any_eq_true.2 ⟨o, List.mem_of_getElem? (i := i) (by simpa [List.getElem?_take, hi] using ho), hf⟩)) (fun v hv hv2 => by
      have := rg_flat (P := P) (ops := l.toArray) (Q := Q) (tail := l.drop n) (w := w.drew) (al := al) (all := Φs) (a := a) v hv hv2 (l.take n) Φs 0
        (fun j hj => by rw [List.length_take] at hj; simp [List.getElem?_take, show j < n by omega]) (fun j => by simp) (by simpa [tx] using h)
      have hl : (l.take n).length = n := by simp; omega
      rw [hl] at this
      exact ⟨fun k hk => this.1 k (Nat.zero_le _) (by omega), by simpa using this.2⟩)
    n (List.range n) (Array.replicate l.toArray.size false) a w.drew v0 (by simp) ?_
  · have e : l.toArray.size - n + n = l.toArray.size := by simp; omega
    rw [e] at this
    exact this
  · have hf : ∀ j, (Array.replicate l.toArray.size false).getD j false = false := fun j => getD_replicate_false _ _
    refine ⟨by simp, fun j hj => ?_, List.nodup_range, fun j hj => List.mem_range.1 hj, fun k _ => hf k, fun j o _ hl => ?_, rfl, rfl, fun t j _ _ hl => ?_, fun t _ => rfl, Below.refl _ _, fun j ph _ hl => ?_, fun j x hx => ?_, fun j φ hφ => ?_, fun j _ _ hl => ?_, fun i j _ _ _ _ _ hl => ?_⟩
    · rw [hf]; simp [hj]
    · rw [hf] at hl; cases hl
    · rw [hf] at hl; cases hl
    · rw [hf] at hl; cases hl
    · exact (hv0 j).1 x hx
    · exact (hv0 j).2 φ hφ
    · rw [hf] at hl; cases hl
    · rw [hf] at hl; cases hl

section
variable {P : Program} {ops : Array Oper} {Q : Exit → Act → World → Prop} {tail : List Oper} {w : World} {al : List Nat} {all : List Ph}
theorem RG_det {o : Oper} {rest : List Oper} {x : Value} {Φs : List Ph} {i : Nat} {vs : List Value} {a : Act}
    (h : ∀ W, Below w.heap.size w W → phNd all vs W (needs o) → wpList P ops (hpost a.defers (o.dst.getD 0) (detP x W)) [o] a W)
    (k : RG P ops Q tail w al all rest Φs (i + 1) (vs ++ [x]) (a.put o.dst x)) : RG P ops Q tail w al all (o :: rest) (.inl x :: Φs) i vs a := ⟨h, k⟩
theorem RG_nd {o : Oper} {rest : List Oper} {φ : (Value → Prop) × (Value → World → Prop)} {Φs : List Ph} {i : Nat} {vs : List Value} {a : Act}
    (h : ∀ W, Below w.heap.size w W → phNd all vs W (needs o) →
      wpList P ops (hpost a.defers (o.dst.getD 0) (ndP (fun u W' => φ.1 u ∧ φ.2 u W') al i W)) [o] a W)
    (k : ∀ u, φ.1 u → RG P ops Q tail w al all rest Φs (i + 1) (vs ++ [u]) (a.put o.dst u)) : RG P ops Q tail w al all (o :: rest) (.inr φ :: Φs) i vs a := ⟨h, k⟩
theorem RG_end {i : Nat} {vs : List Value} {a : Act} (h : ∀ W, Below w.heap.size w W → phNd all vs W (List.range i) →
      (∀ i j, i ∈ al → j ∈ al → i ≠ j → vs.getD i undef ≠ vs.getD j undef) → wpList P ops Q tail a W) : RG P ops Q tail w al all [] [] i vs a := h
end

end Go.Proofs.YtcppphgpbaablaaGreatDoor.Dr
