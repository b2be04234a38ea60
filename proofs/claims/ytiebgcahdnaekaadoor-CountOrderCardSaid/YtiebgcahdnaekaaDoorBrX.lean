/-
Changes of brains, plainly.
-/
import Derived.Test.YtiebgcahdnaekaaDoorBrQ
namespace Go.Proofs.YtiebgcahdnaekaaDoor
set_option linter.unusedVariables false
open Go.RowKit
theorem flat_tk {α : Type} (f : α → List Value) (n : Nat) (hf : ∀ a, (f a).length = n) (l : List α) (k : Nat) : (l.flatMap f).take (k * n) = (l.take k).flatMap f := by
  induction l generalizing k with
  | nil => simp
  | cons b l ih =>
    cases k with
    | zero => simp
    | succ k =>
      rw [List.flatMap_cons, List.take_succ_cons, List.flatMap_cons, ← ih k, show (k + 1) * n = (f b).length + k * n by rw [hf, Nat.add_mul, Nat.one_mul, Nat.add_comm], List.take_length_add_append]
theorem flat_dp {α : Type} (f : α → List Value) (n : Nat) (hf : ∀ a, (f a).length = n) (l : List α) (k : Nat) : (l.flatMap f).drop (k * n) = (l.drop k).flatMap f := by
  induction l generalizing k with
  | nil => simp
  | cons b l ih =>
    cases k with
    | zero => simp
    | succ k =>
      rw [List.flatMap_cons, List.drop_succ_cons, ← ih k, show (k + 1) * n = (f b).length + k * n by rw [hf, Nat.add_mul, Nat.one_mul, Nat.add_comm], List.drop_length_add_append]
theorem itsV_take (l : List It1) (k : Nat) : (itsV l).take (k * 4) = itsV (l.take k) := flat_tk _ 4 (fun _ => rfl) l k
theorem itsV_drop (l : List It1) (k : Nat) : (itsV l).drop (k * 4) = itsV (l.drop k) := flat_dp _ 4 (fun _ => rfl) l k
theorem kpsV_take (l : List Kp) (k : Nat) : (kpsV l).take (k * 8) = kpsV (l.take k) := flat_tk _ 8 (fun _ => rfl) l k
theorem kpsV_drop (l : List Kp) (k : Nat) : (kpsV l).drop (k * 8) = kpsV (l.drop k) := flat_dp _ 8 (fun _ => rfl) l k
def numsOk (l : List Int) : Bool := l.all fun n => decide (0 ≤ n) && decide (n ≤ 1099511627776)
theorem numsOk_iff {l : List Int} : numsOk l = true ↔ ∀ k (h : k < l.length), 0 ≤ l[k] ∧ l[k] ≤ 1099511627776 := by
  simp only [numsOk, List.all_eq_true, Bool.and_eq_true, decide_eq_true_eq]
  exact ⟨fun h k hk => h _ (List.getElem_mem hk), fun h n hn => by
    obtain ⟨k, hk, rfl⟩ := List.mem_iff_getElem.1 hn
    exact h k hk⟩
theorem numsOk_no {l : List Int} (k : Nat) (hk : k < l.length) (h : ¬ (0 ≤ l[k] ∧ l[k] ≤ 1099511627776)) : numsOk l = false := by
  cases e : numsOk l
  · rfl
  · exact absurd (numsOk_iff.1 e k hk) h
def eraL (l : List It1) (i : Nat) : List It1 := l.take i ++ l.drop (i + 1)
def insL (l : List Kp) (a : Nat) (x : Kp) : List Kp := (l.take a ++ [x]) ++ l.drop a
theorem eraL_len {l : List It1} {i : Nat} (h : i < l.length) : (eraL l i).length = l.length - 1 := by
  simp only [eraL, List.length_append, List.length_take, List.length_drop]; omega
theorem insL_len {l : List Kp} {a : Nat} (x : Kp) (h : a ≤ l.length) : (insL l a x).length = l.length + 1 := by
  simp only [insL, List.length_append, List.length_take, List.length_drop, List.length_cons, List.length_nil]; omega
def madeK (x : It1) (id now : Int) : Kp := ⟨id, x.tok, x.ver, x.zon, if x.warm = true then 9 else 1, now, false, false⟩
def Br.rf0 (b : Br) : Rf := if b.act = true then { b.rf with fa := 0 } else b.rf
/-- An intent is made an instance, somewhere. -/
def Br.made (b : Br) (i a : Nat) (x : It1) (id now : Int) : Br := { b with its := eraL b.its i, kps := insL b.kps a (madeK x id now), rf := b.rf0 }
/-- What RecMade may make of a brain. -/
inductive MadeTo (b : Br) : Br → Prop
  | same : MadeTo b b
  | made (i a : Nat) (id now : Int) (hi : i < b.its.length) (ha : a ≤ b.kps.length) : MadeTo b (b.made i a b.its[i] id now)
theorem act0 (b : Br) (i a : Nat) (x : It1) (id now : Int) : (b.made i a x id now).act = b.act := by
  show decide (b.rf0.st.toNat = 1) = decide (b.rf.st.toNat = 1)
  unfold Br.rf0; split <;> rfl
theorem ver0 (b : Br) (i a : Nat) (x : It1) (id now : Int) : (b.made i a x id now).ver = b.ver := by
  unfold Br.ver
  rw [act0]
  show (if b.act = true then b.rf0.ta else b.cf.ve) = _
  unfold Br.rf0; split <;> rfl
theorem era_count {l : List It1} {i : Nat} (h : i < l.length) (p : It1 → Bool) : (eraL l i).countP p + (if p l[i] = true then 1 else 0) = l.countP p := by
  have e : l = l.take i ++ l[i] :: l.drop (i + 1) := by rw [← List.drop_eq_getElem_cons h, List.take_append_drop]
  conv => rhs; rw [e, List.countP_append, List.countP_cons]
  rw [eraL, List.countP_append]
  omega
theorem ins_count (l : List Kp) (a : Nat) (x : Kp) (p : Kp → Bool) : (insL l a x).countP p = l.countP p + (if p x = true then 1 else 0) := by
  conv => rhs; rw [← List.take_append_drop a l, List.countP_append]
  rw [insL, List.countP_append, List.countP_append, List.countP_singleton]
  omega
theorem onI_of {b c : Br} (h : c.ver = b.ver) (x : It1) : c.onI x = b.onI x := by simp only [Br.onI, h]
theorem onK_of {b c : Br} (h : c.ver = b.ver) (hc : c.cf = b.cf) (k : Kp) : c.onK k = b.onK k := by simp only [Br.onK, Br.old, h, hc]
theorem onK_made (b : Br) (x : It1) (id now : Int) (j : Nat) : (b.onK (madeK x id now)).is j = (b.onI x).is j := by
  rcases x with ⟨tok, ver, zon, warm⟩
  match j with
  | 0 => rfl
  | 1 => cases warm <;> simp [Br.onK, Br.onI, On.is, madeK, Br.old, goes]
  | 2 => cases warm <;> simp [Br.onK, Br.onI, On.is, madeK, stands]
  | 3 => cases warm <;> simp [Br.onK, Br.onI, On.is, madeK]
  | j + 4 => cases warm <;> simp [Br.onK, Br.onI, On.is, madeK]
theorem made_cnt (b : Br) {i a : Nat} (id now : Int) (hi : i < b.its.length) (j : Nat) : (b.made i a b.its[i] id now).cnt j = b.cnt j := by
  have hv := ver0 b i a b.its[i] id now
  rw [Br.cnt_eq, Br.cnt_eq]
  have e1 : (fun x => ((b.made i a b.its[i] id now).onI x).is j) = fun x => (b.onI x).is j := by funext x; rw [onI_of hv]
  have e2 : (fun k => ((b.made i a b.its[i] id now).onK k).is j) = fun k => (b.onK k).is j := by funext k; rw [onK_of hv rfl]
  rw [e1, e2]
  show (eraL b.its i).countP _ + (insL b.kps a (madeK b.its[i] id now)).countP _ = _
  rw [ins_count, onK_made]
  have := era_count hi fun x => (b.onI x).is j
  omega
/-- Counts that are the same. -/
theorem counts_of {b c : Br} (h : ∀ j, c.cnt j = b.cnt j) (hv : c.ver = b.ver) (ha : c.act = b.act) (hp : c.rf.pa = b.rf.pa) (hc : c.cf = b.cf) : c.counts = b.counts := by
  have hm : c.more = b.more := by rw [Br.more, Br.more, ha, hp, h]
  rw [Br.counts, Br.counts, Br.want, Br.want, hm, hv, h, h, h, h, h, hc]
theorem made_counts {b c : Br} (h : MadeTo b c) : c.counts = b.counts := by
  cases h with
  | same => rfl
  | made i a id now hi ha =>
    refine counts_of (made_cnt b id now hi) (ver0 ..) (act0 ..) ?_ rfl
    show b.rf0.pa = b.rf.pa
    unfold Br.rf0; split <;> rfl
theorem made_its {b c : Br} (h : MadeTo b c) : c.its.length ≤ b.its.length ∧ c.kps.length ≤ b.kps.length + 1 ∧ c.cf = b.cf := by
  cases h with
  | same => exact ⟨Nat.le_refl _, by omega, rfl⟩
  | made i a id now hi ha => exact ⟨by show (eraL b.its i).length ≤ _; rw [eraL_len hi]; omega, by show (insL b.kps a _).length ≤ _; rw [insL_len _ ha]; omega, rfl⟩
/-- All the other way round. -/
def Br.rev (b : Br) : Br := { b with its := b.its.reverse, kps := b.kps.reverse }
theorem rev_counts (b : Br) : b.rev.counts = b.counts := by
  refine counts_of (fun j => ?_) rfl rfl rfl rfl
  rw [Br.cnt_eq, Br.cnt_eq]
  show b.its.reverse.countP (fun x => (b.onI x).is j) + b.kps.reverse.countP (fun k => (b.onK k).is j) = _
  rw [List.countP_reverse, List.countP_reverse]
/-- A refresh is begun; is cancelled. -/
def Br.start (b : Br) (v now : Int) : Br := { b with rf := ⟨1, b.cf.ve, v, 0, false, now, 0⟩ }
def Br.cancel (b : Br) : Br := { b with rf := { b.rf with st := 3, pa := false } }
/-- How many of the first k are old. -/
def Br.oc (b : Br) (k : Nat) : Nat := (b.kps.take k).countP b.old
def Br.ic (b : Br) (k : Nat) : Nat := (b.its.take k).countP fun x => !decide (x.ver = b.ver)
theorem oc_succ {b : Br} {k : Nat} (h : k < b.kps.length) : b.oc (k + 1) = b.oc k + (if b.old b.kps[k] = true then 1 else 0) := by
  rw [Br.oc, List.take_succ_eq_append_getElem h, List.countP_append, List.countP_singleton]; rfl
theorem ic_succ {b : Br} {k : Nat} (h : k < b.its.length) : b.ic (k + 1) = b.ic k + (if (!decide (b.its[k].ver = b.ver)) = true then 1 else 0) := by
  rw [Br.ic, List.take_succ_eq_append_getElem h, List.countP_append, List.countP_singleton]; rfl
theorem oc_le (b : Br) (k : Nat) : b.oc k ≤ b.kps.length := by
  refine Nat.le_trans List.countP_le_length ?_
  rw [List.length_take]; omega
theorem ic_le (b : Br) (k : Nat) : b.ic k ≤ b.its.length := by
  refine Nat.le_trans List.countP_le_length ?_
  rw [List.length_take]; omega
theorem oc_end (b : Br) : b.cnt 1 = b.oc b.kps.length + b.ic b.its.length := by
  rw [Br.cnt_eq, Br.oc, Br.ic, List.take_length, List.take_length, Nat.add_comm]; rfl
theorem start_ver (b : Br) (v n : Int) : (b.start v n).ver = v := rfl
theorem cancel_ver (b : Br) (v n : Int) : (b.start v n).cancel.ver = b.cf.ve := rfl
theorem cancel_want (b : Br) (v n : Int) : (b.start v n).cancel.want = b.cf.d := rfl
theorem cancel_old {b : Br} (v n : Int) (h : b.act = false) : (b.start v n).cancel.cnt 1 = b.cnt 1 := by
  have hv : (b.start v n).cancel.ver = b.ver := by rw [cancel_ver, Br.ver, if_neg (by simp [h])]
  rw [Br.cnt_eq, Br.cnt_eq]
  have e1 : (fun x => ((b.start v n).cancel.onI x).is 1) = fun x => (b.onI x).is 1 := by funext x; rw [onI_of hv]
  have e2 : (fun k => ((b.start v n).cancel.onK k).is 1) = fun k => (b.onK k).is 1 := by funext k; rw [onK_of hv rfl]
  rw [e1, e2]; rfl
theorem want_none {b : Br} (h : b.cnt 1 = 0) : b.want = b.cf.d := by
  rw [Br.want, if_neg (by simp [Br.more, h])]
theorem putL_app {n : Nat} {a b : List Value} : ∀ {c : List Value}, c.length = n → a.length = n → putL (c ++ b) 0 a = some (a ++ b) := by
  induction a generalizing n with
  | nil => intro c h1 h2; have : c = [] := List.eq_nil_of_length_eq_zero (by rw [h1, ← h2]; rfl); subst this; cases b <;> rfl
  | cons x a ih =>
    intro c h1 h2
    cases c with
    | nil => simp at h1; subst h1; simp at h2
    | cons y c =>
      have := ih (n := c.length) (c := c) rfl (by simp at h1 h2; omega)
      simp only [List.cons_append, putL, this]
theorem putL_skip {a b vs r : List Value} {k : Nat} (h : putL b k vs = some r) (hv : vs ≠ []) : putL (a ++ b) (a.length + k) vs = some (a ++ r) := by
  induction a with
  | nil => simpa using h
  | cons x a ih =>
    rw [List.cons_append, List.length_cons, show a.length + 1 + k = (a.length + k) + 1 by omega]
    simp only [putL, ih, List.cons_append]
theorem flat_put {α : Type} (f : α → List Value) (n : Nat) (hf : ∀ a, (f a).length = n) (h0 : 0 < n) {l : List α} {k : Nat} (h : k < l.length) (b : α) : putL (l.flatMap f) (k * n) (f b) = some ((l.set k b).flatMap f) := by
  induction l generalizing k with
  | nil => simp at h
  | cons c l ih =>
    rw [List.flatMap_cons]
    cases k with
    | zero => rw [Nat.zero_mul, List.set_cons_zero, List.flatMap_cons]; exact putL_app (hf c) (hf b)
    | succ k =>
      rw [show (k + 1) * n = (f c).length + k * n by rw [hf, Nat.add_mul, Nat.one_mul, Nat.add_comm], List.set_cons_succ, List.flatMap_cons]
      exact putL_skip (ih (by simpa using h)) (fun e => by have := hf b; rw [e] at this; simp at this; omega)
/-- The first k the other way round. -/
def rvK {α : Type} (l : List α) (k : Nat) : List α := l.reverse.take k ++ l.drop k
theorem rvK_len {α : Type} (l : List α) {k : Nat} (h : k ≤ l.length) : (rvK l k).length = l.length := by
  simp only [rvK, List.length_append, List.length_take, List.length_reverse, List.length_drop]; omega
theorem rvK_end {α : Type} (l : List α) : rvK l l.length = l.reverse := by
  rw [rvK, List.drop_length, List.append_nil, List.take_of_length_le (by simp)]
theorem rvK_set {α : Type} {l : List α} {k : Nat} (h : k < l.length) : (rvK l k).set k (l[l.length - 1 - k]'(by omega)) = rvK l (k + 1) := by
  have e1 : (l.reverse.take k).length = k := by rw [List.length_take, List.length_reverse]; omega
  have e2 : k < l.reverse.length := by rw [List.length_reverse]; exact h
  rw [rvK, rvK, List.set_append_right _ _ (by omega), e1, Nat.sub_self, List.drop_eq_getElem_cons h, List.set_cons_zero, List.take_succ_eq_append_getElem e2, List.getElem_reverse, List.append_assoc]
  rfl
theorem kps_rv {l : List Kp} {k : Nat} (h : k < l.length) : putL (kpsV (rvK l k)) (k * 8) (l[l.length - 1 - k]'(by omega)).cs = some (kpsV (rvK l (k + 1))) := by
  rw [← rvK_set h]
  exact flat_put _ 8 (fun _ => rfl) (by decide) (by rw [rvK_len _ (by omega)]; exact h) _
theorem its_rv {l : List It1} {k : Nat} (h : k < l.length) : putL (itsV (rvK l k)) (k * 4) (l[l.length - 1 - k]'(by omega)).cs = some (itsV (rvK l (k + 1))) := by
  rw [← rvK_set h]
  exact flat_put _ 4 (fun _ => rfl) (by decide) (by rw [rvK_len _ (by omega)]; exact h) _
theorem rev_cs (b : Br) (z : BrA) : b.cs z = b.rev.cs z := by simp [Br.cs, Br.rev]
theorem wsub {a b c : Nat} (h : c + b = a) (h2 : a ≤ 1000000) : IntKind.i64.wrap ((a : Int) - (b : Int)) = (c : Int) := by
  rw [w64 (by omega) (by omega)]; omega
end Go.Proofs.YtiebgcahdnaekaaDoor
