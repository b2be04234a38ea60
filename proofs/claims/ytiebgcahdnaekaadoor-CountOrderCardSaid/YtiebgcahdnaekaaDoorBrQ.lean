/-
Brains that may be, plainly.
-/
import Derived.Test.YtiebgcahdnaekaaDoorBrP
namespace Go.Proofs.YtiebgcahdnaekaaDoor
set_option linter.unusedVariables false
open Go.RowKit
def Br.tk (b : Br) (k : Nat) : Int := match b.its[k]? with
  | some x => x.tok
  | none => 0
def Br.lastT (b : Br) : Nat → Int
  | 0 => 0
  | k + 1 => b.tk k
def Br.idn (b : Br) (k : Nat) : Int := match b.kps[k]? with
  | some x => x.id
  | none => 0
def Br.lastI (b : Br) : Nat → Int
  | 0 => 0
  | k + 1 => b.idn k
def Br.phn (b : Br) (k : Nat) : Nat := match b.kps[k]? with
  | some x => x.ph.toNat
  | none => 1
theorem tk_at {b : Br} {k : Nat} (h : k < b.its.length) : b.tk k = b.its[k].tok := by rw [Br.tk, List.getElem?_eq_getElem h]
theorem idn_at {b : Br} {k : Nat} (h : k < b.kps.length) : b.idn k = b.kps[k].id := by rw [Br.idn, List.getElem?_eq_getElem h]
theorem phn_at {b : Br} {k : Nat} (h : k < b.kps.length) : b.phn k = b.kps[k].ph.toNat := by rw [Br.phn, List.getElem?_eq_getElem h]

structure Br.TokOk (b : Br) (k : Nat) : Prop where
  lo : b.lastT k < b.tk k
  hi : b.tk k ≤ b.sq
structure Br.KpOk (b : Br) (k : Nat) : Prop where
  lo : b.lastI k < b.idn k
  hi : b.idn k ≤ 1099511627776
  p1 : 1 ≤ b.phn k
  p2 : b.phn k ≤ 10
structure Br.Ok (b : Br) : Prop where
  ep : 0 ≤ b.ep ∧ b.ep ≤ 1099511627776
  sq : 0 ≤ b.sq ∧ b.sq ≤ 1099511627776
  its : ∀ k, k < b.its.length → b.TokOk k
  kps : ∀ k, k < b.kps.length → b.KpOk k
  rf : b.rf.st.toNat = 1 → (1 ≤ b.rf.fr ∧ b.rf.fr ≤ 1099511627776) ∧ 1 ≤ b.rf.ta ∧ b.rf.ta ≤ 1099511627776
  un : b.set = false → b.its.length = 0 ∧ b.rf.st.toNat = 0
  cf : b.set = true → b.cf.ok = true
open Classical in
noncomputable def Br.okB (b : Br) : Bool := decide b.Ok
theorem okB_iff {b : Br} : b.okB = true ↔ b.Ok := by simp [Br.okB]
theorem okB_yes {b : Br} (h : b.Ok) : b.okB = true := okB_iff.2 h
theorem okB_no {b : Br} (h : ¬ b.Ok) : b.okB = false := by
  cases e : b.okB
  · rfl
  · exact absurd (okB_iff.1 e) h
def Br.great (b : Br) : Bool := decide (40 < b.its.length ∨ 40 < b.kps.length ∨ 40 < b.cf.ms.length)
theorem great_no {b : Br} (h : b.great = false) : b.its.length ≤ 40 ∧ b.kps.length ≤ 40 ∧ b.cf.ms.length ≤ 40 := by
  simp only [Br.great, decide_eq_false_iff_not] at h; omega
/-- How many of the first k go. -/
def Br.go (b : Br) (k : Nat) : Nat := (b.kps.take k).countP fun x => goes x.ph
theorem go_yes {b : Br} {k : Nat} (h : k < b.kps.length) (hi : goes b.kps[k].ph = true) : b.go (k + 1) = b.go k + 1 := by
  rw [Br.go, List.take_succ_eq_append_getElem h, List.countP_append, List.countP_singleton, if_pos hi]; rfl
theorem go_no {b : Br} {k : Nat} (h : k < b.kps.length) (hi : goes b.kps[k].ph = false) : b.go (k + 1) = b.go k := by
  rw [Br.go, List.take_succ_eq_append_getElem h, List.countP_append, List.countP_singleton, hi]; rfl
theorem go_le (b : Br) (k : Nat) : b.go k ≤ b.kps.length := by
  refine Nat.le_trans List.countP_le_length ?_
  rw [List.length_take]; omega
theorem go_end (b : Br) : b.go b.kps.length = b.kps.countP fun x => goes x.ph := by rw [Br.go, List.take_length]
theorem tri {l : List Kp} (h : ∀ x ∈ l, 1 ≤ x.ph.toNat ∧ x.ph.toNat ≤ 10) : l.countP (fun k => stands k.ph) + l.countP (fun k => decide (k.ph.toNat = 9)) + l.countP (fun k => goes k.ph) = l.length := by
  induction l with
  | nil => rfl
  | cons x l ih =>
    have i1 := ih fun y hy => h y (List.mem_cons_of_mem _ hy)
    have i2 := h x List.mem_cons_self
    have e : (if stands x.ph = true then 1 else 0) + (if decide (x.ph.toNat = 9) = true then 1 else 0) + (if goes x.ph = true then 1 else 0) = 1 := by
      simp only [stands, goes, decide_eq_true_eq]
      split <;> split <;> split <;> omega
    simp only [List.countP_cons, List.length_cons]
    omega
theorem two_le {α : Type} {p q : α → Bool} (h : ∀ x, p x = true → q x = false) : ∀ l : List α, l.countP p + l.countP q ≤ l.length
  | [] => Nat.le_refl _
  | x :: l => by
    have i1 := two_le h l
    have e : (if p x = true then 1 else 0) + (if q x = true then 1 else 0) ≤ 1 := by
      by_cases e : p x = true
      · rw [if_pos e, h x e]; simp
      · rw [if_neg e]; split <;> omega
    simp only [List.countP_cons, List.length_cons]
    omega
theorem Br.Ok.ph {b : Br} (h : b.Ok) : ∀ x ∈ b.kps, 1 ≤ x.ph.toNat ∧ x.ph.toNat ≤ 10 := fun x hx => by
  obtain ⟨k, hk, rfl⟩ := List.mem_iff_getElem.1 hx
  have := h.kps k hk
  have e := phn_at hk
  exact ⟨by have := this.p1; omega, by have := this.p2; omega⟩
theorem sums_all {b : Br} (h : b.Ok) : b.cnt 2 + b.cnt 3 + b.go b.kps.length = b.cnt 0 := by
  rw [b.cnt_eq 2, b.cnt_eq 3, b.cnt_all, go_end]
  have h1 := tri h.ph
  have h2 := List.length_eq_countP_add_countP (fun x : It1 => x.warm) (l := b.its)
  have e1 : (fun x : It1 => (b.onI x).is 2) = fun x => !x.warm := rfl
  have e2 : (fun x : It1 => (b.onI x).is 3) = fun x => x.warm := rfl
  have e3 : (fun x : Kp => (b.onK x).is 2) = fun x => stands x.ph := rfl
  have e4 : (fun x : Kp => (b.onK x).is 3) = fun x => decide (x.ph.toNat = 9) := rfl
  have e5 : b.its.countP (fun x => !x.warm) = b.its.countP (fun x => decide (¬ x.warm = true)) := by congr 1; funext x; simp
  rw [e1, e2, e3, e4, e5]
  omega
theorem sums_old {b : Br} : b.cnt 1 + b.go b.kps.length ≤ b.cnt 0 := by
  rw [b.cnt_eq 1, b.cnt_all, go_end]
  have h1 := two_le (p := fun k : Kp => (b.onK k).is 1) (q := fun k => goes k.ph) (fun k hk => by
    have : b.old k = true := hk
    simp only [Br.old, Bool.and_eq_true, Bool.not_eq_true'] at this
    exact this.2.1) b.kps
  have h2 : b.its.countP (fun x => (b.onI x).is 1) ≤ b.its.length := List.countP_le_length
  omega
theorem sums_serve {b : Br} : b.cnt 4 ≤ b.cnt 2 := by
  refine List.countP_mono_left fun o ho h => ?_
  rcases List.mem_append.1 ho with ho | ho
  · obtain ⟨x, _, rfl⟩ := List.mem_map.1 ho
    simp [Br.onI, On.is] at h
  · obtain ⟨x, _, rfl⟩ := List.mem_map.1 ho
    simp only [Br.onK, On.is, decide_eq_true_eq, stands] at h ⊢
    omega
theorem want_eq {b : Br} (h : b.cf.ok = true) : b.want = b.cf.d + (if b.more = true then b.cf.su else 0) := by
  have h1 := Cf.in_d (Cf.ok_f h)
  have h2 := Cf.in_su (Cf.ok_f h)
  unfold Br.want
  split
  · exact w64 (by omega) (by omega)
  · omega
theorem flr_le {c : Cf} (h : c.ok = true) : c.flr ≤ c.d := by
  have h1 := Cf.in_d (Cf.ok_f h)
  have h2 := Cf.in_mn (Cf.ok_f h)
  have h3 : c.d * c.mn ≤ c.d * 100 := Int.mul_le_mul_of_nonneg_left h2.2 h1.1
  rw [Cf.flr, if_pos h, Cf.fl]
  omega
theorem bnd_ge {b : Br} (h : b.cf.ok = true) : b.want ≤ b.cf.bnd := by
  have h2 := Cf.in_su (Cf.ok_f h)
  have h3 := Cf.in_po (Cf.ok_f h)
  rw [want_eq h, Cf.bnd, if_pos h]
  split <;> omega
/-- One more that is kept. -/
def Br.addK (b : Br) (k : Kp) : Br := { b with kps := b.kps ++ [k] }
theorem add_cnt (b : Br) (k : Kp) (j : Nat) : (b.addK k).cnt j = b.cnt j + (if (b.onK k).is j = true then 1 else 0) := by
  have e : (b.addK k).ones = b.ones ++ [b.onK k] := by
    show b.its.map b.onI ++ (b.kps ++ [k]).map b.onK = _
    rw [List.map_append, ← List.append_assoc]; rfl
  rw [Br.cnt, e, List.countP_append, List.countP_singleton]; rfl
def Br.oldN (b : Br) (k : Kp) : Int := if b.old k = true then 1 else 0
def staN (k : Kp) : Int := if stands k.ph = true then 1 else 0
theorem add_0 (b : Br) (k : Kp) : ((b.addK k).cnt 0 : Int) = (b.cnt 0 : Int) + 1 := by rw [add_cnt, if_pos (show (b.onK k).is 0 = true from rfl)]; rfl
theorem add_1 (b : Br) (k : Kp) : ((b.addK k).cnt 1 : Int) = (b.cnt 1 : Int) + b.oldN k := by
  rw [add_cnt, show (b.onK k).is 1 = b.old k from rfl, Br.oldN]
  split <;> simp
theorem add_2 (b : Br) (k : Kp) : ((b.addK k).cnt 2 : Int) = (b.cnt 2 : Int) + staN k := by
  rw [add_cnt, show (b.onK k).is 2 = stands k.ph from rfl, staN]
  split <;> simp
end Go.Proofs.YtiebgcahdnaekaaDoor
