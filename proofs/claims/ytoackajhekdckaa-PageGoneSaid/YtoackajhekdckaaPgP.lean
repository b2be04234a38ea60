/-
Pages, plainly.
-/
import Derived.Test.YtoackajhekdckaaClP
namespace Go.Proofs.Ytoackajhekdckaa
set_option linter.unusedVariables false
open Go.RowKit
structure Sn where
  id : Int
  tok : Int
  ver : Int
  zon : Int
  on : Bool
  well : Bool
  inn : Bool
def Sn.cs (s : Sn) : List Value := [.int .i64 s.id, .int .i64 s.tok, .int .i64 s.ver, .int .i64 s.zon, .bool s.on, .bool s.well, .bool s.inn]
def Sn.v (s : Sn) : Value := .agg s.cs.toArray
theorem Sn.cs_inj {a b : Sn} : a.cs = b.cs ↔ a = b := by
  cases a; cases b; simp [Sn.cs]
theorem Sn.all_inj {a b : Sn} : (a.id = b.id ∧ a.tok = b.tok ∧ a.ver = b.ver ∧ a.zon = b.zon ∧ a.on = b.on ∧ a.well = b.well ∧ a.inn = b.inn) ↔ a = b := by
  cases a; cases b; simp
instance : DecidableEq Sn := fun a b => decidable_of_iff (a.id = b.id ∧ a.tok = b.tok ∧ a.ver = b.ver ∧ a.zon = b.zon ∧ a.on = b.on ∧ a.well = b.well ∧ a.inn = b.inn) Sn.all_inj
def snsV (l : List Sn) : List Value := l.flatMap Sn.cs
theorem snsV_len (l : List Sn) : (snsV l).length = l.length * 7 := by
  induction l with
  | nil => rfl
  | cons b l ih => simp only [snsV, List.flatMap_cons, List.length_append, List.length_cons] at ih ⊢; rw [ih]; simp [Sn.cs]; omega
theorem sns_at {l : List Sn} {k : Nat} (h : k < l.length) : takeL (snsV l) (k * 7) 7 = some l[k].cs := by
  induction l generalizing k with
  | nil => simp at h
  | cons b l ih =>
    cases k with
    | zero => simp [snsV, Sn.cs, takeL]
    | succ k =>
      have h2 := ih (k := k) (by simpa using h)
      rw [show (k + 1) * 7 = k * 7 + 1 + 1 + 1 + 1 + 1 + 1 + 1 by omega]
      simp only [snsV, List.flatMap_cons, Sn.cs, List.cons_append, List.nil_append, takeL, List.getElem_cons_succ] at h2 ⊢
      exact h2
theorem sns_f {l : List Sn} {k : Nat} (h : k < l.length) (f : Nat) {v : Value} (hv : l[k].cs[f]? = some v) : (snsV l)[k * 7 + f]? = some v := (takeL_spec (sns_at h)).2 f v hv
theorem sns_one (l : List Sn) : ∀ u ∈ snsV l, u.oneCell' = true := by
  intro u hu
  obtain ⟨b, _, hb⟩ := List.mem_flatMap.1 hu
  simp only [Sn.cs, List.mem_cons, List.not_mem_nil, or_false] at hb
  rcases hb with rfl | rfl | rfl | rfl | rfl | rfl | rfl <;> rfl
theorem snsV_app (l m : List Sn) : snsV (l ++ m) = snsV l ++ snsV m := List.flatMap_append
theorem snsV_take (l : List Sn) (k : Nat) : (snsV l).take (k * 7) = snsV (l.take k) := by
  induction l generalizing k with
  | nil => simp [snsV]
  | cons b l ih =>
    cases k with
    | zero => simp [snsV]
    | succ k =>
      rw [show (k + 1) * 7 = k * 7 + 1 + 1 + 1 + 1 + 1 + 1 + 1 by omega]
      have := ih k
      simp only [snsV, List.flatMap_cons, Sn.cs, List.cons_append, List.nil_append, List.take_succ_cons] at this ⊢
      rw [this]
theorem snsV_inj {l m : List Sn} : snsV l = snsV m ↔ l = m := by
  refine ⟨fun h => ?_, fun h => by rw [h]⟩
  have hl : l.length = m.length := by
    have := congrArg List.length h
    rw [snsV_len, snsV_len] at this; omega
  refine List.ext_getElem hl fun k h1 h2 => ?_
  have h3 := sns_at h1
  rw [h, sns_at h2] at h3
  exact (Sn.cs_inj.1 (Option.some.inj h3)).symm
def Bx.seen (b : Bx) : Sn := ⟨b.id, b.tok, b.ver, b.zon, b.on, b.well, decide (b.lb = 1)⟩
/-- Is a box shown behind an id? -/
def Bx.sh (be : Int) (b : Bx) : Bool := b.tag && !b.gone && decide (be < b.id)
noncomputable def shw (c : Cl) (be : Int) : List Sn := if c.ok = true then (c.bs.filter (Bx.sh be)).map Bx.seen else []
def nxt (l : List Sn) (be : Int) : Int := l.foldl (fun b x => max b x.id) be
theorem nxt_le (l : List Sn) (be : Int) : be ≤ nxt l be ∧ ∀ x ∈ l, x.id ≤ nxt l be := by
  induction l generalizing be with
  | nil => exact ⟨Int.le_refl _, fun x h => by simp at h⟩
  | cons y l ih =>
    have h := ih (max be y.id)
    refine ⟨Int.le_trans (by omega) h.1, fun x hx => ?_⟩
    rcases List.mem_cons.1 hx with rfl | hx
    · exact Int.le_trans (by omega) h.1
    · exact h.2 x hx
theorem nxt_lt (l : List Sn) (be m : Int) (h1 : be < m) (h2 : ∀ x ∈ l, x.id < m) : nxt l be < m := by
  induction l generalizing be with
  | nil => exact h1
  | cons y l ih => exact ih _ (show max be y.id < m by have := h2 y (List.mem_cons_self ..); omega) fun x hx => h2 x (List.mem_cons_of_mem _ hx)
abbrev Rise (l : List Sn) : Prop := l.Pairwise fun a b => a.id < b.id
theorem rise_ok {l : List Bx} (h : okB l) (be : Int) : Rise ((l.filter (Bx.sh be)).map Bx.seen) := by
  refine List.pairwise_map.2 (List.Pairwise.filter _ ?_)
  rw [List.pairwise_iff_getElem]
  intro i j hi hj hij
  have h1 := (h i hi).1.1
  have h2 := (h j hj).1.1
  show l[i].id < l[j].id
  omega
theorem shw_rise (c : Cl) (be : Int) : Rise (shw c be) := by
  unfold shw
  split
  · rename_i h; exact rise_ok (Cl.ok_iff.1 h).bs be
  · exact List.Pairwise.nil
theorem shw_gt (c : Cl) (be : Int) : ∀ x ∈ shw c be, be < x.id := by
  unfold shw
  split
  · intro x hx
    obtain ⟨b, hb, rfl⟩ := List.mem_map.1 hx
    have := (List.mem_filter.1 hb).2
    simp only [Bx.sh, Bool.and_eq_true, decide_eq_true_eq] at this
    exact this.2
  · intro x hx; simp at hx
theorem shw_more (c : Cl) {be be' : Int} (h : be ≤ be') : shw c be' = (shw c be).filter fun x => decide (be' < x.id) := by
  unfold shw
  split
  · rw [List.filter_map, List.filter_filter]
    congr 1
    refine List.filter_congr fun b _ => ?_
    simp only [Bx.sh, Function.comp, Bx.seen]
    by_cases h1 : be' < b.id
    · have : be < b.id := by omega
      simp [h1, this]
    · simp [h1]
  · simp
theorem rise_page {l : List Sn} {be : Int} (h : Rise l) (hb : ∀ x ∈ l, be < x.id) (n : Nat) : (l.filter fun x => decide (nxt (l.take n) be < x.id)) = l.drop n := by
  have h1 : ∀ x ∈ l.take n, ¬ nxt (l.take n) be < x.id := fun x hx => by have := (nxt_le (l.take n) be).2 x hx; omega
  have h2 : ∀ x ∈ l.drop n, nxt (l.take n) be < x.id := fun x hx => nxt_lt _ _ _ (hb x (List.mem_of_mem_drop hx)) fun y hy => by
    rw [← List.take_append_drop n l] at h
    exact (List.pairwise_append.1 h).2.2 y hy x hx
  conv => lhs; arg 2; rw [← List.take_append_drop n l]
  rw [List.filter_append, List.filter_eq_nil_iff.2 (fun x hx => by simpa using h1 x hx), List.filter_eq_self.2 (fun x hx => by simpa using h2 x hx), List.nil_append]
/-- The next page goes on where the one ahead ended. -/
theorem shw_next (c : Cl) (be : Int) (n : Nat) : shw c (nxt ((shw c be).take n) be) = (shw c be).drop n := by
  rw [shw_more c (nxt_le _ be).1]
  exact rise_page (shw_rise c be) (shw_gt c be) n
theorem shw_len (c : Cl) (be : Int) : (shw c be).length ≤ 60 := by
  unfold shw
  split
  · rename_i h
    have h1 := (Cl.ok_iff.1 h).len
    have h2 := List.length_filter_le (Bx.sh be) c.bs
    simp; omega
  · simp
theorem nxt_take {l : List Sn} {k : Nat} (h : k < l.length) (be : Int) : nxt (l.take (k + 1)) be = max (nxt (l.take k) be) l[k].id := by
  rw [List.take_succ_eq_append_getElem h, nxt, List.foldl_append]; rfl
noncomputable def shCs (c : Cl) (x : AdC) : List Value := if c.ok = true then c.cs x else ({ c with bs := [] } : Cl).cs (none, 0)
theorem shCs_ok {c : Cl} (h : c.ok = true) (x : AdC) : shCs c x = c.cs x := if_pos h
theorem shCs_no {c : Cl} (h : c.ok = false) (x : AdC) : shCs c x = ({ c with bs := [] } : Cl).cs (none, 0) := if_neg (by simp [h])
theorem shw_ok {c : Cl} (h : c.ok = true) (be : Int) : shw c be = (c.bs.filter (Bx.sh be)).map Bx.seen := if_pos h
theorem shw_no {c : Cl} (h : c.ok = false) (be : Int) : shw c be = [] := if_neg (by simp [h])
theorem fil_at (q : Bx → Bool) {l : List Bx} {k : Nat} (h : k < l.length) (hq : q l[k] = true) : (l.filter q)[(l.take k).countP q]? = some l[k] := by
  induction l generalizing k with
  | nil => simp at h
  | cons b l ih =>
    cases k with
    | zero =>
      have hq' : q b = true := by simpa using hq
      simp [hq']
    | succ k =>
      have h2 := ih (k := k) (by simpa using h) (by simpa using hq)
      by_cases hb : q b = true
      · rw [List.filter_cons, if_pos hb, List.take_succ_cons, List.countP_cons, if_pos hb, List.getElem?_cons_succ]
        exact h2
      · rw [List.filter_cons, if_neg hb, List.take_succ_cons, List.countP_cons, if_neg hb]
        exact h2
/-- The shown ones that an iterator yields. -/
def snY (l : List Sn) (k : Nat) : List Value := [(match l[k]? with
  | some s => s.v
  | none => Sn.v ⟨0, 0, 0, 0, false, false, false⟩)]
theorem snY_at {l : List Sn} {k : Nat} (h : k < l.length) : snY l k = [l[k].v] := by rw [snY, List.getElem?_eq_getElem h]
theorem snY_fil (q : Bx → Bool) {l : List Bx} {k : Nat} (h : k < l.length) (hq : q l[k] = true) : snY ((l.filter q).map Bx.seen) ((l.take k).countP q) = [l[k].seen.v] := by
  rw [snY, List.getElem?_map, fil_at q h hq]; rfl
abbrev Pg := AdC × List Sn
def pgS (ps : List Pg) : List Slc := ps.map fun p => (p.1, p.2.length, snsV p.2)
def flatP (ps : List Pg) : List Sn := ps.flatMap (·.2)
theorem pgS_flat (ps : List Pg) : flatS (pgS ps) = snsV (flatP ps) := by
  induction ps with
  | nil => rfl
  | cons p ps ih => simp only [flatS, pgS, flatP, List.map_cons, List.flatMap_cons, snsV_app] at ih ⊢; rw [ih]
theorem pgS_sum (ps : List Pg) : sumS (pgS ps) = (flatP ps).length := by
  induction ps with
  | nil => rfl
  | cons p ps ih => simp only [sumS, pgS, flatP, List.map_cons, List.flatMap_cons, List.sum_cons, List.length_append] at ih ⊢; rw [ih]
theorem pgS_len (ps : List Pg) : (pgS ps).length = ps.length := by simp [pgS]
theorem pgS_len7 (ps : List Pg) : ∀ z ∈ pgS ps, z.2.2.length = z.2.1 * 7 := by
  intro z hz
  obtain ⟨p, _, rfl⟩ := List.mem_map.1 hz
  exact snsV_len _
theorem pgS_one (ps : List Pg) : ∀ z ∈ pgS ps, ∀ u ∈ z.2.2, u.oneCell' = true := by
  intro z hz
  obtain ⟨p, _, rfl⟩ := List.mem_map.1 hz
  exact sns_one _
/-- Pages that are one behind the other. -/
structure Pgs (ps : List Pg) : Prop where
  len : ps.length ≤ 100
  three : ∀ p ∈ ps, p.2.length ≤ 3
  full : ∀ i, (h : i + 1 < ps.length) → ps[i].2 ≠ []
  rise : Rise (flatP ps)
theorem flatP_le {ps : List Pg} (h : ∀ p ∈ ps, p.2.length ≤ 3) : (flatP ps).length ≤ 3 * ps.length := by
  induction ps with
  | nil => simp [flatP]
  | cons p ps ih =>
    have h1 := ih fun q hq => h q (List.mem_cons_of_mem _ hq)
    have h2 := h p (List.mem_cons_self ..)
    simp only [flatP, List.flatMap_cons, List.length_append, List.length_cons] at h1 ⊢
    omega
theorem rise_at {l : List Sn} (h : Rise l) {k : Nat} (hk : k < l.length) (h0 : 0 < k) : l[k - 1].id < l[k].id := List.pairwise_iff_getElem.1 h _ _ _ _ (by omega)
end Go.Proofs.Ytoackajhekdckaa
