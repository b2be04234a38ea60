/-
What happens in the world, plainly.
-/
import Derived.Test.YtakkoandmkomdaaDoorClP
namespace Go.Proofs.YtakkoandmkomdaaDoor
set_option linter.unusedVariables false
open Go.RowKit
structure Ev where
  k : UInt8
  a : Int
  b : Int
def Ev.cs (e : Ev) : List Value := [.int .u8 e.k.toNat, .int .i64 e.a, .int .i64 e.b]
def Ev.v (e : Ev) : Value := .agg e.cs.toArray
def evsV (l : List Ev) : List Value := l.flatMap Ev.cs
theorem evsV_len (l : List Ev) : (evsV l).length = l.length * 3 := by
  induction l with
  | nil => rfl
  | cons b l ih => simp only [evsV, List.flatMap_cons, List.length_append, List.length_cons] at ih ⊢; rw [ih]; simp [Ev.cs]; omega
theorem evs_at {l : List Ev} {k : Nat} (h : k < l.length) : takeL (evsV l) (k * 3) 3 = some l[k].cs := by
  induction l generalizing k with
  | nil => simp at h
  | cons b l ih =>
    cases k with
    | zero => simp [evsV, Ev.cs, takeL]
    | succ k =>
      have h2 := ih (k := k) (by simpa using h)
      rw [show (k + 1) * 3 = k * 3 + 1 + 1 + 1 by omega]
      simp only [evsV, List.flatMap_cons, Ev.cs, List.cons_append, List.nil_append, takeL, List.getElem_cons_succ] at h2 ⊢
      exact h2
theorem evsV_drop (l : List Ev) (k : Nat) : (evsV l).drop (k * 3) = evsV (l.drop k) := by
  induction l generalizing k with
  | nil => simp [evsV]
  | cons b l ih =>
    cases k with
    | zero => simp
    | succ k =>
      rw [show (k + 1) * 3 = k * 3 + 1 + 1 + 1 by omega]
      have := ih k
      simp only [evsV, List.flatMap_cons, Ev.cs, List.cons_append, List.nil_append, List.drop_succ_cons] at this ⊢
      exact this
def Bx.die (b : Bx) : Bx := { b with gone := true, on := false, lb := 0 }
def Bx.flip (b : Bx) : Bx := { b with well := !b.well }
def Bx.stray (n : Nat) (v : Int) (t : Bool) : Bx := ⟨n + 1, 0, v, 0, t, true, false, true, 0, 0, 0⟩
def Bx.tick (t : Int) (b : Bx) : Bx := if b.lb = 2 ∧ b.unt ≤ t then { b with lb := 0 } else b
/-- Something is done to the box of an id. -/
def onB (c : Cl) (id : Int) (f : Bx → Bx) : Cl := match fnd c.bs id with
  | some i => { c with bs := c.bs.set i (f (c.bs.getD i Bx.zero)) }
  | none => c
def strayC (c : Cl) (v : Int) (t : Bool) : Cl := if c.bs.length < 60 ∧ okN v = true then { c with bs := c.bs ++ [Bx.stray c.bs.length v t] } else c
def tickC (c : Cl) : Cl := if 1099511627776 ≤ c.now then c else { c with now := c.now + 1, bs := c.bs.map (Bx.tick (c.now + 1)) }
def floorC (c : Cl) (a b : Int) : Cl := if okN a = true ∧ okN b = true then { c with fl := a, dr := b } else c
/-- What an event does, to a cloud that may be. -/
def happ (c : Cl) (e : Ev) : Cl :=
  if e.k = 1 then onB c e.a Bx.die
  else if e.k = 2 then onB c e.a Bx.flip
  else if e.k = 3 then strayC c e.a (decide (e.b ≠ 0))
  else if e.k = 4 then { c with ti := !c.ti }
  else if e.k = 5 then tickC c
  else if e.k = 6 then floorC c e.a e.b
  else c
noncomputable def doE (c : Cl) (e : Ev) : Cl := if c.ok = true then happ c e else c
noncomputable def allE (c : Cl) (l : List Ev) : Cl := l.foldl doE c
def falls (e : Ev) : Bool := decide (e.k = 1) || decide (e.k = 2)
theorem doE_ok {c : Cl} (h : c.Ok) (e : Ev) : doE c e = happ c e := if_pos (Cl.ok_iff.2 h)
theorem doE_no {c : Cl} (h : ¬ c.Ok) (e : Ev) : doE c e = c := if_neg (by rw [Cl.ok_no h]; simp)
theorem getD_at {l : List Bx} {i : Nat} (h : i < l.length) : l.getD i Bx.zero = l[i] := by rw [List.getD_eq_getElem?_getD, List.getElem?_eq_getElem h]; rfl
/-- The ways of an event. -/
theorem happ_ways {p : Cl → Prop} (c : Cl) (e : Ev) (h1 : e.k = 1 → p (onB c e.a Bx.die)) (h2 : e.k = 2 → p (onB c e.a Bx.flip)) (h3 : e.k = 3 → p (strayC c e.a (decide (e.b ≠ 0)))) (h4 : e.k = 4 → p { c with ti := !c.ti }) (h5 : e.k = 5 → p (tickC c)) (h6 : e.k = 6 → p (floorC c e.a e.b))
    (h7 : e.k ≠ 1 → e.k ≠ 2 → e.k ≠ 3 → e.k ≠ 4 → e.k ≠ 5 → e.k ≠ 6 → p c) : p (happ c e) := by
  unfold happ
  split
  · exact h1 (by assumption)
  · split
    · exact h2 (by assumption)
    · split
      · exact h3 (by assumption)
      · split
        · exact h4 (by assumption)
        · split
          · exact h5 (by assumption)
          · split
            · exact h6 (by assumption)
            · exact h7 (by assumption) (by assumption) (by assumption) (by assumption) (by assumption) (by assumption)
theorem onB_ways {p : Cl → Prop} (c : Cl) (id : Int) (f : Bx → Bx) (h1 : ∀ i, (hi : i < c.bs.length) → fnd c.bs id = some i → c.bs[i].id = id → c.bs[i].gone = false → p { c with bs := c.bs.set i (f c.bs[i]) }) (h2 : fnd c.bs id = none → p c) : p (onB c id f) := by
  unfold onB
  cases h : fnd c.bs id with
  | none => exact h2 h
  | some i =>
    obtain ⟨hi, h3, h4⟩ := fnd_some h
    show p { c with bs := c.bs.set i (f (c.bs.getD i Bx.zero)) }
    rw [getD_at hi]
    exact h1 i hi h h3 h4
theorem okB_set {l : List Bx} {i : Nat} {b : Bx} (h : okB l) (hi : i < l.length) (h1 : b.okAt i) (h2 : b.tok = l[i].tok) : okB (l.set i b) := fun j hj => by
  simp only [List.length_set] at hj
  have ht : ∀ k, (hk : k < l.length) → (l.set i b)[k]'(by simpa using hk) = if i = k then b else l[k] := fun k hk => List.getElem_set ..
  have htok : ∀ k, (hk : k < l.length) → ((l.set i b)[k]'(by simpa using hk)).tok = l[k].tok := fun k hk => by
    rw [ht k hk]; split
    · rename_i e; subst e; exact h2
    · rfl
  refine ⟨?_, fun k hk => ?_⟩
  · rw [ht j hj]; split
    · rename_i e; subst e; exact h1
    · exact (h j hj).1
  · rw [htok j hj, htok k (by omega)]
    exact (h j hj).2 k hk
theorem Bx.okAt_die {b : Bx} {i : Nat} (h : b.okAt i) : b.die.okAt i := ⟨h.1, h.2.1, h.2.2.1, h.2.2.2.1, by simp [Bx.die], by simp [Bx.die], by simp [Bx.die]⟩
theorem Bx.okAt_flip {b : Bx} {i : Nat} (h : b.okAt i) : b.flip.okAt i := h
theorem Bx.okAt_tick {b : Bx} {i : Nat} (t : Int) (h : b.okAt i) : (b.tick t).okAt i := by
  unfold Bx.tick
  split
  · exact ⟨h.1, h.2.1, h.2.2.1, h.2.2.2.1, by simp, by simp, h.2.2.2.2.2.2⟩
  · exact h
theorem Bx.tick_same (t : Int) (b : Bx) : (b.tick t).id = b.id ∧ (b.tick t).tok = b.tok ∧ (b.tick t).ver = b.ver ∧ (b.tick t).zon = b.zon ∧ (b.tick t).on = b.on ∧ (b.tick t).gone = b.gone ∧ (b.tick t).fen = b.fen ∧ (b.tick t).unt = b.unt ∧ (b.tick t).cnt = b.cnt := by
  unfold Bx.tick
  split
  · rename_i h; simp [Bx.cnt, h.1]
  · simp
theorem okB_map {l : List Bx} (h : okB l) (t : Int) : okB (l.map (Bx.tick t)) := fun j hj => by
  simp only [List.length_map] at hj
  refine ⟨by rw [List.getElem_map]; exact Bx.okAt_tick t (h j hj).1, fun k hk => ?_⟩
  rw [List.getElem_map, List.getElem_map, (Bx.tick_same t _).2.1, (Bx.tick_same t _).2.1]
  exact (h j hj).2 k hk
theorem okB_snoc {l : List Bx} {b : Bx} (h : okB l) (h1 : b.okAt l.length) (h2 : 0 < b.tok → ∀ x ∈ l, x.tok ≠ b.tok) : okB (l ++ [b]) := fun j hj => by
  simp only [List.length_append, List.length_singleton] at hj
  by_cases hjl : j < l.length
  · rw [List.getElem_append_left hjl]
    refine ⟨(h j hjl).1, fun k hk => ?_⟩
    rw [List.getElem_append_left (by omega)]
    exact (h j hjl).2 k hk
  · obtain rfl : j = l.length := by omega
    rw [List.getElem_concat_length rfl]
    refine ⟨h1, fun k hk => ?_⟩
    rw [List.getElem_append_left hk]
    exact fun ht => h2 ht _ (List.getElem_mem _)
theorem happ_Ok {c : Cl} (h : c.Ok) (e : Ev) : (happ c e).Ok := by
  have hon : ∀ f : Bx → Bx, (∀ b i, Bx.okAt b i → (f b).okAt i) → (∀ b, (f b).tok = b.tok) → ∀ id, (onB c id f).Ok := fun f h1 h2 id =>
    onB_ways c id f (fun i hi _ _ _ => ⟨by simpa using h.len, h.fl, h.dr, h.now, okB_set h.bs hi (h1 _ _ (h.bs i hi).1) (h2 _)⟩) fun _ => h
  refine happ_ways c e (fun _ => hon _ (fun b i h => Bx.okAt_die h) (fun b => rfl) _) (fun _ => hon _ (fun b i h => Bx.okAt_flip h) (fun b => rfl) _) (fun _ => ?_) (fun _ => ⟨h.len, h.fl, h.dr, h.now, h.bs⟩) (fun _ => ?_) (fun _ => ?_) (fun _ _ _ _ _ _ => h)
  · unfold strayC
    split
    · rename_i hs
      exact ⟨by simp; omega, h.fl, h.dr, h.now, okB_snoc h.bs ⟨rfl, by simp [Bx.stray, okN], hs.2, by simp [Bx.stray, okN], by simp [Bx.stray], by simp [Bx.stray], by simp [Bx.stray]⟩ (by simp [Bx.stray])⟩
    · exact h
  · unfold tickC
    split
    · exact h
    · have := okN_iff.1 h.now
      exact ⟨by simpa using h.len, h.fl, h.dr, okN_iff.2 (by simp only; omega), okB_map h.bs _⟩
  · unfold floorC
    split
    · rename_i hs; exact ⟨h.len, hs.1, hs.2, h.now, h.bs⟩
    · exact h
theorem doE_Ok {c : Cl} (h : c.Ok) (e : Ev) : (doE c e).Ok := by rw [doE_ok h]; exact happ_Ok h e
theorem allE_Ok {c : Cl} (h : c.Ok) (l : List Ev) : (allE c l).Ok := by
  induction l generalizing c with
  | nil => exact h
  | cons e l ih => exact ih (doE_Ok h e)
/-- How many boxes there are. -/
theorem happ_len (c : Cl) (e : Ev) : c.bs.length ≤ (happ c e).bs.length ∧ (happ c e).bs.length ≤ c.bs.length + 1 ∧ ((happ c e).bs.length = c.bs.length + 1 ↔ e.k = 3 ∧ c.bs.length < 60 ∧ okN e.a = true) := by
  have hon : ∀ (f : Bx → Bx) id, (onB c id f).bs.length = c.bs.length := fun f id => onB_ways (p := fun d => d.bs.length = c.bs.length) c id f (fun i hi _ _ _ => by simp) fun _ => rfl
  refine happ_ways (p := fun d => c.bs.length ≤ d.bs.length ∧ d.bs.length ≤ c.bs.length + 1 ∧ (d.bs.length = c.bs.length + 1 ↔ e.k = 3 ∧ c.bs.length < 60 ∧ okN e.a = true)) c e ?_ ?_ ?_ ?_ ?_ ?_ ?_
  · intro hk; rw [hon, hk]; simp
  · intro hk; rw [hon, hk]; simp
  · intro hk
    unfold strayC
    split
    · rename_i hs; simp [hk, hs]
    · rename_i hs; simp [hk]; simpa using hs
  · intro hk; rw [hk]; simp
  · intro hk; unfold tickC; split <;> (rw [hk]; simp)
  · intro hk; unfold floorC; split <;> (rw [hk]; simp)
  · intro _ _ h3 _ _ _; simp [h3]
theorem happ_now (c : Cl) (e : Ev) : c.now ≤ (happ c e).now ∧ (happ c e).now ≤ c.now + 1 ∧ (e.k ≠ 5 → (happ c e).now = c.now) := by
  have hon : ∀ (f : Bx → Bx) id, (onB c id f).now = c.now := fun f id => onB_ways (p := fun d => d.now = c.now) c id f (fun i hi _ _ _ => rfl) fun _ => rfl
  refine happ_ways (p := fun d => c.now ≤ d.now ∧ d.now ≤ c.now + 1 ∧ (e.k ≠ 5 → d.now = c.now)) c e ?_ ?_ ?_ ?_ ?_ ?_ ?_
  · intro hk; rw [hon]; exact ⟨by omega, by omega, fun _ => rfl⟩
  · intro hk; rw [hon]; exact ⟨by omega, by omega, fun _ => rfl⟩
  · intro hk; unfold strayC; split <;> exact ⟨Int.le_refl _, by show c.now ≤ c.now + 1; omega, fun _ => rfl⟩
  · intro hk; exact ⟨Int.le_refl _, by show c.now ≤ c.now + 1; omega, fun _ => rfl⟩
  · intro hk; unfold tickC; split <;> first | exact ⟨Int.le_refl _, by omega, fun h => (h hk).elim⟩ | exact ⟨by show c.now ≤ c.now + 1; omega, Int.le_refl _, fun h => (h hk).elim⟩
  · intro hk; unfold floorC; split <;> exact ⟨Int.le_refl _, by show c.now ≤ c.now + 1; omega, fun _ => rfl⟩
  · intros; exact ⟨by omega, by omega, fun _ => rfl⟩
/-- What an event may do to a box. -/
def evBox (e : Ev) (a b : Bx) : Prop := (a.gone = true → b.gone = true) ∧ b.id = a.id ∧ b.tok = a.tok ∧ b.ver = a.ver ∧ b.fen = a.fen ∧ (b.on = true → a.on = true) ∧ (b ≠ a → e.k = 5 ∨ (e.k = 1 ∨ e.k = 2) ∧ a.id = e.a)
theorem evBox_refl (e : Ev) (a : Bx) : evBox e a a := ⟨id, rfl, rfl, rfl, rfl, id, fun h => (h rfl).elim⟩
theorem happ_box (c : Cl) (e : Ev) (k : Nat) (hk : k < c.bs.length) : evBox e c.bs[k] ((happ c e).bs[k]'(Nat.lt_of_lt_of_le hk (happ_len c e).1)) := by
  have key : ∀ d : Cl, (∃ h : k < d.bs.length, evBox e c.bs[k] d.bs[k]) → (h : k < d.bs.length) → evBox e c.bs[k] d.bs[k] := fun d ⟨_, h⟩ _ => h
  refine key _ ?_ _
  have hon : ∀ (f : Bx → Bx), (∀ i, (hi : i < c.bs.length) → c.bs[i].id = e.a → evBox e c.bs[i] (f c.bs[i])) → ∃ h : k < (onB c e.a f).bs.length, evBox e c.bs[k] (onB c e.a f).bs[k] := fun f hf => by
    refine onB_ways (p := fun d => ∃ h : k < d.bs.length, evBox e c.bs[k] d.bs[k]) c e.a f (fun i hi _ h1 h2 => ⟨by simpa using hk, ?_⟩) fun _ => ⟨hk, evBox_refl e _⟩
    simp only [List.getElem_set]
    split
    · rename_i h; subst h; exact hf i hi h1
    · exact evBox_refl e _
  refine happ_ways (p := fun d => ∃ h : k < d.bs.length, evBox e c.bs[k] d.bs[k]) c e ?_ ?_ ?_ ?_ ?_ ?_ ?_
  · intro hk1; exact hon _ fun i hi h => ⟨fun _ => rfl, rfl, rfl, rfl, rfl, fun h => (by cases h), fun _ => .inr ⟨.inl hk1, h⟩⟩
  · intro hk1; exact hon _ fun i hi h => ⟨id, rfl, rfl, rfl, rfl, id, fun _ => .inr ⟨.inr hk1, h⟩⟩
  · intro hk1
    unfold strayC
    split
    · exact ⟨by simp; omega, by simp only [List.getElem_append_left hk]; exact evBox_refl e _⟩
    · exact ⟨hk, evBox_refl e _⟩
  · intro _; exact ⟨hk, evBox_refl e _⟩
  · intro hk1
    unfold tickC
    split
    · exact ⟨hk, evBox_refl e _⟩
    · refine ⟨by simpa using hk, ?_⟩
      simp only [List.getElem_map]
      obtain ⟨h1, h2, h3, h4, h5, h6, h7, h8, h9⟩ := Bx.tick_same (c.now + 1) c.bs[k]
      exact ⟨fun h => by rw [h6]; exact h, h1, h2, h3, h7, fun h => by rw [← h5]; exact h, fun _ => .inl hk1⟩
  · intro _; unfold floorC; split <;> exact ⟨hk, evBox_refl e _⟩
  · intros; exact ⟨hk, evBox_refl e _⟩
/-- H falls by at most one, and by what may let it fall. -/
theorem happ_H (c : Cl) (e : Ev) : c.H ≤ (happ c e).H + 1 ∧ ((happ c e).H < c.H → falls e = true) := by
  have hon : ∀ (f : Bx → Bx) id, c.H ≤ (onB c id f).H + 1 := fun f id => onB_ways (p := fun d => c.H ≤ d.H + 1) c id f (fun i hi _ _ _ => by
    simp only [Cl.H]
    have h1 : c.bs.countP Bx.cnt ≤ (c.bs.take i).countP Bx.cnt + 1 + (c.bs.drop (i + 1)).countP Bx.cnt := by
      conv => lhs; rw [← List.take_append_drop i c.bs]
      rw [List.countP_append, List.drop_eq_getElem_cons hi, List.countP_cons]
      split <;> omega
    have h2 : (c.bs.take i).countP Bx.cnt + (c.bs.drop (i + 1)).countP Bx.cnt ≤ (c.bs.set i (f c.bs[i])).countP Bx.cnt := by
      rw [List.set_eq_take_append_cons_drop, if_pos hi, List.countP_append, List.countP_cons]
      omega
    omega) fun _ => by omega
  refine happ_ways (p := fun d => c.H ≤ d.H + 1 ∧ (d.H < c.H → falls e = true)) c e ?_ ?_ ?_ ?_ ?_ ?_ ?_
  · intro hk; exact ⟨hon _ _, fun _ => by simp [falls, hk]⟩
  · intro hk; exact ⟨hon _ _, fun _ => by simp [falls, hk]⟩
  · intro hk
    have : (strayC c e.a (decide (e.b ≠ 0))).H = c.H := by
      unfold strayC
      split
      · simp [Cl.H, List.countP_append, Bx.cnt, Bx.stray]
      · rfl
    rw [this]; exact ⟨by omega, fun h => by omega⟩
  · intro hk; exact ⟨by simp [Cl.H], fun h => by simp [Cl.H] at h⟩
  · intro hk
    have : (tickC c).H = c.H := by
      unfold tickC
      split
      · rfl
      · simp only [Cl.H, List.countP_map]
        congr 1
        funext b
        exact (Bx.tick_same _ b).2.2.2.2.2.2.2.2
    rw [this]; exact ⟨by omega, fun h => by omega⟩
  · intro hk
    have : (floorC c e.a e.b).H = c.H := by unfold floorC; split <;> rfl
    rw [this]; exact ⟨by omega, fun h => by omega⟩
  · intros; exact ⟨by omega, fun h => by omega⟩
theorem happ_ti (c : Cl) (e : Ev) : (happ c e).ti = if e.k = 4 then !c.ti else c.ti := by
  have hon : ∀ (f : Bx → Bx) id, (onB c id f).ti = c.ti := fun f id => onB_ways (p := fun d => d.ti = c.ti) c id f (fun i hi _ _ _ => rfl) fun _ => rfl
  refine happ_ways (p := fun d => d.ti = if e.k = 4 then !c.ti else c.ti) c e ?_ ?_ ?_ ?_ ?_ ?_ ?_
  · intro hk; rw [hon, hk]; rfl
  · intro hk; rw [hon, hk]; rfl
  · intro hk; unfold strayC; split <;> (rw [hk]; rfl)
  · intro hk; rw [hk]; rfl
  · intro hk; unfold tickC; split <;> (rw [hk]; rfl)
  · intro hk; unfold floorC; split <;> (rw [hk]; rfl)
  · intro _ _ _ h4 _ _; rw [if_neg h4]
theorem happ_fl (c : Cl) (e : Ev) (h : e.k ≠ 6) : (happ c e).fl = c.fl ∧ (happ c e).dr = c.dr := by
  have hon : ∀ (f : Bx → Bx) id, (onB c id f).fl = c.fl ∧ (onB c id f).dr = c.dr := fun f id => onB_ways (p := fun d => d.fl = c.fl ∧ d.dr = c.dr) c id f (fun i hi _ _ _ => ⟨rfl, rfl⟩) fun _ => ⟨rfl, rfl⟩
  refine happ_ways (p := fun d => d.fl = c.fl ∧ d.dr = c.dr) c e ?_ ?_ ?_ ?_ ?_ ?_ ?_
  · intro hk; exact hon _ _
  · intro hk; exact hon _ _
  · intro hk; unfold strayC; split <;> exact ⟨rfl, rfl⟩
  · intro hk; exact ⟨rfl, rfl⟩
  · intro hk; unfold tickC; split <;> exact ⟨rfl, rfl⟩
  · intro hk; exact (h hk).elim
  · intros; exact ⟨rfl, rfl⟩
end Go.Proofs.YtakkoandmkomdaaDoor
