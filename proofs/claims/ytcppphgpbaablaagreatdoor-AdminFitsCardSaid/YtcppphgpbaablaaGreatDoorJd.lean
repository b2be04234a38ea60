/-
The logic of walks: regions that draw their order.
Conditions: none; no program in sight.
-/
import Derived.Test.YtcppphgpbaablaaGreatDoorJm
import Derived.Test.YtcppphgpbaablaaGreatDoorDrs
namespace Go.Proofs.YtcppphgpbaablaaGreatDoor
set_option linter.unusedVariables false
open Go.RowKit

/-- What is known of a head operation's result beside its being 'res x' for some x. -/
def ndPh {α : Type} (X : Nat → Prop) (res : α → Value) (post : α → List Fact) : Dr.Ph := .inr (fun u => ∃ x, u = res x, fun u W => ∃ x, u = res x ∧ ∀ φ ∈ post x, φ.p X W)

/-- A block that is known whole, that lies beside X, and is not from before the call. -/
def Fact.blkF (m : Nat) (b : Nat) (T : TypeId) (cs : List Value) : Fact where
  p := fun X W => W.heap[b]? = some (.cells cs.toArray T (0, 0)) ∧ ¬ X b ∧ m ≤ b
  fr := fun X X' W W' h hf hx => by
    have hb := (Array.getElem?_eq_some_iff.1 h.1).1
    exact ⟨(hf.block b hb h.2.1).trans h.1, fun h' => (hx b h').elim h.2.1 (fun h2 => by omega), h.2.2⟩

def kAt (K : List (List Fact)) (j : Nat) : List Fact := (K[j]?).getD []
/-- What the operations say for which an operation waits. -/
def kOf (K : List (List Fact)) : List Nat → List Fact
  | [] => []
  | j :: js => kAt K j ++ kOf K js
theorem mem_kOf {K : List (List Fact)} : ∀ {js : List Nat} {φ : Fact}, φ ∈ kOf K js → ∃ j ∈ js, φ ∈ kAt K j
  | [], φ, h => by simp [kOf] at h
  | j :: js, φ, h => by
    rcases List.mem_append.1 h with h | h
    · exact ⟨j, by simp, h⟩
    · obtain ⟨k, h1, h2⟩ := mem_kOf h; exact ⟨k, by simp [h1], h2⟩

def xr (C : Cx) (R : List Res) : Nat → Prop := fun b => C.X0 b ∨ ownL R b

/-- The head's walk. -/
def Jr (P : Program) (C : Cx) (n : Nat × List Nat) (ops : Array Oper) (Q : Exit → Act → World → Prop) (tail : List Oper) (al : List Nat) (all : List Dr.Ph) (R : List Res) (Φ : List Fact)
    (rem : List Oper) (Φr : List Dr.Ph) (i : Nat) (vs : List Value) (K : List (List Fact)) (env : List (Nat × Value)) : Prop :=
  vs.length = i → K.length = i → i ≤ all.length →
  (∀ j φ, j < i → all[j]? = some (.inr φ) → ∀ W', φ.1 (vs.getD j undef) → φ.2 (vs.getD j undef) W' → ∀ f ∈ kAt K j, f.p (xr C R) W') →
  (∀ j x, j < i → all[j]? = some (.inl x) → kAt K j = []) →
  (∀ j, all[i + j]? = Φr[j]?) →
  ∀ a W, Env n env a → Sat C R Φ W → Dr.RG P ops Q tail W.drew al all rem Φr i vs a

theorem foreign_of_below {W W' : World} (h : Below W.heap.size W W') : Foreign (fun _ => False) W W' := ⟨h.os, h.tape, h.output, h.size, fun b hb _ => h.block b hb⟩
theorem Sat.belowD {C : Cx} {R : List Res} {Φ : List Fact} {W W' : World} (h : Sat C R Φ W) (hb : Below W.drew.heap.size W.drew W') : Sat C R Φ W' :=
  h.grow ((Foreign.drew _ W).trans (foreign_of_below hb))

theorem phNd_get {all : List Dr.Ph} {vs : List Value} {W : World} : ∀ {js : List Nat}, Dr.phNd all vs W js → ∀ j ∈ js, ∀ φ, all[j]? = some (.inr φ) → φ.1 (vs.getD j undef) ∧ φ.2 (vs.getD j undef) W
  | [], _, j, hj, _, _ => by simp at hj
  | k :: js, h, j, hj, φ, hφ => by
    unfold Dr.phNd at h
    rcases List.mem_cons.1 hj with rfl | hj
    · rw [hφ] at h; exact h.1
    · split at h
      · exact phNd_get h.2 j hj φ hφ
      · exact phNd_get h j hj φ hφ

section rules
variable {P : Program} {C : Cx} {n : Nat × List Nat} {ops : Array Oper} {Q : Exit → Act → World → Prop} {tail rem : List Oper} {al : List Nat} {all Φr : List Dr.Ph} {i : Nat} {vs : List Value} {K : List (List Fact)} {env : List (Nat × Value)} {R : List Res} {Φ : List Fact}
  {d : Nat} {T : TypeId} {pos : String} {af : Array Edge} {op : Op} {u v : Value}

/-- The facts that are at hand for an operation. -/
theorem at_hand (hK : ∀ j φ, j < i → all[j]? = some (.inr φ) → ∀ W', φ.1 (vs.getD j undef) → φ.2 (vs.getD j undef) W' → ∀ f ∈ kAt K j, f.p (xr C R) W')
    (hK2 : ∀ j x, j < i → all[j]? = some (.inl x) → kAt K j = []) (hKl : K.length = i) {W W' : World} (hs : Sat C R Φ W) (hb : Below W.drew.heap.size W.drew W') {js : List Nat} (hn : Dr.phNd all vs W' js) (hlen : i ≤ all.length) : Sat C R (kOf K js ++ Φ) W' := by
  have h1 := hs.belowD hb
  refine ⟨h1.ev, h1.sep, h1.ours, h1.x0, fun φ hφ => ?_⟩
  rcases List.mem_append.1 hφ with hφ | hφ
  · obtain ⟨j, hj, hf⟩ := mem_kOf hφ
    have hji : j < i := by
      rcases Nat.lt_or_ge j i with h | h
      · exact h
      · simp [kAt, List.getElem?_eq_none (show K.length ≤ j by omega)] at hf
    cases ha : all[j]? with
    | none => have := List.getElem?_eq_none_iff.1 ha; omega
    | some p =>
      cases p with
      | inl x => rw [hK2 j x hji ha] at hf; simp at hf
      | inr ψ =>
        obtain ⟨q1, q2⟩ := phNd_get hn j hj ψ ha
        exact hK j ψ hji ha W' q1 q2 φ hf
  · exact h1.facts φ hφ

theorem getD_snoc_lt {vs : List Value} {x : Value} {j : Nat} (h : j < vs.length) : (vs ++ [x]).getD j undef = vs.getD j undef := by
  simp [List.getD_eq_getElem?_getD, List.getElem?_append_left h]
theorem getD_snoc_eq {vs : List Value} {x : Value} : (vs ++ [x]).getD vs.length undef = x := by
  simp [List.getD_eq_getElem?_getD]
theorem kAt_snoc_lt {K : List (List Fact)} {l : List Fact} {j : Nat} (h : j < K.length) : kAt (K ++ [l]) j = kAt K j := by simp [kAt, List.getElem?_append_left h]
theorem kAt_snoc_eq {K : List (List Fact)} {l : List Fact} : kAt (K ++ [l]) K.length = l := by simp [kAt]

theorem one_value {a : Act} {W W' : World} {o : Oper} {df : List Deferred} {p : Value → World → Prop} (ho : o.dst = some d) (hd : d < a.tmps.size) (hdf : a.defers = df) (hw : Region.wanted o (yielded ops a.tmps) = true)
    (hrun : (execOp a.eval o).run P W = .ok (.value v) W') (hp : p v W') : wpList P ops (Dr.hpost df (o.dst.getD 0) p) [o] a W := by
  unfold wpList
  rw [if_pos hw]
  refine .inl ?_
  unfold Oper.wp
  rw [hrun]
  show Dr.hpost df (o.dst.getD 0) p .normal (a.put o.dst v) W'
  refine ⟨?_, by rw [Dr.put_defers']; exact hdf⟩
  rw [ho]
  simp only [Option.getD_some, Array.getD_eq_getD_getElem?, Dr.put_at _ _ _ hd]
  exact hp

/-- A value that is known. -/
theorem Jr.pv (h : PR P C n env R (kOf K (Dr.needs ⟨some d, op, T, pos, af, none⟩) ++ Φ) op T v)
    (k : Jr P C n ops Q tail al all R Φ rem Φr (i + 1) (vs ++ [v]) (K ++ [[]]) ((d, v) :: env)) (hd : Nat.blt d n.1 = true := by rfl) : Jr P C n ops Q tail al all R Φ (⟨some d, op, T, pos, af, none⟩ :: rem) (.inl v :: Φr) i vs K env := fun hvl hKl hil hK hK2 hall a W he hs => by
  have hai : all[i]? = some (.inl v) := by simpa using hall 0
  have hlen : i ≤ all.length := Nat.le_of_lt (List.getElem?_eq_some_iff.1 hai).1
  refine Dr.RG_det (fun W' hb hn => ?_) (k (by simp [hvl]) (by simp [hKl]) (by have := (List.getElem?_eq_some_iff.1 hai).1; omega) (fun j φ hj hφ W' h1 h2 => ?_) (fun j x hj hx => ?_) (fun j => by have := hall (j + 1); simpa [Nat.add_assoc, Nat.add_comm 1 j] using this) _ _ (he.put (Nat.le_of_ble_eq_true hd) v) hs)
  · exact one_value rfl (by rw [he.size]; exact Nat.le_of_ble_eq_true hd) rfl (by simp [Region.wanted]) (h a W' he (at_hand hK hK2 hKl hs hb hn hlen) _ _ _ _) ⟨rfl, Below.refl _ _⟩
  · by_cases e : j = i
    · subst e; rw [hai] at hφ; cases hφ
    · rw [kAt_snoc_lt (by omega)]
      rw [getD_snoc_lt (by omega)] at h1 h2
      exact hK j φ (by omega) hφ W' h1 h2
  · by_cases e : j = i
    · subst e; rw [← hKl]; exact kAt_snoc_eq
    · rw [kAt_snoc_lt (by omega)]; exact hK2 j x (by omega) hx
/-- A value of which something is said. -/
theorem Jr.nv {α : Type} {res : α → Value} {post : α → List Fact} (hinj : ∀ x y, res x = res y → x = y)
    (h : ∀ a W, Env n env a → Sat C R (kOf K (Dr.needs ⟨some d, op, T, pos, af, none⟩) ++ Φ) W → ∀ W0, Below W0.heap.size W0 W → C.W0.heap.size ≤ W0.heap.size → (∀ b, xr C R b → b < W0.heap.size) →
      wpList P ops (Dr.hpost a.defers d (fun u W' => (∃ x, u = res x ∧ ∀ φ ∈ post x, φ.p (xr C R) W') ∧ Below W.heap.size W W' ∧ (i ∈ al → u = .pointer (some ⟨W.heap.size, 0, none⟩) ∧ W.heap.size < W'.heap.size))) [⟨some d, op, T, pos, af, none⟩] a W)
    (k : ∀ x, Jr P C n ops Q tail al all R Φ rem Φr (i + 1) (vs ++ [res x]) (K ++ [post x]) ((d, res x) :: env)) (hd : Nat.blt d n.1 = true := by rfl) :
    Jr P C n ops Q tail al all R Φ (⟨some d, op, T, pos, af, none⟩ :: rem) (ndPh (xr C R) res post :: Φr) i vs K env := fun hvl hKl hil hK hK2 hall a W he hs => by
  have hai : all[i]? = some (ndPh (xr C R) res post) := by simpa using hall 0
  have hlen : i ≤ all.length := Nat.le_of_lt (List.getElem?_eq_some_iff.1 hai).1
  refine Dr.RG_nd (fun W' hb hn => ?_) (fun u hu => ?_)
  · have := h a W' he (at_hand hK hK2 hKl hs hb hn hlen) W.drew hb hs.size (fun b hb => by
      rcases hb with hb | hb
      · exact hs.x0lt b hb
      · exact hs.sep.lt b hb)
    refine Dr.one_mono (fun u W'' hu => ?_) this
    obtain ⟨⟨x, rfl, hx⟩, h2, h3⟩ := hu
    exact ⟨⟨⟨x, rfl⟩, x, rfl, hx⟩, h2, h3⟩
  · obtain ⟨x, rfl⟩ := hu
    refine k x (by simp [hvl]) (by simp [hKl]) (by have := (List.getElem?_eq_some_iff.1 hai).1; omega) (fun j φ hj hφ W' h1 h2 => ?_) (fun j y hj hy => ?_) (fun j => by have := hall (j + 1); simpa [Nat.add_assoc, Nat.add_comm 1 j] using this) _ _ (he.put (Nat.le_of_ble_eq_true hd) _) hs
    · by_cases e : j = i
      · subst e
        rw [hai] at hφ
        cases hφ
        rw [← hKl, kAt_snoc_eq]
        rw [← hvl, getD_snoc_eq] at h2
        obtain ⟨y, hy, hy2⟩ := h2
        cases hinj _ _ hy
        exact hy2
      · rw [kAt_snoc_lt (by omega)]
        rw [getD_snoc_lt (by omega)] at h1 h2
        exact hK j φ (by omega) hφ W' h1 h2
    · by_cases e : j = i
      · subst e; rw [hai] at hy; cases hy
      · rw [kAt_snoc_lt (by omega)]; exact hK2 j y (by omega) hy
/-- A pure value made of one of which something is said. -/
theorem Jr.dv {α : Type} (res : α → Value) (post : α → List Fact) (hal : i ∉ al) (hinj : ∀ x y, res x = res y → x = y) (x : α) (h : PR P C n env R (kOf K (Dr.needs ⟨some d, op, T, pos, af, none⟩) ++ Φ) op T (res x))
    (hp : FSub (post x) (kOf K (Dr.needs ⟨some d, op, T, pos, af, none⟩) ++ Φ))
    (k : ∀ x, Jr P C n ops Q tail al all R Φ rem Φr (i + 1) (vs ++ [res x]) (K ++ [post x]) ((d, res x) :: env)) (hd : Nat.blt d n.1 = true := by rfl) :
    Jr P C n ops Q tail al all R Φ (⟨some d, op, T, pos, af, none⟩ :: rem) (ndPh (xr C R) res post :: Φr) i vs K env :=
  Jr.nv hinj (fun a W he hs W0 _ _ _ => one_value (p := fun u W' => (∃ x, u = res x ∧ ∀ φ ∈ post x, φ.p (xr C R) W') ∧ Below W.heap.size W W' ∧ (i ∈ al → u = .pointer (some ⟨W.heap.size, 0, none⟩) ∧ W.heap.size < W'.heap.size)) rfl
    (by rw [he.size]; exact Nat.le_of_ble_eq_true hd) rfl (by simp [Region.wanted]) (h a W he hs _ _ _ _) ⟨⟨x, rfl, fun φ hφ => hs.facts φ (hp.mem φ hφ)⟩, Below.refl _ _, fun h => (hal h).elim⟩) k hd
/-- A new variable. -/
theorem Jr.alloc {T' : TypeId} {cs : List Value} (hz : tzero P T' = some cs)
    (k : ∀ b, Jr P C n ops Q tail al all R Φ rem Φr (i + 1) (vs ++ [.pointer (some ⟨b, 0, none⟩)]) (K ++ [[.blkF C.W0.heap.size b T' cs]]) ((d, .pointer (some ⟨b, 0, none⟩)) :: env)) (hd : Nat.blt d n.1 = true := by rfl) :
    Jr P C n ops Q tail al all R Φ (⟨some d, .alloc T', T, pos, af, none⟩ :: rem) (ndPh (xr C R) (fun b => .pointer (some ⟨b, 0, none⟩)) (fun b => [.blkF C.W0.heap.size b T' cs]) :: Φr) i vs K env :=
  Jr.nv (fun x y h => by simpa using h) (fun a W he hs W0 hb0 hc0 hx0 => by
    obtain ⟨z, hz1, hz2⟩ := tzero_spec (w := W) hz
    refine one_value (W' := W.alloc (.cells cs.toArray T')) (v := .pointer (some ⟨W.heap.size, 0, none⟩))
      (p := fun u W' => (∃ b : Nat, u = .pointer (some ⟨b, 0, none⟩) ∧ ∀ φ ∈ [Fact.blkF C.W0.heap.size b T' cs], φ.p (xr C R) W') ∧ Below W.heap.size W W' ∧ (i ∈ al → u = .pointer (some ⟨W.heap.size, 0, none⟩) ∧ W.heap.size < W'.heap.size)) rfl
      (by rw [he.size]; exact Nat.le_of_ble_eq_true hd) rfl (by simp [Region.wanted]) ?_ ⟨⟨W.heap.size, rfl, fun φ hφ => ?_⟩, (Below.refl _ _).alloc (Nat.le_refl _) _, fun _ => ⟨rfl, by simp⟩⟩
    · simp [execOp, Instr.alloc, hz1, newVar, newRow, hz2]
    · simp only [List.mem_singleton] at hφ
      subst hφ
      exact ⟨World.alloc_heap_new W _, fun hx => absurd (Nat.lt_of_lt_of_le (hx0 _ hx) hb0.size) (Nat.lt_irrefl _), Nat.le_trans hc0 hb0.size⟩) k hd

/-- A call. -/
theorem Jr.callv {f : FuncId} {fs cs ws : List Value} {x : Operand} {as : Array Operand} {ts : Array TypeId} {args : List Value} {pre : List Fact} {α : Type} {res : α → Value} {post : α → List Fact}
    (hct : Ct P f args [] pre res (fun _ => []) post) (hal : i ∉ al) (hinj : ∀ x y, res x = res y → x = y) (hen : ∀ args w, (callFunc f args).run P w = .ok (.enter f args) w)
    (hx : opv env x = some (.func (.func f) fs.toArray cs.toArray)) (ha : opvs env as.toList = some ws) (hv : fs ++ ws ++ cs = args)
    (hp : FSub pre (kOf K (Dr.needs ⟨some d, .call { callee := .value x, args := as, argTypes := ts }, T, pos, af, none⟩) ++ Φ))
    (k : ∀ x, Jr P C n ops Q tail al all R Φ rem Φr (i + 1) (vs ++ [res x]) (K ++ [post x]) ((d, res x) :: env)) (hd : Nat.blt d n.1 = true := by rfl) :
    Jr P C n ops Q tail al all R Φ (⟨some d, .call { callee := .value x, args := as, argTypes := ts }, T, pos, af, none⟩ :: rem) (ndPh (xr C R) res post :: Φr) i vs K env :=
  Jr.nv hinj (fun a W he hs W0 hb0 _ hx0 => by
    unfold wpList
    rw [if_pos (by simp [Region.wanted])]
    refine .inl ?_
    have hrun : (execOp a.eval ⟨some d, .call { callee := .value x, args := as, argTypes := ts }, T, pos, af, none⟩).run P W = .ok (.enter f args.toArray) W := by
      have e1 : as.map a.eval = ws.toArray := by
        apply Array.toList_inj.1
        simpa using opvs_eval he ha
      subst hv
      simp [execOp, resolve, he.eval hx, e1, Deferred.ofValue, invoke, hen]
    unfold Oper.wp
    rw [hrun]
    refine (hct (xr C R) W (fun b hb => Nat.lt_of_lt_of_le (hx0 b hb) hb0.size) trivial (fun φ hφ => φ.fr _ _ W W (hs.facts φ (hp.mem φ hφ)) (Foreign.refl _ _) (fun b hb => .inl (hb.elim id (fun h => h.elim))))).mono ?_
    rintro e W' ⟨x, rfl, hf, _, _, hpost⟩
    refine ⟨?_, by rw [Dr.put_defers']⟩
    simp only [Array.getD_eq_getD_getElem?, Dr.put_at _ _ _ (show d < a.tmps.size by rw [he.size]; exact Nat.le_of_ble_eq_true hd)]
    exact ⟨⟨x, rfl, fun φ hφ => φ.fr _ _ W' W' (hpost φ hφ) (Foreign.refl _ _) (fun b hb => .inl (.inl hb))⟩, ⟨hf.os, hf.tape, hf.output, hf.size, fun b hb => hf.block b hb id⟩, fun h => (hal h).elim⟩) k hd
/-- A call whose answer is a value that is known. -/
theorem Jr.callp {f : FuncId} {fs cs ws : List Value} {x : Operand} {as : Array Operand} {ts : Array TypeId} {args : List Value} {pre : List Fact} {α : Type} {res : α → Value} {Rout : α → List Res} {post : α → List Fact}
    (hct : Ct P f args [] pre res Rout post) (v : Value) (hres : ∀ x, res x = v) (hen : ∀ args w, (callFunc f args).run P w = .ok (.enter f args) w)
    (hx : opv env x = some (.func (.func f) fs.toArray cs.toArray)) (ha : opvs env as.toList = some ws) (hv : fs ++ ws ++ cs = args)
    (hp : FSub pre (kOf K (Dr.needs ⟨some d, .call { callee := .value x, args := as, argTypes := ts }, T, pos, af, none⟩) ++ Φ))
    (k : Jr P C n ops Q tail al all R Φ rem Φr (i + 1) (vs ++ [v]) (K ++ [[]]) ((d, v) :: env)) (hd : Nat.blt d n.1 = true := by rfl) :
    Jr P C n ops Q tail al all R Φ (⟨some d, .call { callee := .value x, args := as, argTypes := ts }, T, pos, af, none⟩ :: rem) (.inl v :: Φr) i vs K env := fun hvl hKl hil hK hK2 hall a W he hs => by
  have hai : all[i]? = some (.inl v) := by simpa using hall 0
  have hlen : i ≤ all.length := Nat.le_of_lt (List.getElem?_eq_some_iff.1 hai).1
  refine Dr.RG_det (fun W' hb hn => ?_) (k (by simp [hvl]) (by simp [hKl]) (by have := (List.getElem?_eq_some_iff.1 hai).1; omega) (fun j φ hj hφ W' h1 h2 => ?_) (fun j x hj hx => ?_) (fun j => by have := hall (j + 1); simpa [Nat.add_assoc, Nat.add_comm 1 j] using this) _ _ (he.put (Nat.le_of_ble_eq_true hd) v) hs)
  · have hs' := at_hand hK hK2 hKl hs hb hn hlen
    unfold wpList
    rw [if_pos (by simp [Region.wanted])]
    refine .inl ?_
    have hrun : (execOp a.eval ⟨some d, .call { callee := .value x, args := as, argTypes := ts }, T, pos, af, none⟩).run P W' = .ok (.enter f args.toArray) W' := by
      have e1 : as.map a.eval = ws.toArray := by
        apply Array.toList_inj.1
        simpa using opvs_eval he ha
      subst hv
      simp [execOp, resolve, he.eval hx, e1, Deferred.ofValue, invoke, hen]
    unfold Oper.wp
    rw [hrun]
    refine (hct (xr C R) W' (fun b hb' => hb'.elim (hs'.x0lt b) (hs'.sep.lt b)) trivial (fun φ hφ => φ.fr _ _ W' W' (hs'.facts φ (hp.mem φ hφ)) (Foreign.refl _ _) (fun b hb => .inl (hb.elim id (fun h => h.elim))))).mono ?_
    rintro e W'' ⟨x, rfl, hf, _, _, hpost⟩
    refine ⟨?_, by rw [Dr.put_defers']⟩
    simp only [Option.getD_some, Array.getD_eq_getD_getElem?, Dr.put_at _ _ _ (show d < a.tmps.size by rw [he.size]; exact Nat.le_of_ble_eq_true hd)]
    exact ⟨hres x, ⟨hf.os, hf.tape, hf.output, hf.size, fun b hb => hf.block b hb id⟩⟩
  · by_cases e : j = i
    · subst e; rw [hai] at hφ; cases hφ
    · rw [kAt_snoc_lt (by omega)]
      rw [getD_snoc_lt (by omega)] at h1 h2
      exact hK j φ (by omega) hφ W' h1 h2
  · by_cases e : j = i
    · subst e; rw [← hKl]; exact kAt_snoc_eq
    · rw [kAt_snoc_lt (by omega)]; exact hK2 j x (by omega) hx
/-- A guard. -/
theorem Jr.on {d' : Option Nat} {j : Nat} {want : Bool} {t : Nat} (hj : (ops[j]?).bind (·.dst) = some t) (ht : elook t env = some (.bool want))
    (k : Jr P C n ops Q tail al all R Φ (⟨d', op, T, pos, af, none⟩ :: rem) Φr i vs K env) : Jr P C n ops Q tail al all R Φ (⟨d', op, T, pos, af, some (j, want)⟩ :: rem) Φr i vs K env := fun h1 h2 h3 h4 h5 h6 a W he hs => by
  have h := k h1 h2 h3 h4 h5 h6 a W he hs
  have hy : yielded ops a.tmps j = some want := by
    unfold yielded
    have := he.at_ t _ ht
    simp [hj, this]
  have key : ∀ Q' W', wpList P ops Q' [⟨d', op, T, pos, af, none⟩] a W' → wpList P ops Q' [⟨d', op, T, pos, af, some (j, want)⟩] a W' := fun Q' W' h => by
    unfold wpList at h ⊢
    rw [if_pos (by rfl)] at h
    rw [if_pos (by simp [Region.wanted, hy])]
    exact h
  cases Φr with
  | nil => exact h
  | cons p Φr =>
    cases p with
    | inl x => exact ⟨fun W' hb hn => key _ _ (h.1 W' hb hn), h.2⟩
    | inr φ => exact ⟨fun W' hb hn => key _ _ (h.1 W' hb hn), h.2⟩
theorem Jr.off {j : Nat} {want b : Bool} {t : Nat} (hj : (ops[j]?).bind (·.dst) = some t) (ht : elook t env = some (.bool b)) (hb : b = !want)
    (k : Jr P C n ops Q tail al all R Φ rem Φr (i + 1) (vs ++ [undef]) (K ++ [[]]) ((d, undef) :: env)) (hd : Nat.blt d n.1 = true := by rfl) :
    Jr P C n ops Q tail al all R Φ (⟨some d, op, T, pos, af, some (j, want)⟩ :: rem) (.inl undef :: Φr) i vs K env := fun hvl hKl hil hK hK2 hall a W he hs => by
  have hai : all[i]? = some (.inl undef) := by simpa using hall 0
  refine Dr.RG_det (fun W' hb' hn => ?_) (k (by simp [hvl]) (by simp [hKl]) (by have := (List.getElem?_eq_some_iff.1 hai).1; omega) (fun j φ hj hφ W' h1 h2 => ?_) (fun j x hj hx => ?_) (fun j => by have := hall (j + 1); simpa [Nat.add_assoc, Nat.add_comm 1 j] using this) _ _ (he.put (Nat.le_of_ble_eq_true hd) _) hs)
  · have hy : yielded ops a.tmps j = some b := by
      unfold yielded
      have := he.at_ t _ ht
      simp [hj, this]
    unfold wpList
    rw [if_neg (by simp [Region.wanted, hy, hb])]
    show Dr.hpost _ _ _ .normal _ _
    refine ⟨?_, by rw [Dr.put_defers']⟩
    simp only [Option.getD_some, Array.getD_eq_getD_getElem?, Dr.put_at _ _ _ (show d < a.tmps.size by rw [he.size]; exact Nat.le_of_ble_eq_true hd)]
    exact ⟨rfl, Below.refl _ _⟩
  · by_cases e : j = i
    · subst e; rw [hai] at hφ; cases hφ
    · rw [kAt_snoc_lt (by omega)]
      rw [getD_snoc_lt (by omega)] at h1 h2
      exact hK j φ (by omega) hφ W' h1 h2
  · by_cases e : j = i
    · subst e; rw [← hKl]; exact kAt_snoc_eq
    · rw [kAt_snoc_lt (by omega)]; exact hK2 j x (by omega) hx

/-- A row that is known to be one's own, beside X, not from before the call. -/
def Fact.rowF (m : Nat) (e : TypeId) (size : Nat) (v : Value) (k : Nat) (xs : List Value) : Fact where
  p := fun X W => W.ownsRow 0 e size v k xs ∧ ∀ b, v.ownBlock = some b → ¬ X b ∧ m ≤ b
  fr := fun X X' W W' h hf hx => ⟨own_keep h.1 fun g hg => hf.block g (h.1.lt g hg).2 (h.2 g hg).1, fun b hb => ⟨fun h' => (hx b h').elim (h.2 b hb).1 (fun h2 => by have := (h.1.lt b hb).2; omega), (h.2 b hb).2⟩⟩

/-- append to an empty literal: nothing is written but what is new. -/
theorem Jr.append0 {b mm c' bytes : Nat} {B : Option Addr} {e T' : TypeId} {news zc : List Value} {ts : Array TypeId} {x y : Operand} {s : Nat}
    (hx : opv env x = some (.slice (some ⟨b, 0, none⟩) 0 0)) (hy : opv env y = some (.slice B mm c')) (hts : ts = #[T', T'])
    (hT : tslice P T' = some (e, s)) (hz : tzero P e = some zc) (hzl : zc.length = s) (hs0 : 0 < s) (hb : P.bytesOf e = bytes)
    (hal : i ∉ al)
    (hmb : Mem (.blkF C.W0.heap.size b e []) (kOf K (Dr.needs ⟨some d, .call { callee := .builtin .append, args := #[x, y], argTypes := ts }, T, pos, af, none⟩) ++ Φ))
    (hm : Mem (.rd B news) (kOf K (Dr.needs ⟨some d, .call { callee := .builtin .append, args := #[x, y], argTypes := ts }, T, pos, af, none⟩) ++ Φ)) (hl : news.length = mm * s) (h1 : ∀ u ∈ news, u.oneCell' = true)
    (h63 : mm ≤ 100000000) (hby : bytes ≤ 1000000)
    (k : ∀ z : Option Addr × Nat, Jr P C n ops Q tail al all R Φ rem Φr (i + 1) (vs ++ [.slice z.1 mm z.2]) (K ++ [[.rowF C.W0.heap.size e s (.slice z.1 mm z.2) mm news]]) ((d, .slice z.1 mm z.2) :: env)) (hd : Nat.blt d n.1 = true := by rfl) :
    Jr P C n ops Q tail al all R Φ (⟨some d, .call { callee := .builtin .append, args := #[x, y], argTypes := ts }, T, pos, af, none⟩ :: rem)
      (ndPh (xr C R) (fun z : Option Addr × Nat => .slice z.1 mm z.2) (fun z => [.rowF C.W0.heap.size e s (.slice z.1 mm z.2) mm news]) :: Φr) i vs K env :=
  Jr.nv (fun x y h => by cases x; cases y; simp at h; simp [h]) (fun a W he hs W0 hb0 hc0 hx0 => by
    subst hts
    obtain ⟨hu, inf, hi, hk⟩ := tslice_spec hT
    have hbf := hs.fact hmb
    have hrd : Rd W 0 W.heap.size B news := fun j u hu => by
      obtain ⟨ad, h1, h2, _, h3⟩ := hs.fact hm j u hu
      exact ⟨ad, h1, Nat.zero_le _, h2, h3⟩
    have hzz : ∃ z, inf.zero = some z ∧ z.cells = zc.toArray := by
      unfold tzero at hz
      rw [hi] at hz
      cases h : inf.zero with
      | none => simp [h] at hz
      | some z => simp [h] at hz; exact ⟨z, rfl, by rw [← hz]⟩
    obtain ⟨z, hz1, hz2⟩ := hzz
    have hbb : inf.bytes = bytes := by simpa [Program.bytesOf, hi] using hb
    have hbnd : (0 + mm) * bytes ≤ 140737488355328 := by rw [Nat.zero_add]; exact Nat.le_trans (Nat.mul_le_mul h63 hby) (by omega)
    have fin : ∀ (v' : Value) (W' : World) (A' : Option Addr) (k' : Nat), v' = .slice A' mm k' → (execOp a.eval ⟨some d, .call { callee := .builtin .append, args := #[x, y], argTypes := #[T', T'] }, T, pos, af, none⟩).run P W = .ok (.value v') W' →
        W'.ownsRow 0 e s v' mm news → Below W.heap.size W W' → (∀ g, v'.ownBlock = some g → ¬ xr C R g ∧ C.W0.heap.size ≤ g) →
        wpList P ops (Dr.hpost a.defers d (fun u W' => (∃ z : Option Addr × Nat, u = .slice z.1 mm z.2 ∧ ∀ φ ∈ [Fact.rowF C.W0.heap.size e s (.slice z.1 mm z.2) mm news], φ.p (xr C R) W') ∧ Below W.heap.size W W' ∧ (i ∈ al → u = .pointer (some ⟨W.heap.size, 0, none⟩) ∧ W.heap.size < W'.heap.size)))
          [⟨some d, .call { callee := .builtin .append, args := #[x, y], argTypes := #[T', T'] }, T, pos, af, none⟩] a W := fun v' W' A' k' hv hr ho hbl hg => by
      subst hv
      refine one_value (v := .slice A' mm k') (W' := W') (p := fun u W' => (∃ z : Option Addr × Nat, u = .slice z.1 mm z.2 ∧ ∀ φ ∈ [Fact.rowF C.W0.heap.size e s (.slice z.1 mm z.2) mm news], φ.p (xr C R) W') ∧ Below W.heap.size W W' ∧ (i ∈ al → u = .pointer (some ⟨W.heap.size, 0, none⟩) ∧ W.heap.size < W'.heap.size))
        rfl (by rw [he.size]; exact Nat.le_of_ble_eq_true hd) rfl (by simp [Region.wanted]) hr ⟨⟨(A', k'), rfl, fun φ hφ => ?_⟩, hbl, fun h => (hal h).elim⟩
      simp only [List.mem_singleton] at hφ
      subst hφ
      exact ⟨ho, hg⟩
    by_cases hmm : mm = 0
    · subst hmm
      have hnil : news = [] := List.eq_nil_of_length_eq_zero (by simpa using hl)
      subst hnil
      refine fin _ W (some ⟨b, 0, none⟩) 0 rfl ?_ ⟨by simp, .inr ⟨b, 0, #[], rfl, Nat.zero_le _, hbf.1, Nat.le_refl _, by unfold maxLen; omega, by simp, by simp⟩⟩ (Below.refl _ _) (fun g hg => by simp [Value.ownBlock] at hg; subst hg; exact ⟨hbf.2.1, hbf.2.2⟩)
      cases B <;> simp [execOp, he.eval hx, he.eval hy, resolve, invoke, builtin, Builtin.append_, run_underlying hu, sizeOf, typeInfo, hi, Builtin.lenOf, Builtin.firstCells, loadCells, loadCellsFrom, storeCells]
    · obtain ⟨v', W', hrun, h2, h3, h4⟩ := run_append_src (P := P) W 0 T' T e inf z s bytes hu hi hz1 hk hbb (by rw [hz2]; simpa using hzl) hs0 (.slice none 0 0) 0 [] (World.ownsRow_nil _ _ _ _) 0 W.heap.size B mm c' news hl hrd h1
        (by unfold maxLen; omega) hbnd (Nat.zero_le _)
      obtain ⟨A', k', rfl, _⟩ := own_form h2
      have e0 : 0 + mm = mm := Nat.zero_add mm
      rw [e0] at h2 hrun h4
      rw [List.nil_append] at h2
      have heq : (Builtin.append_ #[T', T'] T #[.slice (some ⟨b, 0, none⟩) 0 0, .slice B mm c']).run P W = (Builtin.append_ #[T', T'] T #[.slice none 0 0, .slice B mm c']).run P W := by
        have hpos : ¬ mm ≤ 0 := by omega
        have hcap : ¬ 281474976710656 < Builtin.nextslicecap mm 0 * inf.bytes := by
          have : Builtin.nextslicecap mm 0 = mm := by unfold Builtin.nextslicecap; rw [if_pos (by omega)]
          rw [this, hbb]; rw [Nat.zero_add] at hbnd; omega
        simp [Builtin.append_, run_underlying hu, sizeOf, typeInfo, hi, Builtin.lenOf, hmm, hcap, Builtin.firstCells, loadCells, loadCellsFrom]
      refine fin _ W' A' k' rfl ?_ h2 ⟨h3.os, h3.tape, h3.output, h3.size, fun g hg => h3.block g hg (by simp [Value.ownBlock])⟩ (fun g hg => ?_)
      · rw [← heq] at hrun
        simp only [execOp, resolve, invoke, builtin, Sem.run_bind, Sem.run_pure, Result.andThen_ok, List.map_toArray, List.map_cons, List.map_nil, he.eval hx, he.eval hy, hrun]
      · rcases h4 with h4 | h4
        · rw [h4] at hg; simp [Value.ownBlock] at hg
        · rw [h4] at hg
          injection hg with hg
          subst hg
          exact ⟨fun hx => absurd (Nat.lt_of_lt_of_le (hx0 _ hx) hb0.size) (Nat.lt_irrefl _), Nat.le_trans hc0 hb0.size⟩) k hd


/- the tail -/
def plainOp (o : Oper) : Bool := match o.op with
  | .call c => match c.callee with
    | .builtin .append => true
    | .builtin .len => true
    | _ => false
  | .store .. | .assign _ | .move _ | .extract .. | .fieldAddr .. | .load .. | .indexAddr .. | .slice .. | .alloc _ | .buildSlice .. | .build .. => true
  | _ => false
theorem upon_of_in {o : Oper} {a : Act} {K : Act → World → Prop} {Q : Exit → Act → World → Prop} {r : Result Next} (h : o.uponIn (Fz none) 0 P a K Q r) (hr : ∀ l f ts as b w, r ≠ .ok (.round l f ts as b) w) (hw : ∀ row args w, r ≠ .ok (.row row args) w) : o.upon P a K Q r := by
  cases r with
  | ok x w =>
    cases x <;> first
      | exact h
      | (exact absurd rfl (hr _ _ _ _ _ _))
      | (exact absurd rfl (hw _ _ _))
      | exact callsIn_wide.1 h.2
  | halt x w => cases x <;> exact h
theorem plain_next {o : Oper} {a : Act} {W : World} (h : plainOp o = true) : (∀ l f ts as b w, (execOp a.eval o).run P W ≠ .ok (.round l f ts as b) w) ∧ ∀ row args w, (execOp a.eval o).run P W ≠ .ok (.row row args) w := by
  have key : ∀ (s : Sem Value), (∀ l f ts as b w, ((do pure (.value (← s)) : Sem Next)).run P W ≠ .ok (.round l f ts as b) w) ∧ ∀ row args w, ((do pure (.value (← s)) : Sem Next)).run P W ≠ .ok (.row row args) w := fun s => by
    rw [Sem.run_bind]
    cases s.run P W <;> simp [Result.andThen]
  have keyU : ∀ (s : Sem Unit), (∀ l f ts as b w, ((do s; pure .skip : Sem Next)).run P W ≠ .ok (.round l f ts as b) w) ∧ ∀ row args w, ((do s; pure .skip : Sem Next)).run P W ≠ .ok (.row row args) w := fun s => by
    rw [Sem.run_bind]
    cases s.run P W <;> simp [Result.andThen]
  have keyR : ∀ r : Result Value, (∀ l f ts as b w, (r.andThen fun a w' => .ok (Next.value a) w') ≠ .ok (.round l f ts as b) w) ∧ ∀ row args w, (r.andThen fun a w' => .ok (Next.value a) w') ≠ .ok (.row row args) w := fun r => by
    cases r <;> simp [Result.andThen]
  obtain ⟨dst, op, T, pos, af, g⟩ := o
  cases op with
  | call c =>
    obtain ⟨ce, as, ts⟩ := c
    cases ce with
    | builtin b =>
      cases b <;> first
        | (simp [plainOp] at h; done)
        | (simp only [execOp, resolve, Sem.run_bind, Sem.run_pure, Result.andThen_ok, invoke, builtin]; exact keyR _)
    | _ => simp [plainOp] at h
  | store => exact keyU _
  | assign x => exact ⟨fun _ _ _ _ _ _ => by simp [execOp], fun _ _ _ => by simp [execOp]⟩
  | move x => exact ⟨fun _ _ _ _ _ _ => by simp [execOp], fun _ _ _ => by simp [execOp]⟩
  | extract => exact key _
  | fieldAddr => exact key _
  | load => exact key _
  | indexAddr => exact key _
  | slice => exact key _
  | alloc => exact key _
  | buildSlice => exact key _
  | build => exact key _
  | _ => simp [plainOp] at h
theorem list_of_in : ∀ {l : List Oper} {a : Act} {W : World}, l.all plainOp = true → wpListIn (Fz none) 0 P ops Q l a W → wpList P ops Q l a W
  | [], _, _, _, h => h
  | o :: l, a, W, hp, h => by
    simp only [List.all_cons, Bool.and_eq_true] at hp
    unfold wpListIn at h
    unfold wpList
    split
    · rename_i hw
      rw [if_pos hw] at h
      refine .inl ?_
      have h2 := h.2
      rw [show (Fz none).round = none from rfl, Oper.semAt_none] at h2
      obtain ⟨q1, q2⟩ := plain_next (P := P) (a := a) (W := W) hp.1
      have h3 := upon_of_in h2 q1 q2
      unfold Oper.wp
      revert h3
      generalize (execOp a.eval o).run P W = r
      intro h3
      cases r with
      | ok x w => cases x <;> first
        | exact list_of_in hp.2 h3
        | exact h3
        | (refine Calls.mono h3 fun e w'' he => ?_
           cases e with
           | returned v => exact list_of_in hp.2 he
           | panicked c => exact he
           | outgrown => exact he)
        | (exact Rows.mono h3 fun v w'' he => list_of_in hp.2 he)
      | halt x w => cases x <;> exact h3
    · rename_i hw
      rw [if_neg hw] at h
      exact list_of_in hp.2 h.2

def kAll : List (List Fact) → List Fact
  | [] => []
  | l :: K => l ++ kAll K
theorem mem_kAll {K : List (List Fact)} {φ : Fact} : φ ∈ kAll K → ∃ j, j < K.length ∧ φ ∈ kAt K j := by
  induction K with
  | nil => intro h; simp [kAll] at h
  | cons l K ih =>
    intro h
    rcases List.mem_append.1 h with h | h
    · exact ⟨0, by simp, by simpa [kAt] using h⟩
    · obtain ⟨j, h1, h2⟩ := ih h
      exact ⟨j + 1, by simp; omega, by simpa [kAt] using h2⟩
theorem Sat.addAll {W : World} {l : List Fact} (h : Sat C R Φ W) (hl : ∀ φ ∈ l, φ.p (xr C R) W) : Sat C R (l ++ Φ) W :=
  ⟨h.ev, h.sep, h.ours, h.x0, fun φ hφ => (List.mem_append.1 hφ).elim (hl φ) (h.facts φ)⟩

/-- The head is done; nothing of it is to be written. -/
theorem Jr.fin (hal : al = []) (ht : tail.all plainOp = true) (k : Jl P none C n ops Q tail env R (kAll K ++ Φ)) : Jr P C n ops Q tail al all R Φ [] [] i vs K env := fun hvl hKl hil hK hK2 hall a W he hs => by
  refine Dr.RG_end (fun W' hb hn _ => list_of_in ht (k a W' he ((hs.belowD hb).addAll fun φ hφ => ?_)))
  obtain ⟨j, hj, hf⟩ := mem_kAll hφ
  have hji : j < i := by omega
  cases ha : all[j]? with
  | none =>
    have := List.getElem?_eq_none_iff.1 ha
    omega
  | some p =>
    cases p with
    | inl x => rw [hK2 j x hji ha] at hf; simp at hf
    | inr ψ =>
      obtain ⟨q1, q2⟩ := phNd_get hn j (List.mem_range.2 hji) ψ ha
      exact hK j ψ hji ha W' q1 q2 φ hf


/-- The head's phases are sound. -/
def PhOk : Dr.Ph → Prop
  | .inl _ => True
  | .inr φ => (∃ u, φ.1 u) ∧ ∀ u W W', φ.2 u W → Below W.heap.size W W' → φ.2 u W'
def PhsOk : List Dr.Ph → Prop
  | [] => True
  | p :: ps => PhOk p ∧ PhsOk ps
theorem ndPh_ok {α : Type} [h : Nonempty α] {X : Nat → Prop} {res : α → Value} {post : α → List Fact} : PhOk (ndPh X res post) :=
  ⟨h.elim fun x => ⟨res x, x, rfl⟩, fun u W W' ⟨x, h1, h2⟩ hb => ⟨x, h1, fun φ hφ => φ.fr X X W W' (h2 φ hφ) ⟨hb.os, hb.tape, hb.output, hb.size, fun b hb' _ => hb.block b hb'⟩ fun b h => .inl h⟩⟩
theorem PhsOk.mem : ∀ {ps : List Dr.Ph}, PhsOk ps → ∀ p ∈ ps, PhOk p
  | [], _, p, h => by simp at h
  | q :: ps, h, p, hp => by
    rcases List.mem_cons.1 hp with rfl | hp
    · exact h.1
    · exact h.2.mem p hp
/-- A REGION THAT DRAWS ITS ORDER: its head in any order, its tail behind it. -/
theorem Jc.draw {id : Nat} {l : List Oper} (N : Nat) (al : List Nat) {Φs : List Dr.Ph} (hm : P.follows .mixedOrders = true) (hok : Dr.regOk l.toArray N n.1 = true) (hfl : (l.take N).any Dr.isFloat = false)
    (h : Jr P C n l.toArray Q (l.drop N) al Φs R Φ (l.take N) Φs 0 [] [] env) (hlen : Φs.length = N) (hal : al.all (fun j => match Φs[j]? with | some (.inr _) => true | _ => false) = true) (hph : PhsOk Φs) :
    Jc P none C n Q (.region id l.toArray true) env R Φ := fun a W he hs => by
  refine wpIn_wide.2 (Dr.wp_region_rg N al Φs hm (by rw [he.size]; exact hok) hlen hal (fun j φ hj u W W' h1 h2 => (hph.mem _ (List.mem_of_getElem? hj)).2 u W W' h1 h2) (fun j φ hj => (hph.mem _ (List.mem_of_getElem? hj)).1)
    (h rfl rfl (Nat.zero_le _) (fun j φ hj => absurd hj (Nat.not_lt_zero _)) (fun j x hj => absurd hj (Nat.not_lt_zero _)) (fun j => by rw [Nat.zero_add]) a W he hs) (fun hf => by rw [hfl] at hf; cases hf))
/-- A head whose values are all known. -/
def JP (P : Program) (C : Cx) (n : Nat × List Nat) (ops : Array Oper) (Q : Exit → Act → World → Prop) (tail : List Oper) (R : List Res) (Φ : List Fact) (rem : List Oper) (i : Nat) (env : List (Nat × Value)) : Prop :=
  ∀ (pre : List Dr.Ph) (vs : List Value) (K : List (List Fact)), pre.length = i → (∀ j, kAt K j = []) → ∃ Φr : List Dr.Ph, Φr.length = rem.length ∧ PhsOk Φr ∧ Jr P C n ops Q tail [] (pre ++ Φr) R Φ rem Φr i vs K env
theorem kOf_none {K : List (List Fact)} (h : ∀ j, kAt K j = []) : ∀ js, kOf K js = []
  | [] => rfl
  | j :: js => by rw [kOf, h j, kOf_none h js]; rfl
theorem kAt_more {K : List (List Fact)} (h : ∀ j, kAt K j = []) (j : Nat) : kAt (K ++ [[]]) j = [] := by
  rcases Nat.lt_or_ge j K.length with h1 | h1
  · rw [kAt_snoc_lt h1]; exact h j
  · unfold kAt
    rw [List.getElem?_append_right h1]
    cases j - K.length with
    | zero => rfl
    | succ m => simp
theorem JP.step {o : Oper} {v : Value} {env' : List (Nat × Value)} (k : JP P C n ops Q tail R Φ rem (i + 1) env')
    (h : ∀ (all Φr : List Dr.Ph) (vs : List Value) (K : List (List Fact)), (∀ j, kAt K j = []) → Jr P C n ops Q tail [] all R Φ rem Φr (i + 1) (vs ++ [v]) (K ++ [[]]) env' → Jr P C n ops Q tail [] all R Φ (o :: rem) (.inl v :: Φr) i vs K env) :
    JP P C n ops Q tail R Φ (o :: rem) i env := fun pre vs K hp hK => by
  obtain ⟨Φr, h1, h2, h3⟩ := k (pre ++ [.inl v]) (vs ++ [v]) (K ++ [[]]) (by simp [hp]) (kAt_more hK)
  rw [List.append_assoc] at h3
  exact ⟨.inl v :: Φr, by simp [h1], ⟨trivial, h2⟩, h _ _ _ _ hK h3⟩
theorem JP.pv (h : PR P C n env R Φ op T v) (k : JP P C n ops Q tail R Φ rem (i + 1) ((d, v) :: env)) (hd : Nat.blt d n.1 = true := by rfl) : JP P C n ops Q tail R Φ (⟨some d, op, T, pos, af, none⟩ :: rem) i env :=
  JP.step k fun all Φr vs K hK h3 => Jr.pv (by rw [kOf_none hK]; exact h) h3 hd
theorem JP.callp {f : FuncId} {fs cs ws : List Value} {x : Operand} {as : Array Operand} {ts : Array TypeId} {args : List Value} {pre : List Fact} {α : Type} {res : α → Value} {Rout : α → List Res} {post : α → List Fact}
    (hct : Ct P f args [] pre res Rout post) (v : Value) (hres : ∀ x, res x = v) (hen : ∀ args w, (callFunc f args).run P w = .ok (.enter f args) w)
    (hx : opv env x = some (.func (.func f) fs.toArray cs.toArray)) (ha : opvs env as.toList = some ws) (hv : fs ++ ws ++ cs = args) (hp : FSub pre Φ)
    (k : JP P C n ops Q tail R Φ rem (i + 1) ((d, v) :: env)) (hd : Nat.blt d n.1 = true := by rfl) : JP P C n ops Q tail R Φ (⟨some d, .call { callee := .value x, args := as, argTypes := ts }, T, pos, af, none⟩ :: rem) i env :=
  JP.step k fun all Φr vs K hK h3 => Jr.callp hct v hres hen hx ha hv (by rw [kOf_none hK]; exact hp) h3 hd
theorem JP.off {j : Nat} {want b : Bool} {t : Nat} (hj : (ops[j]?).bind (·.dst) = some t) (ht : elook t env = some (.bool b)) (hb : b = !want)
    (k : JP P C n ops Q tail R Φ rem (i + 1) ((d, undef) :: env)) (hd : Nat.blt d n.1 = true := by rfl) : JP P C n ops Q tail R Φ (⟨some d, op, T, pos, af, some (j, want)⟩ :: rem) i env :=
  JP.step k fun all Φr vs K hK h3 => Jr.off hj ht hb h3 hd
theorem JP.on {d' : Option Nat} {j : Nat} {want : Bool} {t : Nat} (hj : (ops[j]?).bind (·.dst) = some t) (ht : elook t env = some (.bool want))
    (k : JP P C n ops Q tail R Φ (⟨d', op, T, pos, af, none⟩ :: rem) i env) : JP P C n ops Q tail R Φ (⟨d', op, T, pos, af, some (j, want)⟩ :: rem) i env := fun pre vs K hp hK => by
  obtain ⟨Φr, h1, h2, h3⟩ := k pre vs K hp hK
  exact ⟨Φr, h1, h2, Jr.on hj ht h3⟩
theorem JP.bsplit {b : Bool} (h1 : b = true → JP P C n ops Q tail R Φ rem i ((d, .bool true) :: env)) (h2 : b = false → JP P C n ops Q tail R Φ rem i ((d, .bool false) :: env)) : JP P C n ops Q tail R Φ rem i ((d, .bool b) :: env) := by
  cases b
  · exact h2 rfl
  · exact h1 rfl
theorem JP.as {u' : Value} (h : u = u') (k : JP P C n ops Q tail R Φ rem i ((d, u') :: env)) : JP P C n ops Q tail R Φ rem i ((d, u) :: env) := by subst h; exact k
theorem kAll_none {K : List (List Fact)} (h : ∀ j, kAt K j = []) : kAll K = [] :=
  List.eq_nil_iff_forall_not_mem.2 fun φ hφ => by
    obtain ⟨j, _, hj⟩ := mem_kAll hφ
    rw [h j] at hj; simp at hj
theorem JP.fin (ht : tail.all plainOp = true) (k : Jl P none C n ops Q tail env R Φ) : JP P C n ops Q tail R Φ [] i env := fun pre vs K hp hK =>
  ⟨[], rfl, trivial, Jr.fin rfl ht (by rw [kAll_none hK]; exact k)⟩
theorem Jc.drawP {id : Nat} {l : List Oper} (N : Nat) (hm : P.follows .mixedOrders = true) (hok : Dr.regOk l.toArray N n.1 = true) (hfl : (l.take N).any Dr.isFloat = false)
    (h : JP P C n l.toArray Q (l.drop N) R Φ (l.take N) 0 env) : Jc P none C n Q (.region id l.toArray true) env R Φ := by
  obtain ⟨Φr, h1, h2, h3⟩ := h [] [] [] rfl (fun j => rfl)
  have hN : N ≤ l.length := by have := (Dr.regOk_spec hok).le; simpa using this
  exact Jc.draw N [] hm hok hfl h3 (by rw [List.nil_append, h1]; simp; omega) rfl h2
end rules
end Go.Proofs.YtcppphgpbaablaaGreatDoor
