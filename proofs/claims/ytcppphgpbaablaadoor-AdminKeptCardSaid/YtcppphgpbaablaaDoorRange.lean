/-
A law for the range over a function: the rounds may read and write, the iterator may keep cells of its own; what each may touch is said by sets of blocks.
Conditions: none; no program in sight.
-/
import Derived.RangeFuncNested
import Derived.RangeFuncBound
import Derived.RangeFuncCalls
import Derived.RangeFuncLeaves
import Derived.WalkKit
import Derived.OwnWalkIn
import Derived.TacticsInMore
import Derived.LoopNIn
import Derived.LoopIn
import Derived.ScopeJumps
import Derived.WalkMore
import Derived.Test.YtcppphgpbaablaaDoorMem
namespace Go.Proofs.YtcppphgpbaablaaDoor
set_option linter.unusedVariables false
open Go.RowKit

/-- W' is W but for the blocks X and new ones. -/
structure Foreign (X : Nat → Prop) (W W' : World) : Prop where
  os : W'.os = W.os
  tape : W'.tape = W.tape
  output : W'.output = W.output
  size : W.heap.size ≤ W'.heap.size
  block : ∀ b, b < W.heap.size → ¬ X b → W'.heap[b]? = W.heap[b]?

theorem Foreign.refl (X : Nat → Prop) (W : World) : Foreign X W W := ⟨rfl, rfl, rfl, Nat.le_refl _, fun _ _ _ => rfl⟩
theorem Foreign.alloc (X : Nat → Prop) (W : World) (o : Obj) : Foreign X W (W.alloc o) := ⟨rfl, rfl, rfl, by simp, fun b hb _ => Below.heap_alloc W o b hb⟩
theorem Foreign.drew (X : Nat → Prop) (W : World) : Foreign X W W.drew := ⟨rfl, rfl, rfl, Nat.le_refl _, fun _ _ _ => rfl⟩
theorem Foreign.below {X : Nat → Prop} {W W' : World} (h : Below W.heap.size W W') : Foreign X W W' := ⟨h.os, h.tape, h.output, h.size, fun b hb _ => h.block b hb⟩
theorem Foreign.putObj {X : Nat → Prop} {W : World} {l : Nat} (o : Obj) (h : X l) : Foreign X W (W.putObj l o) :=
  ⟨rfl, rfl, rfl, by simp, fun b _ hx => World.putObj_heap_other (fun e => hx (by rw [e]; exact h))⟩
theorem Foreign.setCell {X : Nat → Prop} {W : World} {p : Addr} (u : Value) (h : X p.block) : Foreign X W (W.setCell p u) :=
  ⟨rfl, rfl, rfl, by simp [World.setCell], fun b _ hx => Below.heap_setCell W p u b (fun e => hx (by rw [e]; exact h))⟩
theorem Foreign.trans {X : Nat → Prop} {A B C : World} (h : Foreign X A B) (k : Foreign X B C) : Foreign X A C :=
  ⟨k.os.trans h.os, k.tape.trans h.tape, k.output.trans h.output, Nat.le_trans h.size k.size, fun b hb hx => (k.block b (Nat.lt_of_lt_of_le hb h.size) hx).trans (h.block b hb hx)⟩
theorem Foreign.cell {X : Nat → Prop} {W W' : World} (h : Foreign X W W') {p : Addr} {v : Value} (hx : ¬ X p.block) (hc : W.cell? p = some v) : W'.cell? p = some v :=
  (World.cell?_of_block (h.block p.block (World.block_lt_of_cell? W p hc) hx)).trans hc

theorem wplIn_append {F : Fence} {n : Nat} {P : Program} (w : World) {ops : Array Oper} {rest : List Oper} {o : Oper} {a : Act} {Q : Exit → Act → World → Prop} (hgd : o.guard = none) (s x : Operand) (t : TypeId)
    (ho : o.op = .call { callee := .builtin .append, args := #[s, x], argTypes := #[t, t] })
    (base : Nat) (e : TypeId) (i : TypeInfo) (z : Value) (size bytes : Nat) (ht : P.underlying t = some (.slice e)) (hi : P.info? e = some i) (hz : i.zero = some z)
    (hsize : i.size = size) (hby : i.bytes = bytes) (hzs : z.cells.size = size) (hsz : 0 < size)
    (v : Value) (k : Nat) (xs : List Value) (hs : a.eval s = v) (hown : w.ownsRow base e size v k xs)
    (lo up : Nat) (A : Option Addr) (m c : Nat) (news : List Value) (hx : a.eval x = .slice A m c) (hl : news.length = m * size) (hr : Rd w lo up A news) (h1 : ∀ u ∈ news, u.oneCell' = true)
    (h63 : k + m ≤ maxLen) (hbytes : (k + m) * bytes ≤ 140737488355328) (hbase : base ≤ w.heap.size)
    (h : ∀ A' c' w', w'.ownsRow base e size (.slice A' (k + m) c') (k + m) (xs ++ news) → w.grownBy w' v.ownBlock →
      ((Value.slice A' (k + m) c').ownBlock = v.ownBlock ∨ (Value.slice A' (k + m) c').ownBlock = some w.heap.size) → wpListIn F n P ops Q rest (a.put o.dst (.slice A' (k + m) c')) w') :
    wpListIn F n P ops Q (o :: rest) a w := by
  refine wpListIn_plain hgd fun K hK' => ?_
  obtain ⟨v', w', hrun, r1, r2, r3⟩ := run_append_src (P := P) w base t o.type e i z size bytes ht hi hz hsize hby hzs hsz v k xs hown lo up A m c news hl hr h1 h63 hbytes hbase
  obtain ⟨A', c', rfl, _⟩ := own_form r1
  unfold Oper.wpIn
  refine ⟨?_, ?_⟩
  · simp [Oper.about, ho, resolve, Target.leads, Sem.run_pure]
  · rw [Oper.semAt_plain F _ _ (by rw [ho]; intro c hc'; cases hc')]
    simp [execOp, ho, resolve, invoke, builtin, hs, hx, hrun, Result.andThen]
    exact hK' _ _ (h A' c' w' r1 r2 r3)

/-- What is said of the k-th round, with X for the blocks that are not its own, stays when those turn, and when others come. -/
def Framed (J : Nat → (Nat → Prop) → World → Prop) : Prop :=
  ∀ k X X' W W', J k X W → Foreign X W W' → (∀ b, X' b → X b ∨ (W.heap.size ≤ b ∧ b < W'.heap.size)) → J k X' W'

/-- What is said beside the blocks X, and stays when these turn and others come. -/
def Fr (p : (Nat → Prop) → World → Prop) : Prop :=
  ∀ X X' W W', p X W → Foreign X W W' → (∀ b, X' b → X b ∨ (W.heap.size ≤ b ∧ b < W'.heap.size)) → p X' W'
theorem framed_of {J : Nat → (Nat → Prop) → World → Prop} (h : ∀ k, Fr (J k)) : Framed J := fun k X X' W W' hj hf hx => h k X X' W W' hj hf hx
theorem Fr.and {p q : (Nat → Prop) → World → Prop} (h : Fr p) (k : Fr q) : Fr (fun X W => p X W ∧ q X W) := fun X X' W W' hp hf hx => ⟨h X X' W W' hp.1 hf hx, k X X' W W' hp.2 hf hx⟩
theorem Fr.ex {α : Type} {p : α → (Nat → Prop) → World → Prop} (h : ∀ x, Fr (p x)) : Fr (fun X W => ∃ x, p x X W) := fun X X' W W' ⟨x, hp⟩ hf hx => ⟨x, h x X X' W W' hp hf hx⟩
theorem Fr.pure (c : Prop) : Fr (fun _ _ => c) := fun _ _ _ _ h _ _ => h
def XBk (b : Nat) (T : TypeId) (cs : Array Value) (X : Nat → Prop) (W : World) : Prop := ¬ X b ∧ Bk W b T cs
def XOwn (base : Nat) (e : TypeId) (size : Nat) (v : Value) (n : Nat) (xs : List Value) (X : Nat → Prop) (W : World) : Prop := W.ownsRow base e size v n xs ∧ ∀ g, v.ownBlock = some g → ¬ X g
def XBelow (n : Nat) (w : World) (X : Nat → Prop) (W : World) : Prop := (∀ b, X b → n ≤ b) ∧ Below n w W ∧ n ≤ W.heap.size
def XRd (lo hi : Nat) (A : Option Addr) (xs : List Value) (X : Nat → Prop) (W : World) : Prop := Rd W lo hi A xs ∧ hi ≤ W.heap.size ∧ ∀ b, X b → b < lo ∨ hi ≤ b
theorem fr_bk (b : Nat) (T : TypeId) (cs : Array Value) : Fr (XBk b T cs) := fun X X' W W' ⟨h1, h2⟩ hf hx =>
  ⟨fun h => (hx b h).elim h1 (fun h => by have := h2.lt; omega), h2.keep (hf.block b h2.lt h1)⟩
theorem fr_own (base : Nat) (e : TypeId) (size : Nat) (v : Value) (n : Nat) (xs : List Value) : Fr (XOwn base e size v n xs) := fun X X' W W' ⟨h1, h2⟩ hf hx =>
  ⟨own_keep h1 (fun g hg => hf.block g (h1.lt g hg).2 (h2 g hg)), fun g hg h => (hx g h).elim (h2 g hg) (fun h => by have := (h1.lt g hg).2; omega)⟩
theorem fr_below (n : Nat) (w : World) : Fr (XBelow n w) := fun X X' W W' ⟨h1, h2, h3⟩ hf hx =>
  ⟨fun b hb => (hx b hb).elim (h1 b) (fun h => by omega),
   ⟨hf.os.trans h2.os, hf.tape.trans h2.tape, hf.output.trans h2.output, Nat.le_trans h2.size hf.size, fun b hb => (hf.block b (by omega) (fun h => by have := h1 b h; omega)).trans (h2.block b hb)⟩,
   Nat.le_trans h3 hf.size⟩
theorem fr_rd (lo hi : Nat) (A : Option Addr) (xs : List Value) : Fr (XRd lo hi A xs) := fun X X' W W' ⟨h1, h2, h3⟩ hf hx =>
  ⟨h1.keep (fun b hb1 hb2 => hf.block b (by omega) (fun h => by have := h3 b h; omega)), Nat.le_trans h2 hf.size, fun b hb => (hx b hb).elim (h3 b) (fun h => by omega)⟩

theorem enters_fn {P : Program} {f : FuncId} {fn : Func} {c : Code} (hf : P.funcs[f]? = some fn) (hname : (fn.name == "runtime.NumGoroutine") = false) (hb : fn.body = some c) :
    ∀ args w, (callFunc f args).run P w = .ok (.enter f args) w := by
  intro args w
  have h1 : fn.name ≠ "runtime.NumGoroutine" := by simpa using hname
  simp [callFunc, hf, h1, hb, mark]

/-- AN ITERATOR's CONTRACT: it calls yield N times, the k-th time with values of 'encs k'; the rounds keep the blocks K. -/
def Iter (P : Program) (gf : Nat) (lb : Array Value) (N : Nat) (encs : Nat → Array Value → (Nat → Prop) → World → Prop) (K : Nat → Prop) (w0 : World) : Prop :=
  ∀ (l : Nat) (J Jx : Nat → (Nat → Prop) → World → Prop) (W : World), w0.heap.size ≤ W.heap.size → (∀ b, K b → W.heap[b]? = w0.heap[b]?) → Framed J → Framed Jx →
    (∀ k X vs W1, k < N → J k X W1 → W.heap.size ≤ W1.heap.size → (∀ b, K b → W1.heap[b]? = w0.heap[b]?) → (∀ b, X b → W.heap.size ≤ b ∧ b < W1.heap.size) → encs k vs X W1 → YieldAt Fence.wide 0 P l vs W1 fun e W' =>
      (e = .returned (.bool true) ∧ J (k + 1) X W' ∧ W1.heap.size ≤ W'.heap.size ∧ (∀ b, K b → W'.heap[b]? = W1.heap[b]?) ∧ (∀ b, X b → W'.heap[b]? = W1.heap[b]?)) ∨ (e = .returned (.bool false) ∧ Jx k X W')) →
    J 0 (fun _ => False) W →
    CallsIn Fence.wide 0 P gf (#[.func (.yield l) #[] #[]] ++ lb) W fun e W' => (∃ v, e = .returned v) ∧ ((∃ X, J N X W') ∨ (∃ k X, k < N ∧ Jx k X W'))

/-- How the body of the k-th round may be left. -/
def roundEnd (K X : Nat → Prop) (I : Nat → (Nat → Prop) → World → Prop) (Ix : Code → Nat → (Nat → Prop) → World → Prop) (k : Nat) (W : World) : Exit → Act → World → Prop
  | .normal, _, W' => W.heap.size ≤ W'.heap.size ∧ (∀ b, X b → W'.heap[b]? = W.heap[b]?) ∧ (∀ b, K b → W'.heap[b]? = W.heap[b]?) ∧ I (k + 1) X W'
  | .ret, _, W' => W.heap.size ≤ W'.heap.size ∧ (∀ b, X b → W'.heap[b]? = W.heap[b]?) ∧ Ix .ret k X W'
  | .exit id, _, W' => W.heap.size ≤ W'.heap.size ∧ (∀ b, X b → W'.heap[b]? = W.heap[b]?) ∧ Ix (.exit id) k X W'
  | .goto t, _, W' => W.heap.size ≤ W'.heap.size ∧ (∀ b, X b → W'.heap[b]? = W.heap[b]?) ∧ Ix (.goto t) k X W'
  | .panic _, _, _ => False
  | .outgrown, _, _ => False

/-- W' is W, but for the block l, which holds no cells. -/
structure Turned (l : Nat) (W W' : World) : Prop where
  size : W'.heap.size = W.heap.size
  block : ∀ b, b ≠ l → W'.heap[b]? = W.heap[b]?
  cell : ∀ p, W'.cell? p = W.cell? p
  frozen : ∀ p, W'.frozen? p = W.frozen? p

theorem turned_putObj {W : World} {l : Nat} {o o' : Obj} (h : W.heap[l]? = some o) (ho : o.isCells = false) (ho' : o'.isCells = false) : Turned l W (W.putObj l o') := by
  have hl := (Array.getElem?_eq_some_iff.1 h).1
  refine ⟨by simp, fun b hb => World.putObj_heap_other hb, fun p => ?_, fun p => ?_⟩
  · by_cases e : p.block = l
    · have h1 := World.putObj_heap_same (w := W) (o := o') hl
      rw [← e] at h h1 hl
      unfold World.cell?
      rw [e] at h1 h ⊢
      rw [h1, h]
      cases o <;> cases o' <;> first | rfl | (simp [Obj.isCells] at ho ho')
    · exact World.cell?_of_block (World.putObj_heap_other e)
  · by_cases e : p.block = l
    · have h1 := World.putObj_heap_same (w := W) (o := o') hl
      unfold World.frozen?
      rw [e, h1, h]
      cases o <;> cases o' <;> first | rfl | (simp [Obj.isCells] at ho ho')
    · exact World.frozen?_of_block (World.putObj_heap_other e)

/-- The blocks that a round leaves alone: the iterator's, and the two that the statement has laid. -/
def ext (X : Nat → Prop) (D : Nat) : Nat → Prop := fun b => X b ∨ b = D ∨ b = D + 1

/-- What is asked behind the assignment to the loop's left sides: the body, in whatever world that is the same but for the loop's record. -/
def afterAssign (P : Program) (K X : Nat → Prop) (I : Nat → (Nat → Prop) → World → Prop) (Ix : Code → Nat → (Nat → Prop) → World → Prop) (l k : Nat) (body : Code) (W : World) (a₁ : Act) (W₁ : World) : Prop :=
  W.heap.size ≤ W₁.heap.size ∧ (∀ b, X b ∨ K b → W₁.heap[b]? = W.heap[b]?) ∧
    ∀ W₂, Turned l W₁ W₂ → Foreign X W₁ W₂ → (I k X W₁ → I k X W₂) → body.wpIn (Fence.wide.inRound l) 0 P (roundEnd K X I Ix k W₂) a₁ W₂

/-- THE STATEMENT 'for .. := range g { .. }' outside every round. -/
theorem wpIn_range {P : Program} {g : Operand} {ps : Array Tmp} {assign body : Code} {Q : Exit → Act → World → Prop} {a : Act} {w : World}
    (D : Nat) (hD : w.heap.size = D) {gf : Nat} {lb : Array Value} (hg : a.eval g = .func (.func gf) #[] lb) (eg : ∀ args w, (callFunc gf args).run P w = .ok (.enter gf args) w)
    {N : Nat} {encs : Nat → Array Value → (Nat → Prop) → World → Prop} {K : Nat → Prop} (hit : Iter P gf lb N encs K w)
    (hK : ∀ b, K b → b < w.heap.size)
    (hps : ∀ k vs X W, encs k vs X W → vs.size = ps.size)
    (I : Nat → (Nat → Prop) → World → Prop) (Ix : Code → Nat → (Nat → Prop) → World → Prop) (hI : Framed I) (hIx : ∀ c, Framed (Ix c)) (h0 : I 0 (fun _ => False) w)
    (hround : ∀ l k X vs W, k < N → l = D + 1 → I k (ext X D) W → (∀ b, X b → D + 2 ≤ b ∧ b < W.heap.size) → (∀ b, K b → W.heap[b]? = w.heap[b]?) → D + 2 ≤ W.heap.size →
      encs k vs X W →
      assign.wpIn (Fence.wide.inRound l) 0 P (Exit.then (afterAssign P K (ext X D) I Ix l k body W) (fun _ _ _ => False))
        { tmps := (ps.zip vs).foldl (fun t (p, v) => t.setIfInBounds p v) a.tmps, defers := [] } W)
    (hdone : ∀ (X : Nat → Prop) (W : World), (∀ b, X b → D ≤ b) → X D → I N X W → W.heap[D]? = some (.deferred (some [])) →
      Q .normal { a with defers := { target := .collected D, args := #[] } :: a.defers } W)
    (hstop : ∀ (c : Code) (k : Nat) (X : Nat → Prop) (W : World), k < N → (∀ b, X b → D ≤ b) → X D → Ix c k X W → W.heap[D]? = some (.deferred (some [])) →
      c.wpIn Fence.wide 0 P Q { a with defers := { target := .collected D, args := #[] } :: a.defers } W) :
    (Code.rangeFunc g ps assign body).wpIn Fence.wide 0 P Q a w := by
  refine wpIn_rangeFunc ?_
  intro fn hfn
  rw [Fence.wide_round]
  replace hD := hD.symm
  obtain ⟨rec, hrec⟩ : ∃ rec : LoopState → Option Code → Loop, rec = fun st pe => { state := st, pending := pe, fn, tmps := a.tmps, params := ps, assign, body, defers := D } := ⟨_, rfl⟩
  obtain ⟨W1, hW1⟩ : ∃ W1, (w.alloc (.deferred (some []))).alloc (.loop (rec .ready none)) = W1 := ⟨_, rfl⟩
  have hz1 : W1.heap.size = D + 2 := by rw [← hW1, hD]; simp
  have hL1 : W1.heap[D + 1]? = some (.loop (rec .ready none)) := by
    rw [← hW1, hD]; have := World.alloc_heap_new (w.alloc (.deferred (some []))) (.loop (rec .ready none)); rwa [World.size_alloc] at this
  have hD1 : W1.heap[D]? = some (.deferred (some [])) := by
    rw [← hW1, hD]; exact (Below.heap_alloc _ _ _ (by simp)).trans (World.alloc_heap_new w _)
  have hold : ∀ b, b < D → W1.heap[b]? = w.heap[b]? := fun b hb => by
    rw [← hW1]; exact (Below.heap_alloc _ _ _ (by simp; omega)).trans (Below.heap_alloc _ _ _ (by omega))
  have hf1 : Foreign (fun _ => False) w W1 := by rw [← hW1]; exact (Foreign.alloc _ w _).trans (Foreign.alloc _ _ _)
  have hI1 : I 0 (ext (fun _ => False) D) W1 := hI 0 _ _ w W1 h0 hf1 (fun b hb => by
    rcases hb with hb | hb | hb
    · exact hb.elim
    · exact .inr ⟨by omega, by omega⟩
    · exact .inr ⟨by omega, by omega⟩)
  refine ⟨D + 1, [{ target := .collected D, args := #[] }], W1, { target := .fn (.func gf) lb, args := #[.func (.yield (D + 1)) #[] #[]] }, W1, gf,
    #[.func (.yield (D + 1)) #[] #[]] ++ lb, W1, ?_, ?_, ?_, ?_, fun h => by simp [Fence.wide] at h, ?_⟩
  · rw [← hW1, hrec, hD]; exact run_enterLoop_outer _ _ _ _ _
  · simp only [resolve, hg]
    simp [go_sem]
  · intro f' _; trivial
  · simp [invoke, go_sem, eg]
  · have hext : ∀ {X X' : Nat → Prop} {W W' : World}, (∀ b, X' b → X b ∨ (W.heap.size ≤ b ∧ b < W'.heap.size)) → ∀ b, ext X' D b → ext X D b ∨ (W.heap.size ≤ b ∧ b < W'.heap.size) := by
      intro X X' W W' h b hb
      rcases hb with hb | hb | hb
      · rcases h b hb with h | h
        · exact .inl (.inl h)
        · exact .inr h
      · exact .inl (.inr (.inl hb))
      · exact .inl (.inr (.inr hb))
    have hfor : ∀ {X : Nat → Prop} {W W' : World}, Foreign X W W' → Foreign (ext X D) W W' := fun h => ⟨h.os, h.tape, h.output, h.size, fun b hb hx => h.block b hb (fun e => hx (.inl e))⟩
    refine CallsIn.mono (hit (D + 1)
      (fun k X W => I k (ext X D) W ∧ W.heap[D + 1]? = some (.loop (rec .ready none)) ∧ W.heap[D]? = some (.deferred (some [])) ∧ ¬ X D ∧ ¬ X (D + 1))
      (fun k X W => ∃ c, Ix c k (ext X D) W ∧ W.heap[D + 1]? = some (.loop (rec .done (some c))) ∧ W.heap[D]? = some (.deferred (some [])) ∧ ¬ X D ∧ ¬ X (D + 1))
      W1 (by omega) (fun b hb => hold b (by have := hK b hb; omega)) ?_ ?_ ?_ ⟨hI1, hL1, hD1, id, id⟩) ?_
    · -- framed: while the rounds go on
      rintro k X X' W W' ⟨h1, h2, h3, h4, h5⟩ hf hx
      have hl2 := (Array.getElem?_eq_some_iff.1 h2).1
      exact ⟨hI k _ _ W W' h1 (hfor hf) (hext hx), (hf.block _ hl2 h5).trans h2, (hf.block _ (by omega) h4).trans h3,
        fun h => (hx _ h).elim h4 (fun h => by omega), fun h => (hx _ h).elim h5 (fun h => by omega)⟩
    · rintro k X X' W W' ⟨c, h1, h2, h3, h4, h5⟩ hf hx
      have hl2 := (Array.getElem?_eq_some_iff.1 h2).1
      exact ⟨c, hIx c k _ _ W W' h1 (hfor hf) (hext hx), (hf.block _ hl2 h5).trans h2, (hf.block _ (by omega) h4).trans h3,
        fun h => (hx _ h).elim h4 (fun h => by omega), fun h => (hx _ h).elim h5 (fun h => by omega)⟩
    · -- one round
      rintro k X vs W hk ⟨hi, hl, hd, hx1, hx2⟩ hsz hkk hX henc
      have hlt : D + 1 < W.heap.size := (Array.getElem?_eq_some_iff.1 hl).1
      have hy := run_yield (P := P) (args := vs) hl (by rw [hrec]; exact hps k vs X W henc)
      rw [hrec] at hy
      refine ⟨fn, _, assign, body, hy, roundIn_of_wpIn hfn ?_⟩
      refine wpIn_mono (hround (D + 1) k X vs W hk rfl hi (fun b hb => by have := hX b hb; omega) hkk (by omega) henc) ?_
      rintro e a₁ W₁ hp
      cases e with
      | normal =>
        obtain ⟨hs1, hsame1, hb⟩ := hp
        have hl1 : W₁.heap[D + 1]? = some (.loop (rec .ready none)) := (hsame1 _ (.inl (.inr (.inr rfl)))).trans hl
        have hd1 : W₁.heap[D]? = some (.deferred (some [])) := (hsame1 _ (.inl (.inr (.inl rfl)))).trans hd
        refine ⟨_, run_beginRound hl1 (by rw [hrec]), ?_⟩
        obtain ⟨W₂, hW2⟩ : ∃ W₂, W₁.putObj (D + 1) (.loop { rec .ready none with state := .busy }) = W₂ := ⟨_, rfl⟩
        rw [hW2]
        have hl2 : W₂.heap[D + 1]? = some (.loop { rec .ready none with state := .busy }) := by rw [← hW2]; exact World.putObj_heap_same (Array.getElem?_eq_some_iff.1 hl1).1
        have hd2 : W₂.heap[D]? = some (.deferred (some [])) := by rw [← hW2]; exact (World.putObj_heap_other (by omega)).trans hd1
        have hsz2 : W₂.heap.size = W₁.heap.size := by rw [← hW2]; simp
        have hoth : ∀ b, b ≠ D + 1 → W₂.heap[b]? = W₁.heap[b]? := fun b hb => by rw [← hW2]; exact World.putObj_heap_other hb
        refine wpIn_mono (hb W₂ (by rw [← hW2]; exact turned_putObj hl1 rfl rfl) (by rw [← hW2]; exact Foreign.putObj _ (.inr (.inr rfl))) (fun hi1 => by rw [← hW2]; exact hI k _ _ W₁ _ hi1 (Foreign.putObj _ (.inr (.inr rfl))) (fun b hb => .inl hb))) ?_
        have fin : ∀ (jump : Option Code) (W3 : World), (∀ b, ext X D b → W3.heap[b]? = W₂.heap[b]?) → W₂.heap.size ≤ W3.heap.size →
            (Instr.endRound (D + 1) jump).run P W3 = .ok (.bool jump.isNone) (W3.putObj (D + 1) (.loop (rec (if jump.isNone then .ready else .done) jump))) ∧
            (W3.putObj (D + 1) (.loop (rec (if jump.isNone then .ready else .done) jump))).heap[D + 1]? = some (.loop (rec (if jump.isNone then .ready else .done) jump)) ∧
            (W3.putObj (D + 1) (.loop (rec (if jump.isNone then .ready else .done) jump))).heap[D]? = some (.deferred (some [])) := fun jump W3 hk3 hs3 => by
          have hl3 := (hk3 (D + 1) (.inr (.inr rfl))).trans hl2
          have := run_endRound (P := P) jump hl3
          rw [hrec] at this ⊢
          exact ⟨this, World.putObj_heap_same (Array.getElem?_eq_some_iff.1 hl3).1, (World.putObj_heap_other (by omega)).trans ((hk3 D (.inr (.inl rfl))).trans hd2)⟩
        rintro e a3 W3 hp3
        cases e with
        | normal =>
          obtain ⟨hs3, hx3, hk3, hi3⟩ := hp3
          obtain ⟨hr, hl4, hd4⟩ := fin none W3 hx3 hs3
          refine ⟨_, _, hr, .inl ⟨rfl, ⟨hI (k + 1) _ _ W3 _ hi3 (Foreign.putObj _ (.inr (.inr rfl))) (fun b hb => .inl hb), hl4, hd4, hx1, hx2⟩, by simp; omega, fun b hb => ?_, fun b hb => ?_⟩⟩
          · have hbD := hK b hb
            exact (World.putObj_heap_other (by omega)).trans ((hk3 b hb).trans ((hoth b (by omega)).trans (hsame1 b (.inr hb))))
          · have hne : b ≠ D + 1 := fun e => hx2 (e ▸ hb)
            exact (World.putObj_heap_other hne).trans ((hx3 b (.inl hb)).trans ((hoth b hne).trans (hsame1 b (.inl (.inl hb)))))
        | ret =>
          obtain ⟨hs3, hx3, hi3⟩ := hp3
          obtain ⟨hr, hl4, hd4⟩ := fin (some .ret) W3 hx3 hs3
          exact ⟨_, _, hr, .inr ⟨rfl, .ret, hIx _ k _ _ W3 _ hi3 (Foreign.putObj _ (.inr (.inr rfl))) (fun b hb => .inl hb), hl4, hd4, hx1, hx2⟩⟩
        | exit id =>
          obtain ⟨hs3, hx3, hi3⟩ := hp3
          obtain ⟨hr, hl4, hd4⟩ := fin (some (.exit id)) W3 hx3 hs3
          exact ⟨_, _, hr, .inr ⟨rfl, .exit id, hIx _ k _ _ W3 _ hi3 (Foreign.putObj _ (.inr (.inr rfl))) (fun b hb => .inl hb), hl4, hd4, hx1, hx2⟩⟩
        | goto t =>
          obtain ⟨hs3, hx3, hi3⟩ := hp3
          obtain ⟨hr, hl4, hd4⟩ := fin (some (.goto t)) W3 hx3 hs3
          exact ⟨_, _, hr, .inr ⟨rfl, .goto t, hIx _ k _ _ W3 _ hi3 (Foreign.putObj _ (.inr (.inr rfl))) (fun b hb => .inl hb), hl4, hd4, hx1, hx2⟩⟩
        | panic ch => exact hp3.elim
        | outgrown => exact hp3.elim
      | ret => exact hp.elim
      | exit id => exact hp.elim
      | goto t => exact hp.elim
      | panic ch => exact hp.elim
      | outgrown => exact hp.elim
    · -- behind the iterator
      rintro e W2 ⟨⟨v, rfl⟩, (⟨X, hi, hl, hd, hx1, hx2⟩ | ⟨k, X, hk, c, hi, hl, hd, hx1, hx2⟩)⟩
      · have hle : ∀ b, ext X D b ∧ D ≤ b → D ≤ b := fun b h => h.2
        refine ⟨none, _, by have := run_endLoop (P := P) hl (by rw [hrec]; simp); rw [hrec] at this; exact this, ?_⟩
        have hi' := hI N _ (fun b => ext X D b ∧ D ≤ b) W2 (W2.putObj (D + 1) (.loop { rec .ready none with state := .exhausted })) hi (Foreign.putObj _ (.inr (.inr rfl))) (fun b hb => .inl hb.1)
        rw [hrec] at hi'
        exact hdone (fun b => ext X D b ∧ D ≤ b) _ hle ⟨.inr (.inl rfl), Nat.le_refl _⟩ hi' ((World.putObj_heap_other (by omega)).trans hd)
      · have hle : ∀ b, ext X D b ∧ D ≤ b → D ≤ b := fun b h => h.2
        refine ⟨some c, _, by have := run_endLoop (P := P) hl (by rw [hrec]; simp); rw [hrec] at this; exact this, ?_⟩
        have hi' := hIx c k _ (fun b => ext X D b ∧ D ≤ b) W2 (W2.putObj (D + 1) (.loop { rec .done (some c) with state := .exhausted })) hi (Foreign.putObj _ (.inr (.inr rfl))) (fun b hb => .inl hb.1)
        rw [hrec] at hi'
        exact hstop c k (fun b => ext X D b ∧ D ≤ b) _ hk hle ⟨.inr (.inl rfl), Nat.le_refl _⟩ hi' ((World.putObj_heap_other (by omega)).trans hd)

/-- The same over the plain walk. -/
theorem wp_range {P : Program} {g : Operand} {ps : Array Tmp} {assign body : Code} {Q : Exit → Act → World → Prop} {a : Act} {w : World}
    (D : Nat) (hD : w.heap.size = D) {gf : Nat} {lb : Array Value} (hg : a.eval g = .func (.func gf) #[] lb) (eg : ∀ args w, (callFunc gf args).run P w = .ok (.enter gf args) w)
    {N : Nat} {encs : Nat → Array Value → (Nat → Prop) → World → Prop} {K : Nat → Prop} (hit : Iter P gf lb N encs K w)
    (hK : ∀ b, K b → b < w.heap.size)
    (hps : ∀ k vs X W, encs k vs X W → vs.size = ps.size)
    (I : Nat → (Nat → Prop) → World → Prop) (Ix : Code → Nat → (Nat → Prop) → World → Prop) (hI : Framed I) (hIx : ∀ c, Framed (Ix c)) (h0 : I 0 (fun _ => False) w)
    (hround : ∀ l k X vs W, k < N → l = D + 1 → I k (ext X D) W → (∀ b, X b → D + 2 ≤ b ∧ b < W.heap.size) → (∀ b, K b → W.heap[b]? = w.heap[b]?) → D + 2 ≤ W.heap.size →
      encs k vs X W →
      assign.wpIn (Fence.wide.inRound l) 0 P (Exit.then (afterAssign P K (ext X D) I Ix l k body W) (fun _ _ _ => False))
        { tmps := (ps.zip vs).foldl (fun t (p, v) => t.setIfInBounds p v) a.tmps, defers := [] } W)
    (hdone : ∀ (X : Nat → Prop) (W : World), (∀ b, X b → D ≤ b) → X D → I N X W → W.heap[D]? = some (.deferred (some [])) →
      Q .normal { a with defers := { target := .collected D, args := #[] } :: a.defers } W)
    (hstop : ∀ (c : Code) (k : Nat) (X : Nat → Prop) (W : World), k < N → (∀ b, X b → D ≤ b) → X D → Ix c k X W → W.heap[D]? = some (.deferred (some [])) →
      c.wp P Q { a with defers := { target := .collected D, args := #[] } :: a.defers } W) :
    (Code.rangeFunc g ps assign body).wp P Q a w :=
  (wpIn_wide (n := 0)).1 (wpIn_range D hD hg eg hit hK hps I Ix hI hIx h0 hround hdone (fun c k X W h1 h2 h3 h4 h5 => wpIn_wide.2 (hstop c k X W h1 h2 h3 h4 h5)))

/-- A scope with jumps forward to one label: what stands behind the label is walked at each jump. -/
theorem wp_scope_fwd {P : Program} {a : Act} {w : World} {Q : Exit → Act → World → Prop} {c rest : Code} (l : Nat) (hf : findLabel c l = some rest)
    (h : c.wp P (Exit.jump l (fun a w => rest.wp P (Exit.noGoto Q) a w) Q) a w) : (Code.scope c).wp P Q a w :=
  wp_scope_jumps l _ (fun _ _ => 0) hf h fun a w hJ => Code.wp_mono (fun e a w q => by cases e <;> first | exact q | exact q.elim) hJ

theorem wpIn_scope_jumps {P : Program} {a : Act} {w : World} {Q : Exit → Act → World → Prop} {c rest : Code} (l : Nat) (J : Act → World → Prop) (μ : Act → World → Nat) (hf : findLabel c l = some rest)
    (first : c.wpIn Fence.wide 0 P (Exit.jump l J Q) a w)
    (pass : ∀ a w, J a w → rest.wpIn Fence.wide 0 P (Exit.jump l (fun a' w' => J a' w' ∧ μ a' w' < μ a w) Q) a w) : (Code.scope c).wpIn Fence.wide 0 P Q a w :=
  wpIn_wide.2 (wp_scope_jumps l J μ hf (wpIn_wide.1 first) fun a w h => wpIn_wide.1 (pass a w h))

section
variable {Q : Exit → Act → World → Prop} {J : Act → World → Prop} {a : Act} {w : World} {l : Nat}
@[local go_sem] theorem jump_normal : Exit.jump l J Q .normal a w = Q .normal a w := rfl
@[local go_sem] theorem jump_exit (id : Nat) : Exit.jump l J Q (.exit id) a w = Q (.exit id) a w := rfl
@[local go_sem] theorem jump_ret : Exit.jump l J Q .ret a w = Q .ret a w := rfl
@[local go_sem] theorem jump_panic (ch : List PanicEntry) : Exit.jump l J Q (.panic ch) a w = Q (.panic ch) a w := rfl
@[local go_sem] theorem jump_goto : Exit.jump l J Q (.goto l) a w = J a w := by simp [Exit.jump]
end

theorem marks_call {P : Program} {f : FuncId} {fn : Func} {c : Code} {args : Array Value} {w : World} {R : Ending → World → Prop}
    (hf : P.funcs[f]? = some fn) (hb : fn.body = some c)
    (h : c.wp P (bodyPostM Fence.wide 0 P fn R) { tmps := args ++ Array.replicate (fn.ntmps - args.size) undef, defers := [] } w) : Calls P f args w R :=
  callsIn_wide.1 (callsIn_of_wp_marks hf hb trivial (wpIn_wide.2 h) rfl)

/-- A function that holds such statements returns: its marks are taken up one by one. -/
theorem marks_ret {P : Program} {fn : Func} {R : Ending → World → Prop} (tmps : Array Value) : ∀ (Ds : List Nat) (W : World), Ds.Nodup → (∀ D ∈ Ds, W.heap[D]? = some (.deferred (some []))) →
    (∀ W' : World, W'.os = W.os → W'.tape = W.tape → W'.output = W.output → W'.heap.size = W.heap.size → (∀ p, W'.cell? p = W.cell? p) → (∀ p, W'.frozen? p = W.frozen? p) → (∀ b, b ∉ Ds → W'.heap[b]? = W.heap[b]?) →
      ∃ v, (results fn tmps).run P W' = .ok v W' ∧ R (.returned v) W') →
    LeavesInM Fence.wide 0 P fn tmps R (Ds.map fun D => { target := .collected D, args := #[] }) .returning W
  | [], W, _, _, h => h W rfl rfl rfl rfl (fun _ => rfl) (fun _ => rfl) (fun _ _ => rfl)
  | D :: Ds, W, hn, hk, h => by
    have hD := hk D (by simp)
    rw [List.nodup_cons] at hn
    have hT : Turned D W (W.putObj D (.deferred none)) := turned_putObj hD rfl rfl
    refine ⟨by simp, .inl ⟨D, _, rfl, run_takeDeferred hD, ?_⟩⟩
    refine marks_ret tmps Ds _ hn.2 (fun D' h' => (hT.block D' (fun e => hn.1 (e ▸ h'))).trans (hk D' (by simp [h']))) ?_
    intro W' h1 h2 h3 h4 h5 h6 h7
    refine h W' h1 h2 h3 (h4.trans hT.size) (fun p => (h5 p).trans (hT.cell p)) (fun p => (h6 p).trans (hT.frozen p)) (fun b hb => ?_)
    simp only [List.mem_cons, not_or] at hb
    exact (h7 b hb.2).trans (hT.block b hb.1)

end Go.Proofs.YtcppphgpbaablaaDoor
