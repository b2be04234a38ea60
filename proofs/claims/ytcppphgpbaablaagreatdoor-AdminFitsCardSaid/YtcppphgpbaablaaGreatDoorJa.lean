/-
A logic of walks: what is known of the slots, of the blocks that a call may write, and of the memory that it only reads, is one state; a rule for each kind of operation.
Conditions: none; no program in sight.
-/
import Derived.Test.YtcppphgpbaablaaGreatDoorRange
import Derived.Laws.Rows
import Derived.Laws.Tables
import Derived.Laws.CopyRow
import Derived.Laws.Cells
namespace Go.Proofs.YtcppphgpbaablaaGreatDoor
set_option linter.unusedVariables false
open Go.RowKit

/-- Outside every round, or in one. -/
abbrev Fz (r : Option Nat) : Fence := { Fence.wide with round := r }

/-- Something that a call may write: its blocks, and what is known of them. -/
structure Res where
  own : Nat → Prop
  says : World → Prop
  dep : ∀ W W' : World, (∀ b, own b → W'.heap[b]? = W.heap[b]?) → says W → says W'
  lt : ∀ W : World, says W → ∀ b, own b → b < W.heap.size

def Res.blk (b : Nat) (T : TypeId) (cs : List Value) : Res where
  own := fun g => g = b
  says := fun W => W.heap[b]? = some (.cells cs.toArray T (0, 0))
  dep := fun W W' h hs => (h b rfl).trans hs
  lt := fun W hs g hg => by subst hg; exact (Array.getElem?_eq_some_iff.1 hs).1

def Res.row (e : TypeId) (size : Nat) (v : Value) (n : Nat) (xs : List Value) : Res where
  own := fun g => v.ownBlock = some g
  says := fun W => W.ownsRow 0 e size v n xs
  dep := fun W W' h hs => own_keep hs fun g hg => h g hg
  lt := fun W hs g hg => (hs.lt g hg).2

/-- Something that is only read: known beside the blocks X that may be written. -/
structure Fact where
  p : (Nat → Prop) → World → Prop
  fr : Fr p

def ownL : List Res → Nat → Prop
  | [], _ => False
  | r :: R, b => r.own b ∨ ownL R b

def Sep (X : Nat → Prop) (W : World) : List Res → Prop
  | [] => True
  | r :: R => r.says W ∧ (∀ b, r.own b → ¬ X b ∧ ¬ ownL R b) ∧ Sep X W R

/-- Where the call began. -/
structure Cx where
  X0 : Nat → Prop
  M0 : Nat → Prop
  W0 : World

structure Sat (C : Cx) (R : List Res) (Φ : List Fact) (W : World) : Prop where
  ev : Foreign C.M0 C.W0 W
  sep : Sep C.X0 W R
  ours : ∀ b, ownL R b → C.M0 b ∨ C.W0.heap.size ≤ b
  x0 : ∀ b, C.X0 b → b < W.heap.size
  facts : ∀ φ ∈ Φ, φ.p (fun b => C.X0 b ∨ ownL R b) W

def elook : Nat → List (Nat × Value) → Option Value
  | _, [] => none
  | t, (d, v) :: l => match Nat.beq t d with
    | true => some v
    | false => elook t l

/-- What is known of the slots; n: how many there are, and the marks that ranges over functions have left. -/
structure Env (n : Nat × List Nat) (env : List (Nat × Value)) (a : Act) : Prop where
  defers : a.defers = n.2.map fun D => { target := .collected D, args := #[] }
  size : a.tmps.size = n.1
  at_ : ∀ t v, elook t env = some v → a.tmps[t]? = some v

def opv (env : List (Nat × Value)) : Operand → Option Value
  | .tmp t => elook t env
  | .const v => some v
  | .global g => some (.pointer (some ⟨g, 0, none⟩))
  | .func f => some (.func (.func f) #[] #[])

theorem Env.eval {n : Nat × List Nat} {env : List (Nat × Value)} {a : Act} (h : Env n env a) {x : Operand} {v : Value} (hx : opv env x = some v) : a.eval x = v := by
  cases x with
  | tmp t =>
    have := h.at_ t v hx
    simp [Act.eval, Array.getD_eq_getD_getElem?, this]
  | const u => simpa [opv, Act.eval] using hx
  | global g => simpa [opv, Act.eval] using hx
  | func f => simpa [opv, Act.eval] using hx

theorem Env.put {n : Nat × List Nat} {env : List (Nat × Value)} {a : Act} (h : Env n env a) {d : Nat} (hd : d < n.1) (v : Value) : Env n ((d, v) :: env) (a.put (some d) v) := by
  refine ⟨h.defers, by simp [Act.put, h.size], fun t u hu => ?_⟩
  simp only [elook] at hu
  cases hb : Nat.beq t d with
  | true =>
    rw [hb] at hu
    have : t = d := Nat.eq_of_beq_eq_true hb
    subst this
    simp at hu
    subst hu
    exact put_at' a t v (by rw [h.size]; exact hd)
  | false =>
    rw [hb] at hu
    have hne : t ≠ d := fun e => by subst e; simp at hb
    have := h.at_ t u hu
    simpa [Act.put, Array.getElem?_setIfInBounds_ne (Ne.symm hne)] using this
where put_at' (a : Act) (d : Tmp) (v : Value) (hd : d < a.tmps.size) : (a.put (some d) v).tmps[d]? = some v := by simp [Act.put, hd]

theorem Env.skip {n : Nat × List Nat} {env : List (Nat × Value)} {a : Act} (h : Env n env a) (v : Value) : Env n env (a.put none v) := h

/-- The judgements. -/
def Jl (P : Program) (r : Option Nat) (C : Cx) (n : Nat × List Nat) (ops : Array Oper) (Q : Exit → Act → World → Prop) (l : List Oper) (env : List (Nat × Value)) (R : List Res) (Φ : List Fact) : Prop :=
  ∀ a W, Env n env a → Sat C R Φ W → wpListIn (Fz r) 0 P ops Q l a W
def Jc (P : Program) (r : Option Nat) (C : Cx) (n : Nat × List Nat) (Q : Exit → Act → World → Prop) (c : Code) (env : List (Nat × Value)) (R : List Res) (Φ : List Fact) : Prop :=
  ∀ a W, Env n env a → Sat C R Φ W → c.wpIn (Fz r) 0 P Q a W
def Jq (C : Cx) (n : Nat × List Nat) (Q : Exit → Act → World → Prop) (e : Exit) (env : List (Nat × Value)) (R : List Res) (Φ : List Fact) : Prop :=
  ∀ a W, Env n env a → Sat C R Φ W → Q e a W

theorem fz_about (P : Program) (r : Option Nat) (o : Oper) (a : Act) (W : World) : ∀ f, o.about P W a.eval = some f → (Fz r).fn f := fun _ _ => trivial

theorem sem_plain (r : Option Nat) (ρ : Operand → Value) (o : Oper) (h : ∀ c, o.op ≠ .defer c) : o.semAt (Fz r).round ρ = execOp ρ o := Oper.semAt_plain (Fz r) ρ o h

/-- What X stands for behind a step. -/
theorem ownL_mem {R : List Res} {b : Nat} : ownL R b ↔ ∃ r ∈ R, r.own b := by
  induction R with
  | nil => simp [ownL]
  | cons r R ih => simp [ownL, ih]

theorem Sep.lt {X : Nat → Prop} {W : World} : ∀ {R : List Res}, Sep X W R → ∀ b, ownL R b → b < W.heap.size
  | [], _, _, h => h.elim
  | r :: R, hs, b, h => h.elim (r.lt W hs.1 b) (Sep.lt hs.2.2 b)
theorem Sep.notX {X : Nat → Prop} {W : World} : ∀ {R : List Res}, Sep X W R → ∀ b, ownL R b → ¬ X b
  | [], _, _, h => h.elim
  | r :: R, hs, b, h => h.elim (fun h => (hs.2.1 b h).1) (Sep.notX hs.2.2 b)
theorem Sep.keep {X : Nat → Prop} {W W' : World} : ∀ {R : List Res}, Sep X W R → (∀ b, ownL R b → W'.heap[b]? = W.heap[b]?) → Sep X W' R
  | [], _, _ => trivial
  | r :: R, hs, h => ⟨r.dep W W' (fun b hb => h b (.inl hb)) hs.1, hs.2.1, Sep.keep hs.2.2 fun b hb => h b (.inr hb)⟩

/-- A step: of the blocks that may be written, some turn; others come. -/
theorem Sat.step {C : Cx} {R R' : List Res} {Φ : List Fact} {W W' : World} (h : Sat C R Φ W) (hf : Foreign (ownL R) W W') (hs : Sep C.X0 W' R')
    (hR : ∀ b, ownL R' b → ownL R b ∨ W.heap.size ≤ b) : Sat C R' Φ W' := by
  refine ⟨⟨hf.os.trans h.ev.os, hf.tape.trans h.ev.tape, hf.output.trans h.ev.output, Nat.le_trans h.ev.size hf.size, fun b hb hm => ?_⟩, hs, fun b hb => ?_, fun b hb => Nat.lt_of_lt_of_le (h.x0 b hb) hf.size, fun φ hφ => ?_⟩
  · refine (hf.block b (Nat.lt_of_lt_of_le hb h.ev.size) fun hb' => ?_).trans (h.ev.block b hb hm)
    rcases h.ours b hb' with h1 | h1
    · exact hm h1
    · omega
  · rcases hR b hb with h1 | h1
    · exact h.ours b h1
    · exact .inr (Nat.le_trans h.ev.size h1)
  · refine φ.fr _ _ W W' (h.facts φ hφ) ⟨hf.os, hf.tape, hf.output, hf.size, fun b hb hx => hf.block b hb fun h1 => hx (.inr h1)⟩ fun b hb => ?_
    rcases hb with hb | hb
    · exact .inl (.inl hb)
    · rcases hR b hb with h1 | h1
      · exact .inl (.inr h1)
      · exact .inr ⟨h1, hs.lt b hb⟩

theorem Sat.size {C : Cx} {R : List Res} {Φ : List Fact} {W : World} (h : Sat C R Φ W) : C.W0.heap.size ≤ W.heap.size := h.ev.size
theorem Sat.x0lt {C : Cx} {R : List Res} {Φ : List Fact} {W : World} (h : Sat C R Φ W) : ∀ b, C.X0 b → b < W.heap.size := h.x0

/-- Nothing but growth. -/
theorem Sat.grow {C : Cx} {R : List Res} {Φ : List Fact} {W W' : World} (h : Sat C R Φ W) (hf : Foreign (fun _ => False) W W') : Sat C R Φ W' :=
  h.step ⟨hf.os, hf.tape, hf.output, hf.size, fun b hb _ => hf.block b hb id⟩ (h.sep.keep fun b hb => hf.block b (h.sep.lt b hb) id) fun b hb => .inl hb

/-- A new block. -/
theorem Sat.new {C : Cx} {R : List Res} {Φ : List Fact} {W : World} (h : Sat C R Φ W) (cs : List Value) (T : TypeId) :
    Sat C (.blk W.heap.size T cs :: R) Φ (W.alloc (.cells cs.toArray T)) := by
  refine h.step (W' := W.alloc (.cells cs.toArray T)) ((Foreign.alloc _ W _)) ⟨World.alloc_heap_new W _, fun b hb => ?_, (h.sep.keep fun b hb => Below.heap_alloc W _ b (h.sep.lt b hb))⟩ fun b hb => ?_
  · subst hb
    exact ⟨fun hx => absurd (h.x0lt _ hx) (Nat.lt_irrefl _), fun hx => absurd (h.sep.lt _ hx) (Nat.lt_irrefl _)⟩
  · rcases hb with hb | hb
    · exact .inr (Nat.le_of_eq hb.symm)
    · exact .inl hb

/-- A block is among those that may be written. -/
def Has (b : Nat) (T : TypeId) (cs : List Value) : List Res → Prop
  | [] => False
  | r :: R => r = .blk b T cs ∨ Has b T cs R
theorem Has.here {b : Nat} {T : TypeId} {cs : List Value} {R : List Res} : Has b T cs (.blk b T cs :: R) := .inl rfl
theorem Has.there {b : Nat} {T : TypeId} {cs : List Value} {r : Res} {R : List Res} (h : Has b T cs R) : Has b T cs (r :: R) := .inr h

theorem Has.says {b : Nat} {T : TypeId} {cs : List Value} {R : List Res} (h : Has b T cs R) {X : Nat → Prop} {W : World} (hs : Sep X W R) : W.heap[b]? = some (.cells cs.toArray T (0, 0)) := by
  induction R with
  | nil => exact h.elim
  | cons r R ih =>
    rcases h with rfl | h
    · exact hs.1
    · exact ih h hs.2.2
theorem Has.own {b : Nat} {T : TypeId} {cs : List Value} {R : List Res} (h : Has b T cs R) : ownL R b := by
  induction R with
  | nil => exact h.elim
  | cons r R ih =>
    rcases h with rfl | h
    · exact .inl rfl
    · exact .inr (ih h)

/-- The resource r turns to r'; the others stay. -/
def Swap (r r' : Res) : List Res → List Res → Prop
  | x :: R, y :: R' => (x = r ∧ y = r' ∧ R = R') ∨ (x = y ∧ Swap r r' R R')
  | _, _ => False
theorem Swap.here {r r' : Res} {R : List Res} : Swap r r' (r :: R) (r' :: R) := .inl ⟨rfl, rfl, rfl⟩
theorem Swap.there {r r' x : Res} {R R' : List Res} (h : Swap r r' R R') : Swap r r' (x :: R) (x :: R') := .inr ⟨rfl, h⟩
theorem Swap.rec_ {r r' : Res} {p : List Res → List Res → Prop} (h1 : ∀ R, p (r :: R) (r' :: R)) (h2 : ∀ x R R', Swap r r' R R' → p R R' → p (x :: R) (x :: R')) : ∀ {R R' : List Res}, Swap r r' R R' → p R R'
  | x :: R, y :: R', h => by
    rcases h with ⟨rfl, rfl, rfl⟩ | ⟨rfl, h⟩
    · exact h1 _
    · exact h2 _ _ _ h (Swap.rec_ h1 h2 h)

theorem Swap.old {r r' : Res} {R R' : List Res} (h : Swap r r' R R') {X : Nat → Prop} {W : World} (hs : Sep X W R) : r.says W := by
  revert hs
  refine Swap.rec_ (p := fun R _ => Sep X W R → r.says W) (fun R hs => hs.1) (fun x R R' _ ih hs => ih hs.2.2) h
theorem Swap.own {r r' : Res} {R R' : List Res} (h : Swap r r' R R') {b : Nat} (hb : r.own b) : ownL R b :=
  Swap.rec_ (p := fun R _ => ownL R b) (fun R => .inl hb) (fun x R R' _ ih => .inr ih) h
theorem Swap.own' {r r' : Res} {R R' : List Res} (h : Swap r r' R R') {b : Nat} (hb : ownL R' b) : r'.own b ∨ ownL R b := by
  revert hb
  refine Swap.rec_ (p := fun R R' => ownL R' b → r'.own b ∨ ownL R b) (fun R hb => hb.imp id .inr) (fun x R R' _ ih hb => ?_) h
  rcases hb with hb | hb
  · exact .inr (.inl hb)
  · exact (ih hb).imp id .inr

theorem Swap.sep {r r' : Res} {R R' : List Res} (h : Swap r r' R R') {X : Nat → Prop} {W W' : World} (hs : Sep X W R) (hX : ∀ b, X b → b < W.heap.size) (hr : r'.says W') (hn : ∀ b, r'.own b → r.own b ∨ W.heap.size ≤ b)
    (hk : ∀ b, ownL R b → ¬ r.own b → W'.heap[b]? = W.heap[b]?) : Sep X W' R' := by
  revert hs hk
  refine Swap.rec_ (p := fun R R' => Sep X W R → (∀ b, ownL R b → ¬ r.own b → W'.heap[b]? = W.heap[b]?) → Sep X W' R') ?_ ?_ h
  · intro R hs hk
    refine ⟨hr, fun b hb => ?_, hs.2.2.keep fun b hb => hk b (.inr hb) fun h1 => (hs.2.1 b h1).2 hb⟩
    rcases hn b hb with h1 | h1
    · exact hs.2.1 b h1
    · exact ⟨fun hx => by have := hX b hx; omega, fun hx => by have := hs.2.2.lt b hx; omega⟩
  · intro x R R' h0 ih hs hk
    refine ⟨x.dep W W' (fun b hb => hk b (.inl hb) fun h1 => (hs.2.1 b hb).2 (h0.own h1)) hs.1, fun b hb => ⟨(hs.2.1 b hb).1, fun h1 => ?_⟩, ih hs.2.2 (fun b hb h1 => hk b (.inr hb) h1)⟩
    rcases h0.own' h1 with h2 | h2
    · rcases hn b h2 with h3 | h3
      · exact (hs.2.1 b hb).2 (h0.own h3)
      · have := x.lt W hs.1 b hb; omega
    · exact (hs.2.1 b hb).2 h2

theorem Sat.swap {C : Cx} {R R' : List Res} {Φ : List Fact} {W W' : World} {r r' : Res} (h : Sat C R Φ W) (hw : Swap r r' R R') (hf : Foreign r.own W W') (hr : r'.says W')
    (hn : ∀ b, r'.own b → r.own b ∨ W.heap.size ≤ b) : Sat C R' Φ W' :=
  h.step ⟨hf.os, hf.tape, hf.output, hf.size, fun b hb hx => hf.block b hb fun h1 => hx (hw.own h1)⟩ (hw.sep h.sep h.x0lt hr hn fun b hb h1 => hf.block b (h.sep.lt b hb) h1) fun b hb => by
    rcases hw.own' hb with h1 | h1
    · rcases hn b h1 with h2 | h2
      · exact .inl (hw.own h2)
      · exact .inr h2
    · exact .inl h1

/-- Facts that are known. -/
def Mem (φ : Fact) : List Fact → Prop
  | [] => False
  | x :: Φ => x = φ ∨ Mem φ Φ
theorem Mem.here {φ : Fact} {Φ : List Fact} : Mem φ (φ :: Φ) := .inl rfl
theorem Mem.there {φ x : Fact} {Φ : List Fact} (h : Mem φ Φ) : Mem φ (x :: Φ) := .inr h
theorem Mem.mem {φ : Fact} {Φ : List Fact} (h : Mem φ Φ) : φ ∈ Φ := by
  induction Φ with
  | nil => exact h.elim
  | cons x Φ ih =>
    rcases h with rfl | h
    · exact List.mem_cons_self ..
    · exact List.mem_cons_of_mem _ (ih h)
theorem Sat.fact {C : Cx} {R : List Res} {Φ : List Fact} {W : World} (h : Sat C R Φ W) {φ : Fact} (hm : Mem φ Φ) : φ.p (fun b => C.X0 b ∨ ownL R b) W := h.facts φ hm.mem
theorem Sat.add {C : Cx} {R : List Res} {Φ : List Fact} {W : World} (h : Sat C R Φ W) {φ : Fact} (hp : φ.p (fun b => C.X0 b ∨ ownL R b) W) : Sat C R (φ :: Φ) W :=
  ⟨h.ev, h.sep, h.ours, h.x0, fun x hx => by
    rcases List.mem_cons.1 hx with rfl | hx
    · exact hp
    · exact h.facts x hx⟩

/-- A slice's cells, that are only read. -/
def Fact.rd (A : Option Addr) (xs : List Value) : Fact where
  p := fun X W => ∀ j u, xs[j]? = some u → ∃ a, A = some a ∧ a.block < W.heap.size ∧ ¬ X a.block ∧ W.cell? (a.add j) = some u
  fr := fun X X' W W' h hf hx j u hu => by
    obtain ⟨a, rfl, h1, h2, h3⟩ := h j u hu
    refine ⟨a, rfl, Nat.lt_of_lt_of_le h1 hf.size, fun h4 => (hx _ h4).elim h2 (fun h5 => by omega), ?_⟩
    rw [← h3]
    exact World.cell?_of_block (by rw [add_block]; exact hf.block _ h1 h2)
/-- Something that is so, whatever the world. -/
def Fact.is (c : Prop) : Fact := ⟨fun _ _ => c, Fr.pure c⟩

section rules
variable {P : Program} {r : Option Nat} {C : Cx} {n : Nat × List Nat} {ops : Array Oper} {Q : Exit → Act → World → Prop} {rest : List Oper} {env : List (Nat × Value)} {R : List Res} {Φ : List Fact}

theorem Jl.nil (h : Jq C n Q .normal env R Φ) : Jl P r C n ops Q [] env R Φ := h

theorem oper_plain {o : Oper} {K : Act → World → Prop} {a : Act} {W : World} (hnd : ∀ c, o.op ≠ .defer c) (h : o.uponIn (Fz r) 0 P a K Q ((execOp a.eval o).run P W)) : o.wpIn (Fz r) 0 P a W K Q :=
  ⟨fz_about P r o a W, by rw [sem_plain r _ o hnd]; exact h⟩

/-- An operation that yields a value and leaves the world alone. -/
theorem Jl.val {d : Nat} {op : Op} {T : TypeId} {pos : String} {af : Array Edge} {v : Value} (hd : Nat.blt d n.1 = true) (hnd : ∀ c, op ≠ .defer c)
    (hrun : ∀ a W, Env n env a → Sat C R Φ W → (execOp a.eval ⟨some d, op, T, pos, af, none⟩).run P W = .ok (.value v) W)
    (k : Jl P r C n ops Q rest ((d, v) :: env) R Φ) : Jl P r C n ops Q (⟨some d, op, T, pos, af, none⟩ :: rest) env R Φ := fun a W he hs =>
  wpListIn_plain rfl fun K hK => oper_plain hnd (by rw [hrun a W he hs]; exact hK _ _ (k _ W (he.put (Nat.le_of_ble_eq_true hd) v) hs))

/-- An operation yields the value v and leaves the world alone. -/
def PR (P : Program) (C : Cx) (n : Nat × List Nat) (env : List (Nat × Value)) (R : List Res) (Φ : List Fact) (op : Op) (T : TypeId) (v : Value) : Prop :=
  ∀ a W, Env n env a → Sat C R Φ W → ∀ d pos af g, (execOp a.eval ⟨d, op, T, pos, af, g⟩).run P W = .ok (.value v) W
theorem defer_run {P : Program} {W : World} {a : Act} {d : Option Tmp} {c : Call} {T : TypeId} {pos : String} {af : Array Edge} {g : Option (Nat × Bool)} {v : Value} (h : (execOp a.eval ⟨d, .defer c, T, pos, af, g⟩).run P W = .ok (.value v) W) : False := by
  simp only [execOp, Sem.run_bind] at h
  cases hr : (resolve a.eval c T).run P W with
  | ok x w => rw [hr] at h; simp at h
  | halt x w => rw [hr] at h; simp [Result.andThen] at h
theorem Jl.pv {d : Nat} {op : Op} {T : TypeId} {pos : String} {af : Array Edge} {v : Value} (h : PR P C n env R Φ op T v) (k : Jl P r C n ops Q rest ((d, v) :: env) R Φ) (hd : Nat.blt d n.1 = true := by rfl) :
    Jl P r C n ops Q (⟨some d, op, T, pos, af, none⟩ :: rest) env R Φ := fun a W he hs => by
  have hrun := h a W he hs (some d) pos af none
  have hnd : ∀ c, op ≠ .defer c := fun c e => by subst e; exact defer_run hrun
  exact wpListIn_plain rfl fun K hK => oper_plain hnd (by rw [hrun]; exact hK _ _ (k _ W (he.put (Nat.le_of_ble_eq_true hd) v) hs))

/-- An operation that yields a value in a world that has grown. -/
theorem Jl.valx {d : Nat} {op : Op} {T : TypeId} {pos : String} {af : Array Edge} (hd : Nat.blt d n.1 = true) (hnd : ∀ c, op ≠ .defer c)
    (hrun : ∀ a W, Env n env a → Sat C R Φ W → ∃ v W' R' Φ', (execOp a.eval ⟨some d, op, T, pos, af, none⟩).run P W = .ok (.value v) W' ∧ Sat C R' Φ' W' ∧ Jl P r C n ops Q rest ((d, v) :: env) R' Φ') :
    Jl P r C n ops Q (⟨some d, op, T, pos, af, none⟩ :: rest) env R Φ := fun a W he hs => by
  obtain ⟨v, W', R', Φ', h1, h2, h3⟩ := hrun a W he hs
  exact wpListIn_plain rfl fun K hK => oper_plain hnd (by rw [h1]; exact hK _ _ (h3 _ W' (he.put (Nat.le_of_ble_eq_true hd) v) h2))

/-- An operation without a result. -/
theorem Jl.act {op : Op} {T : TypeId} {pos : String} {af : Array Edge} (hnd : ∀ c, op ≠ .defer c)
    (hrun : ∀ a W, Env n env a → Sat C R Φ W → ∃ W' R' Φ', (execOp a.eval ⟨none, op, T, pos, af, none⟩).run P W = .ok .skip W' ∧ Sat C R' Φ' W' ∧ Jl P r C n ops Q rest env R' Φ') :
    Jl P r C n ops Q (⟨none, op, T, pos, af, none⟩ :: rest) env R Φ := fun a W he hs => by
  obtain ⟨W', R', Φ', h1, h2, h3⟩ := hrun a W he hs
  exact wpListIn_plain rfl fun K hK => oper_plain hnd (by rw [h1]; exact hK _ _ (h3 _ W' (he.skip _) h2))

/-- A guard that says yes. -/
theorem Jl.on {d : Option Nat} {op : Op} {T : TypeId} {pos : String} {af : Array Edge} {j : Nat} {want : Bool} {t : Nat} (hj : (ops[j]?).bind (·.dst) = some t) (ht : elook t env = some (.bool want))
    (k : Jl P r C n ops Q (⟨d, op, T, pos, af, none⟩ :: rest) env R Φ) : Jl P r C n ops Q (⟨d, op, T, pos, af, some (j, want)⟩ :: rest) env R Φ := fun a W he hs => by
  have h := k a W he hs
  have hy : yielded ops a.tmps j = some want := by
    unfold yielded
    have := he.at_ t _ ht
    simp [hj, this]
  unfold wpListIn at h ⊢
  rw [if_pos (by rfl)] at h
  rw [if_pos (by simp [Region.wanted, hy])]
  exact h
/-- A guard that says no. -/
theorem Jl.off {d : Option Nat} {op : Op} {T : TypeId} {pos : String} {af : Array Edge} {j : Nat} {want b : Bool} {t : Nat} (hj : (ops[j]?).bind (·.dst) = some t) (ht : elook t env = some (.bool b)) (hb : b = !want)
    (hd : (match d with | some x => Nat.blt x n.1 | none => true) = true) (k : Jl P r C n ops Q rest (match d with | some x => (x, undef) :: env | none => env) R Φ) : Jl P r C n ops Q (⟨d, op, T, pos, af, some (j, want)⟩ :: rest) env R Φ := fun a W he hs => by
  have hy : yielded ops a.tmps j = some b := by
    unfold yielded
    have := he.at_ t _ ht
    simp [hj, this]
  unfold wpListIn
  rw [if_neg (by simp [Region.wanted, hy, hb])]
  refine ⟨fz_about P r _ a W, ?_⟩
  cases d with
  | none => exact k _ W he hs
  | some x => exact k _ W (he.put (Nat.le_of_ble_eq_true hd) _) hs

/-- A guard that was not asked. -/
theorem Jl.offU {d : Option Nat} {op : Op} {T : TypeId} {pos : String} {af : Array Edge} {j : Nat} {want : Bool} {t : Nat} (hj : (ops[j]?).bind (·.dst) = some t) (ht : elook t env = some undef)
    (hd : (match d with | some x => Nat.blt x n.1 | none => true) = true) (k : Jl P r C n ops Q rest (match d with | some x => (x, undef) :: env | none => env) R Φ) : Jl P r C n ops Q (⟨d, op, T, pos, af, some (j, want)⟩ :: rest) env R Φ := fun a W he hs => by
  have hy : yielded ops a.tmps j = none := by
    unfold yielded
    have := he.at_ t _ ht
    simp [hj, this, undef]
  unfold wpListIn
  rw [if_neg (by simp [Region.wanted, hy])]
  refine ⟨fz_about P r _ a W, ?_⟩
  cases d with
  | none => exact k _ W he hs
  | some x => exact k _ W (he.put (Nat.le_of_ble_eq_true hd) _) hs

/-- What a slot holds, said in other words. -/
theorem Jl.as {d : Nat} {v : Value} (v' : Value) (h : v = v') (k : Jl P r C n ops Q rest ((d, v') :: env) R Φ) : Jl P r C n ops Q rest ((d, v) :: env) R Φ := by subst h; exact k
theorem Jl.weak {env' : List (Nat × Value)} (k : Jl P r C n ops Q rest env' R Φ) (h : ∀ t v, elook t env' = some v → elook t env = some v) : Jl P r C n ops Q rest env R Φ := fun a W he hs =>
  k a W ⟨he.defers, he.size, fun t v ht => he.at_ t v (h t v ht)⟩ hs
/-- The same, of an operation that yields something. -/
theorem Jl.offS {d : Nat} {op : Op} {T : TypeId} {pos : String} {af : Array Edge} {j : Nat} {want b : Bool} {t : Nat} (hj : (ops[j]?).bind (·.dst) = some t) (ht : elook t env = some (.bool b)) (hb : b = !want)
    (k : Jl P r C n ops Q rest ((d, undef) :: env) R Φ) (hd : Nat.blt d n.1 = true := by rfl) : Jl P r C n ops Q (⟨some d, op, T, pos, af, some (j, want)⟩ :: rest) env R Φ := Jl.off hj ht hb hd k
theorem Jl.offUS {d : Nat} {op : Op} {T : TypeId} {pos : String} {af : Array Edge} {j : Nat} {want : Bool} {t : Nat} (hj : (ops[j]?).bind (·.dst) = some t) (ht : elook t env = some undef)
    (k : Jl P r C n ops Q rest ((d, undef) :: env) R Φ) (hd : Nat.blt d n.1 = true := by rfl) : Jl P r C n ops Q (⟨some d, op, T, pos, af, some (j, want)⟩ :: rest) env R Φ := Jl.offU hj ht hd k
end rules
end Go.Proofs.YtcppphgpbaablaaGreatDoor
