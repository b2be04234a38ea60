/-
The logic of walks: ways through code, contracts, calls, the end of a function.
Conditions: none; no program in sight.
-/
import Derived.Test.YtcppphgpbaablaaDoorJo
namespace Go.Proofs.YtcppphgpbaablaaDoor
set_option linter.unusedVariables false
open Go.RowKit

/-- What a mark that a range over a function leaves is. -/
def Res.mark (D : Nat) : Res where
  own := fun g => g = D
  says := fun W => W.heap[D]? = some (.deferred (some []))
  dep := fun W W' h hs => (h D rfl).trans hs
  lt := fun W hs g hg => by subst hg; exact (Array.getElem?_eq_some_iff.1 hs).1

/-- A CONTRACT: what may be written ahead and behind, what is read, what is handed back. -/
def Ct (P : Program) (f : FuncId) (args : List Value) (Rin : List Res) (pre : List Fact) {α : Type} (res : α → Value) (Rout : α → List Res) (post : α → List Fact) : Prop :=
  ∀ X W, (∀ b, X b → b < W.heap.size) → Sep X W Rin → (∀ φ ∈ pre, φ.p (fun b => X b ∨ ownL Rin b) W) →
    Calls P f args.toArray W fun e W' => ∃ x, e = .returned (res x) ∧ Foreign (ownL Rin) W W' ∧ Sep X W' (Rout x) ∧ (∀ b, ownL (Rout x) b → ownL Rin b ∨ W.heap.size ≤ b) ∧ ∀ φ ∈ post x, φ.p (fun b => X b ∨ ownL (Rout x) b) W'

/-- The end of a call. -/
def Fin (C : Cx) {α : Type} (res : α → Value) (Rout : α → List Res) (post : α → List Fact) (e : Ending) (W' : World) : Prop :=
  ∃ x, e = .returned (res x) ∧ Foreign C.M0 C.W0 W' ∧ Sep C.X0 W' (Rout x) ∧ (∀ b, ownL (Rout x) b → C.M0 b ∨ C.W0.heap.size ≤ b) ∧ ∀ φ ∈ post x, φ.p (fun b => C.X0 b ∨ ownL (Rout x) b) W'

def envOf : List Value → Nat → List (Nat × Value)
  | [], _ => []
  | v :: vs, k => (k, v) :: envOf vs (k + 1)

theorem elook_envOf : ∀ (vs : List Value) (k t : Nat) (v : Value), elook t (envOf vs k) = some v → k ≤ t ∧ vs[t - k]? = some v
  | [], _, _, _, h => by simp [envOf, elook] at h
  | u :: vs, k, t, v, h => by
    simp only [envOf, elook] at h
    cases hb : Nat.beq t k with
    | true =>
      rw [hb] at h
      have := Nat.eq_of_beq_eq_true hb
      subst this
      simp at h
      subst h
      exact ⟨Nat.le_refl _, by simp⟩
    | false =>
      rw [hb] at h
      have hne : t ≠ k := fun e => by subst e; simp at hb
      obtain ⟨h1, h2⟩ := elook_envOf vs (k + 1) t v h
      refine ⟨by omega, ?_⟩
      rw [show t - k = (t - (k + 1)) + 1 by omega]
      simpa using h2

theorem Ct.of {P : Program} {f : FuncId} {fn : Func} {c : Code} {args : List Value} {Rin : List Res} {pre : List Fact} {α : Type} {res : α → Value} {Rout : α → List Res} {post : α → List Fact}
    (nt : Nat) (hf : P.funcs[f]? = some fn) (hnt : fn.ntmps = nt) (hb : fn.body = some c) (hn : Nat.ble args.length nt = true)
    (h : ∀ X W, Jc P none ⟨X, ownL Rin, W⟩ (nt, []) (bodyPostM Fence.wide 0 P fn (Fin ⟨X, ownL Rin, W⟩ res Rout post)) c (envOf args 0) Rin pre) : Ct P f args Rin pre res Rout post := fun X W hX hs hp => by
  refine marks_call hf hb (wpIn_wide.1 (h X W _ W ?_ ?_))
  · have hn' := Nat.le_of_ble_eq_true hn
    refine ⟨rfl, by simp [hnt]; omega, fun t v ht => ?_⟩
    obtain ⟨_, h2⟩ := elook_envOf args 0 t v ht
    have hlt := (List.getElem?_eq_some_iff.1 h2).1
    simp only [Nat.sub_zero] at h2 hlt
    rw [Array.getElem?_append_left (by simpa using hlt)]
    simpa using h2
  · exact ⟨Foreign.refl _ _, hs, fun b hb => .inl hb, hX, hp⟩

theorem Ct.calls {P : Program} {f : FuncId} {args : List Value} {pre : List Fact} {α : Type} {res : α → Value} {Rout : α → List Res} {post : α → List Fact} (h : Ct P f args [] pre res Rout post) (W : World)
    (hp : ∀ φ ∈ pre, φ.p (fun _ => False) W) : Calls P f args.toArray W fun e W' => ∃ x, e = .returned (res x) ∧ Below W.heap.size W W' ∧ Sep (fun _ => False) W' (Rout x) ∧ ∀ φ ∈ post x, φ.p (ownL (Rout x)) W' :=
  (h (fun _ => False) W (fun _ h => h.elim) trivial (fun φ hφ => φ.fr _ _ W W (hp φ hφ) (Foreign.refl _ _) (fun b hb => by simp [ownL] at hb))).mono fun e W' ⟨x, h1, h2, h3, _, h4⟩ =>
    ⟨x, h1, ⟨h2.os, h2.tape, h2.output, h2.size, fun b hb => h2.block b hb id⟩, h3, fun φ hφ => φ.fr _ _ W' W' (h4 φ hφ) (Foreign.refl _ _) (fun b hb => .inl (.inr hb))⟩

section rules
variable {P : Program} {r : Option Nat} {C : Cx} {n : Nat × List Nat} {ops : Array Oper} {Q K : Exit → Act → World → Prop} {rest : List Oper} {env : List (Nat × Value)} {R : List Res} {Φ : List Fact}
  {d : Nat} {T T' : TypeId} {pos : String} {af : Array Edge} {x y z : Operand} {u v : Value} {c c' : Code}

theorem Jc.seq (h : Jc P r C n (Exit.then (c'.wpIn (Fz r) 0 P Q) Q) c env R Φ) : Jc P r C n Q (.seq c c') env R Φ := fun a W he hs => wpIn_seq (h a W he hs)
theorem Jc.region {id : Nat} {l : List Oper} (h : Jl P r C n l.toArray Q l env R Φ) : Jc P r C n Q (.region id l.toArray false) env R Φ := fun a W he hs => wpIn_region_lit (h a W he hs)
theorem Jc.block {id : Nat} (h : Jc P r C n (Exit.inBlock id Q) c env R Φ) : Jc P r C n Q (.block id c) env R Φ := fun a W he hs => wpIn_block (h a W he hs)
theorem Jc.skip (h : Jq C n Q .normal env R Φ) : Jc P r C n Q .skip env R Φ := fun a W he hs => wpIn_skip (h a W he hs)
theorem Jc.exit {id : Nat} (h : Jq C n Q (.exit id) env R Φ) : Jc P r C n Q (.exit id) env R Φ := fun a W he hs => wpIn_exit (h a W he hs)
theorem Jc.goto {l : Nat} (h : Jq C n Q (.goto l) env R Φ) : Jc P r C n Q (.goto l) env R Φ := fun a W he hs => wpIn_goto (h a W he hs)
theorem Jc.label {l : Nat} (h : Jq C n Q .normal env R Φ) : Jc P r C n Q (.label l) env R Φ := fun a W he hs => wpIn_label (h a W he hs)
theorem Jc.ret (h : Jq C n Q .ret env R Φ) : Jc P r C n Q .ret env R Φ := fun a W he hs => wpIn_ret (h a W he hs)
theorem Jc.condT (hc : opv env x = some (.bool true)) (h : Jc P r C n Q c env R Φ) : Jc P r C n Q (.cond x c c') env R Φ := fun a W he hs => wpIn_cond_true (he.eval hc) (h a W he hs)
theorem Jc.condF (hc : opv env x = some (.bool false)) (h : Jc P r C n Q c' env R Φ) : Jc P r C n Q (.cond x c c') env R Φ := fun a W he hs => wpIn_cond_false (he.eval hc) (h a W he hs)
theorem Jc.cond {t : Bool} (hc : opv env x = some (.bool t)) (h : t = true → Jc P r C n Q c env R Φ) (h' : t = false → Jc P r C n Q c' env R Φ) : Jc P r C n Q (.cond x c c') env R Φ := fun a W he hs => by
  cases t
  · exact wpIn_cond_false (he.eval hc) (h' rfl a W he hs)
  · exact wpIn_cond_true (he.eval hc) (h rfl a W he hs)

theorem Jq.thenN (h : Jc P r C n Q c env R Φ) : Jq C n (Exit.then (c.wpIn (Fz r) 0 P Q) K) .normal env R Φ := h
theorem Jq.thenR {k : Act → World → Prop} (h : Jq C n Q .ret env R Φ) : Jq C n (Exit.then k Q) .ret env R Φ := h
theorem Jq.thenX {k : Act → World → Prop} {id : Nat} (h : Jq C n Q (.exit id) env R Φ) : Jq C n (Exit.then k Q) (.exit id) env R Φ := h
theorem Jq.thenG {k : Act → World → Prop} {l : Nat} (h : Jq C n Q (.goto l) env R Φ) : Jq C n (Exit.then k Q) (.goto l) env R Φ := h
theorem Jq.blkN {id : Nat} (h : Jq C n Q .normal env R Φ) : Jq C n (Exit.inBlock id Q) .normal env R Φ := h
theorem Jq.blkR {id : Nat} (h : Jq C n Q .ret env R Φ) : Jq C n (Exit.inBlock id Q) .ret env R Φ := h
theorem Jq.blkG {id l : Nat} (h : Jq C n Q (.goto l) env R Φ) : Jq C n (Exit.inBlock id Q) (.goto l) env R Φ := h
theorem Jq.blkX {id : Nat} (h : Jq C n Q .normal env R Φ) : Jq C n (Exit.inBlock id Q) (.exit id) env R Φ := fun a W he hs => by simpa [Exit.inBlock] using h a W he hs
theorem Jq.blkY {id id' : Nat} (hne : Nat.beq id' id = false) (h : Jq C n Q (.exit id') env R Φ) : Jq C n (Exit.inBlock id Q) (.exit id') env R Φ := fun a W he hs => by
  have : id' ≠ id := fun e => by subst e; simp at hne
  simpa [Exit.inBlock, this] using h a W he hs

/-- Every slot of the one is known so in the other. -/
def ESub : List (Nat × Value) → List (Nat × Value) → Prop
  | [], _ => True
  | (t, v) :: l, env => elook t env = some v ∧ ESub l env
theorem ESub.look : ∀ {l env : List (Nat × Value)}, ESub l env → ∀ t v, elook t l = some v → elook t env = some v
  | [], _, _, _, _, h => by simp [elook] at h
  | (d, u) :: l, env, hs, t, v, h => by
    simp only [elook] at h
    cases hb : Nat.beq t d with
    | true =>
      rw [hb] at h
      have := Nat.eq_of_beq_eq_true hb
      subst this
      simp at h
      subst h
      exact hs.1
    | false => rw [hb] at h; exact hs.2.look t v h
theorem Env.sub {env' : List (Nat × Value)} {a : Act} (he : Env n env a) (h : ESub env' env) : Env n env' a := ⟨he.defers, he.size, fun t v ht => he.at_ t v (h.look t v ht)⟩
/-- Every fact of the one is in the other. -/
def FSub : List Fact → List Fact → Prop
  | [], _ => True
  | φ :: l, Φ => Mem φ Φ ∧ FSub l Φ
theorem FSub.mem : ∀ {l Φ : List Fact}, FSub l Φ → ∀ φ ∈ l, φ ∈ Φ
  | [], _, _, _, h => by simp at h
  | x :: l, Φ, hs, φ, h => by
    rcases List.mem_cons.1 h with rfl | h
    · exact hs.1.mem
    · exact hs.2.mem φ h
theorem Sat.sub {Φ' : List Fact} {W : World} (h : Sat C R Φ W) (hf : FSub Φ' Φ) : Sat C R Φ' W := ⟨h.ev, h.sep, h.ours, h.x0, fun φ hφ => h.facts φ (hf.mem φ hφ)⟩

/-- Less is known. -/
theorem Jc.less {env' : List (Nat × Value)} {Φ' : List Fact} (he : ESub env' env) (hf : FSub Φ' Φ) (k : Jc P r C n Q c env' R Φ') : Jc P r C n Q c env R Φ := fun a W h1 h2 => k a W (h1.sub he) (h2.sub hf)
theorem Jl.less {env' : List (Nat × Value)} {Φ' : List Fact} (he : ESub env' env) (hf : FSub Φ' Φ) (k : Jl P r C n ops Q rest env' R Φ') : Jl P r C n ops Q rest env R Φ := fun a W h1 h2 => k a W (h1.sub he) (h2.sub hf)

/-- A fact that follows from another. -/
theorem Jc.fact {φ : Fact} (φ' : Fact) (hm : Mem φ Φ) (h : ∀ X W, φ.p X W → φ'.p X W) (k : Jc P r C n Q c env R (φ' :: Φ)) : Jc P r C n Q c env R Φ := fun a W h1 h2 => k a W h1 (h2.add (h _ _ (h2.fact hm)))
theorem Jl.fact {φ : Fact} (φ' : Fact) (hm : Mem φ Φ) (h : ∀ X W, φ.p X W → φ'.p X W) (k : Jl P r C n ops Q rest env R (φ' :: Φ)) : Jl P r C n ops Q rest env R Φ := fun a W h1 h2 => k a W h1 (h2.add (h _ _ (h2.fact hm)))
theorem Jl.fact0 (φ' : Fact) (h : ∀ X W, φ'.p X W) (k : Jl P r C n ops Q rest env R (φ' :: Φ)) : Jl P r C n ops Q rest env R Φ := fun a W h1 h2 => k a W h1 (h2.add (h _ _))
theorem Jc.fact0 (φ' : Fact) (h : ∀ X W, φ'.p X W) (k : Jc P r C n Q c env R (φ' :: Φ)) : Jc P r C n Q c env R Φ := fun a W h1 h2 => k a W h1 (h2.add (h _ _))
theorem Jl.pure {φ : Fact} {p : Prop} (hm : Mem φ Φ) (h : ∀ X W, φ.p X W → p) (k : p → Jl P r C n ops Q rest env R Φ) : Jl P r C n ops Q rest env R Φ := fun a W h1 h2 => k (h _ _ (h2.fact hm)) a W h1 h2
theorem Jc.pure {φ : Fact} {p : Prop} (hm : Mem φ Φ) (h : ∀ X W, φ.p X W → p) (k : p → Jc P r C n Q c env R Φ) : Jc P r C n Q c env R Φ := fun a W h1 h2 => k (h _ _ (h2.fact hm)) a W h1 h2
theorem Jc.pureR {p : Prop} (h : ∀ W, Sep C.X0 W R → p) (k : p → Jc P r C n Q c env R Φ) : Jc P r C n Q c env R Φ := fun a W h1 h2 => k (h _ h2.sep) a W h1 h2
theorem Jl.pureR {p : Prop} (h : ∀ W, Sep C.X0 W R → p) (k : p → Jl P r C n ops Q rest env R Φ) : Jl P r C n ops Q rest env R Φ := fun a W h1 h2 => k (h _ h2.sep) a W h1 h2
theorem Jc.conv {env' : List (Nat × Value)} (h : env = env') (k : Jc P r C n Q c env' R Φ) : Jc P r C n Q c env R Φ := by subst h; exact k

/-- A loop. -/
theorem Jc.loop {σ : Type} (E : σ → List (Nat × Value)) (Rs : σ → List Res) (Φs : σ → List Fact) (μ : σ → Nat) (s0 : σ) (he : ESub (E s0) env) (hr : Rs s0 = R) (hf : FSub (Φs s0) Φ)
    (round : ∀ s, Jc P r C n (Exit.then (fun a W => ∃ s', μ s' < μ s ∧ Env n (E s') a ∧ Sat C (Rs s') (Φs s') W) Q) c (E s) (Rs s) (Φs s)) : Jc P r C n Q (.loop c) env R Φ := fun a W h1 h2 => by
  have key : ∀ m s a W, μ s < m → Env n (E s) a → Sat C (Rs s) (Φs s) W → Code.roundsIn (Fz r) 0 P c Q m a W := by
    intro m
    induction m with
    | zero => intro s a W h; omega
    | succ m ih =>
      intro s a W hlt h1 h2
      rw [roundsIn_succ]
      refine wpIn_mono (round s a W h1 h2) fun e a' W' hq => ?_
      cases e with
      | normal =>
        obtain ⟨s', hlt', h3, h4⟩ := hq
        exact ih s' a' W' (by omega) h3 h4
      | exit id => exact hq
      | goto l => exact hq
      | ret => exact hq
      | panic ch => exact hq
      | outgrown => exact hq
  subst hr
  exact wpIn_loop_rounds (μ s0 + 1) (key _ s0 a W (Nat.lt_succ_self _) (h1.sub he) (h2.sub hf))
/-- A round's end. -/
theorem Jq.again {σ : Type} {E : σ → List (Nat × Value)} {Rs : σ → List Res} {Φs : σ → List Fact} {μ : σ → Nat} {s : σ} (s' : σ) (hμ : μ s' < μ s) (he : ESub (E s') env) (hr : Rs s' = R) (hf : FSub (Φs s') Φ) :
    Jq C n (Exit.then (fun a W => ∃ s', μ s' < μ s ∧ Env n (E s') a ∧ Sat C (Rs s') (Φs s') W) Q) .normal env R Φ := fun a W h1 h2 => by
  subst hr
  exact ⟨s', hμ, h1.sub he, h2.sub hf⟩
end rules
end Go.Proofs.YtcppphgpbaablaaDoor
