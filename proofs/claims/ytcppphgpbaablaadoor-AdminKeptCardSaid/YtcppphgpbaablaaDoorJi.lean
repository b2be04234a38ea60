/-
The logic of walks: iterators.
Conditions: none; no program in sight.
-/
import Derived.Test.YtcppphgpbaablaaDoorJr
namespace Go.Proofs.YtcppphgpbaablaaDoor
set_option linter.unusedVariables false
open Go.RowKit

/-- A fact that hangs on old blocks beside X alone. -/
def Fact.Old (φ : Fact) : Prop := ∀ X X' W W', φ.p X W → W.heap.size ≤ W'.heap.size → (∀ b, b < W.heap.size → ¬ X b → W'.heap[b]? = W.heap[b]?) → (∀ b, X' b → X b ∨ (W.heap.size ≤ b ∧ b < W'.heap.size)) → φ.p X' W'
theorem Fact.rd_old (A : Option Addr) (xs : List Value) : (Fact.rd A xs).Old := fun X X' W W' h hz hf hx j u hu => by
  obtain ⟨a, rfl, h1, h2, h3⟩ := h j u hu
  refine ⟨a, rfl, Nat.lt_of_lt_of_le h1 hz, fun h4 => (hx _ h4).elim h2 (fun h5 => by omega), ?_⟩
  rw [← h3]
  exact World.cell?_of_block (by rw [add_block]; exact hf _ h1 h2)
theorem Fact.is_old (c : Prop) : (Fact.is c).Old := fun _ _ _ _ h _ _ _ => h

/-- The client, k rounds on. -/
def Fact.cl (J : Nat → (Nat → Prop) → World → Prop) (hJ : Framed J) (K XI : Nat → Prop) (w0 W0 : World) (hK : ∀ b, K b → b < w0.heap.size ∧ ¬ XI b) (hw : w0.heap.size ≤ W0.heap.size) (k : Nat) : Fact where
  p := fun X W => J k X W ∧ (∀ b, K b → W.heap[b]? = w0.heap[b]?) ∧ W0.heap.size ≤ W.heap.size ∧ ∀ b, X b → XI b ∨ (W0.heap.size ≤ b ∧ b < W.heap.size)
  fr := fun X X' W W' ⟨h1, h2, h3, h4⟩ hf hx => ⟨hJ k X X' W W' h1 hf hx, fun b hb => (hf.block b (by have := (hK b hb).1; omega) (fun hX => (h4 b hX).elim (hK b hb).2 (fun h => by have := (hK b hb).1; omega))).trans (h2 b hb), Nat.le_trans h3 hf.size,
    fun b hb => (hx b hb).elim (fun h => (h4 b h).imp id fun h => ⟨h.1, Nat.lt_of_lt_of_le h.2 hf.size⟩) fun h => .inr ⟨Nat.le_trans h3 h.1, h.2⟩⟩
def Fact.clx (Jx : Nat → (Nat → Prop) → World → Prop) (hJ : Framed Jx) (k : Nat) : Fact := ⟨Jx k, fun X X' W W' h hf hx => hJ k X X' W W' h hf hx⟩

/-- Where an iterator is. -/
abbrev CI (W : World) : Cx := ⟨fun _ => False, fun _ => True, W⟩

/-- What may be said of a call of yield. -/
def Yields (P : Program) (W0 : World) (l : Nat) (cl clx : Nat → Fact) (pre : List Fact) (N : Nat) (vals : Nat → List Value) : Prop :=
  ∀ (n : Nat × List Nat) (ops : Array Oper) (Q : Exit → Act → World → Prop) (rest : List Oper) (env : List (Nat × Value)) (R : List Res) (Φ : List Fact) (d : Nat) (T : TypeId) (pos : String) (af : Array Edge) (x : Operand) (as : Array Operand) (ts : Array TypeId) (k : Nat),
    k < N → opv env x = some (.func (.yield l) #[] #[]) → opvs env as.toList = some (vals k) → Mem (cl k) Φ → Nat.blt d n.1 = true →
    Jl P none (CI W0) n ops Q rest ((d, .bool true) :: env) R (cl (k + 1) :: pre) → Jl P none (CI W0) n ops Q rest ((d, .bool false) :: env) [] [clx k] →
    Jl P none (CI W0) n ops Q (⟨some d, .call { callee := .value x, args := as, argTypes := ts }, T, pos, af, none⟩ :: rest) env R Φ

/-- The end of an iterator. -/
def IQ (P : Program) (fn : Func) (cl clx : Nat → Fact) (N : Nat) : Exit → Act → World → Prop
  | .normal, a, W => a.defers = [] ∧ ((∃ X, (cl N).p X W) ∨ ∃ k X, k < N ∧ (clx k).p X W)
  | .ret, a, W => a.defers = [] ∧ ((∃ X, (cl N).p X W) ∨ ∃ k X, k < N ∧ (clx k).p X W)
  | _, _, _ => False
theorem Jq.itDone {P : Program} {fn : Func} {cl clx : Nat → Fact} {N m : Nat} {C : Cx} {env : List (Nat × Value)} {R : List Res} {Φ : List Fact} {e : Exit} (he : e = .ret ∨ e = .normal) (hm : Mem (cl N) Φ) : Jq C (m, []) (IQ P fn cl clx N) e env R Φ := fun a W h1 h2 => by
  rcases he with rfl | rfl <;> exact ⟨h1.defers, .inl ⟨_, h2.fact hm⟩⟩
theorem Jq.itStop {P : Program} {fn : Func} {cl clx : Nat → Fact} {N m k : Nat} {C : Cx} {env : List (Nat × Value)} {R : List Res} {Φ : List Fact} {e : Exit} (he : e = .ret ∨ e = .normal) (hk : k < N) (hm : Mem (clx k) Φ) : Jq C (m, []) (IQ P fn cl clx N) e env R Φ := fun a W h1 h2 => by
  rcases he with rfl | rfl <;> exact ⟨h1.defers, .inr ⟨k, _, hk, h2.fact hm⟩⟩

theorem ItL.of {P : Program} {gf : Nat} {fn : Func} {c : Code} {lb : List Value} {Rit : List Res} {pre lf : List Fact} {N : Nat} {vals : Nat → List Value} (nt : Nat) (hf : P.funcs[gf]? = some fn) (hnt : fn.ntmps = nt) (hb : fn.body = some c) (hres : fn.results = #[]) (hn : Nat.ble (lb.length + 1) nt = true)
    (hold : ∀ φ ∈ pre, φ.Old) (holdL : ∀ φ ∈ lf, φ.Old)
    (h : ∀ (W : World) (l : Nat) (cl clx : Nat → Fact), Yields P W l cl clx pre N vals → Jc P none (CI W) (nt, []) (IQ P fn cl clx N) c (envOf (.func (.yield l) #[] #[] :: lb) 0) Rit (cl 0 :: (pre ++ lf))) : ItL P gf lb Rit pre lf N vals := by
  intro X w0 hX hs hp hpl
  refine ⟨fun b => b < w0.heap.size ∧ ¬ X b ∧ ¬ ownL Rit b, fun b hb => hb, ?_⟩
  intro l J Jx W hsz hKX hJ hJx hJs hJxs hY h0
  have hW0 := hJs _ _ _ h0
  have hK : ∀ b, (b < w0.heap.size ∧ ¬ X b ∧ ¬ ownL Rit b) → b < w0.heap.size ∧ ¬ ownL Rit b := fun b h => ⟨h.1, h.2.2⟩
  obtain ⟨cl, hcl⟩ : ∃ cl : Nat → Fact, cl = Fact.cl J hJ (fun b => b < w0.heap.size ∧ ¬ X b ∧ ¬ ownL Rit b) (ownL Rit) w0 W hK hsz := ⟨_, rfl⟩
  obtain ⟨clx, hclx⟩ : ∃ clx : Nat → Fact, clx = Fact.clx Jx hJx := ⟨_, rfl⟩
  have hpre : ∀ (R : List Res) (W' : World), W.heap.size ≤ W'.heap.size → (∀ b, (b < w0.heap.size ∧ ¬ X b ∧ ¬ ownL Rit b) → W'.heap[b]? = w0.heap[b]?) → (∀ b, ownL R b → ownL Rit b ∨ (W.heap.size ≤ b ∧ b < W'.heap.size)) → ∀ φ ∈ pre, φ.p (fun b => False ∨ ownL R b) W' := fun R W' h1 h2 h3 φ hφ =>
    hold φ hφ _ _ w0 W' (hp φ hφ) (Nat.le_trans hsz h1) (fun b hb hx => h2 b ⟨hb, fun h => hx (.inl h), fun h => hx (.inr h)⟩) fun b hb => by
      rcases hb with hb | hb
      · exact hb.elim
      · rcases h3 b hb with h | h
        · exact .inl (.inr h)
        · exact .inr ⟨Nat.le_trans hsz h.1, h.2⟩
  have hy : Yields P W l cl clx pre N vals := by
    intro n ops Q rest env R Φ d T pos af x as ts k hk hx ha hm hd k1 k2 a W2 he hs2
    have hc := hs2.fact hm
    rw [hcl] at hc
    obtain ⟨q1, q2, q3, q4⟩ := hc
    obtain ⟨fn', tmps, assign, body, hrun, hR⟩ := hY k (fun b => False ∨ ownL R b) (vals k).toArray W2 hk q1 q3 q2 q4 rfl
    refine wpListIn_plain rfl fun K' hK' => oper_plain (by simp) ?_
    have hrun' : (execOp a.eval ⟨some d, .call { callee := .value x, args := as, argTypes := ts }, T, pos, af, none⟩).run P W2 = .ok (.round l fn' tmps assign body) W2 := by
      have e1 : as.map a.eval = (vals k).toArray := by
        apply Array.toList_inj.1
        simpa using opvs_eval he ha
      simpa [execOp, resolve, he.eval hx, e1, Deferred.ofValue, invoke] using hrun
    rw [hrun']
    refine ⟨fun h => by simp [Fence.wide] at h, hR.mono ?_⟩
    have evo : ∀ W3, Still w0 W3 → W2.heap.size ≤ W3.heap.size → Foreign (fun _ => True) W W3 := fun W3 h h' => ⟨h.1.trans hW0.1.symm, h.2.1.trans hW0.2.1.symm, h.2.2.trans hW0.2.2.symm, Nat.le_trans q3 h', fun b _ hb => absurd trivial hb⟩
    rintro e W3 (⟨rfl, r1, r2, r3, r4⟩ | ⟨rfl, r1, r2⟩)
    · have hkk : ∀ b, (b < w0.heap.size ∧ ¬ X b ∧ ¬ ownL Rit b) → W3.heap[b]? = w0.heap[b]? := fun b hb => (r3 b hb).trans (q2 b hb)
      have hown : ∀ b, ownL R b → ownL Rit b ∨ (W.heap.size ≤ b ∧ b < W3.heap.size) := fun b hb => (q4 b (.inr hb)).imp id fun h => ⟨h.1, Nat.lt_of_lt_of_le h.2 r2⟩
      refine hK' _ _ (k1 _ W3 (he.put (Nat.le_of_ble_eq_true hd) _) ⟨evo W3 (hJs _ _ _ r1) r2, (hs2.sep.keep fun b hb => r4 b (.inr hb)), fun b hb => .inl trivial, fun b hb => hb.elim, fun φ hφ => ?_⟩)
      rcases List.mem_cons.1 hφ with rfl | hφ
      · rw [hcl]
        exact ⟨r1, hkk, Nat.le_trans q3 r2, fun b hb => hb.elim (fun h => h.elim) (hown b)⟩
      · exact hpre R W3 (Nat.le_trans q3 r2) hkk hown φ hφ
    · refine hK' _ _ (k2 _ W3 (he.put (Nat.le_of_ble_eq_true hd) _) ⟨evo W3 (hJxs _ _ _ r1) r2, trivial, fun b hb => hb.elim, fun b hb => hb.elim, fun φ hφ => ?_⟩)
      rcases List.mem_cons.1 hφ with rfl | hφ
      · rw [hclx]
        exact hJx k _ _ W3 W3 r1 (Foreign.refl _ _) fun b hb => hb.elim (fun h => h.elim) fun h => h.elim
      · simp at hφ
  have hs0 : Sat (CI W) Rit (cl 0 :: (pre ++ lf)) W := by
    refine ⟨Foreign.refl _ _, (hs.less (X' := fun _ => False) fun b h => h.elim).keep fun b hb => hKX b (hs.lt b hb), fun b hb => .inl trivial, fun b hb => hb.elim, fun φ hφ => ?_⟩
    rcases List.mem_cons.1 hφ with rfl | hφ
    · rw [hcl]
      refine ⟨?_, fun b hb => hKX b hb.1, Nat.le_refl _, fun b hb => .inl (hb.elim (fun h => h.elim) id)⟩
      have e : (fun b => False ∨ ownL Rit b) = ownL Rit := by funext b; simp
      show J 0 (fun b => False ∨ ownL Rit b) W
      rw [e]; exact h0
    · rcases List.mem_append.1 hφ with hφ | hφ
      · exact hpre Rit W (Nat.le_refl _) (fun b hb => hKX b hb.1) (fun b hb => .inl hb) φ hφ
      · exact holdL φ hφ _ _ w0 W (hpl φ hφ) hsz (fun b hb _ => hKX b hb) fun b hb => .inl (hb.elim (fun h => h.elim) id)
  have hn' := Nat.le_of_ble_eq_true hn
  refine callsIn_of_wp hf hb trivial (wpIn_mono (h W l cl clx hy _ W ?_ hs0) fun e a W' hq => ?_) rfl
  · refine ⟨rfl, by simp [hnt]; omega, fun t v ht => ?_⟩
    obtain ⟨_, h2⟩ := elook_envOf _ 0 t v ht
    have hlt := (List.getElem?_eq_some_iff.1 h2).1
    simp only [Nat.sub_zero] at h2 hlt
    have e : (#[Value.func (.yield l) #[] #[]] ++ lb.toArray : Array Value) = (Value.func (.yield l) #[] #[] :: lb).toArray := by simp
    rw [e, Array.getElem?_append_left (by simpa using hlt)]
    simpa using h2
  · have fin : ∀ a W', (a.defers = [] ∧ ((∃ X, (cl N).p X W') ∨ ∃ k X, k < N ∧ (clx k).p X W')) → bodyPost P fn (fun e W' => (∃ v, e = .returned v) ∧ ((∃ X, J N X W') ∨ (∃ k X, k < N ∧ Jx k X W'))) .ret a W' := fun a W' hq => by
      refine bodyPost_ret (results_none hres _ _ _) hq.1 ⟨⟨_, rfl⟩, ?_⟩
      rcases hq.2 with ⟨X, hx⟩ | ⟨k, X, hk, hx⟩
      · rw [hcl] at hx; exact .inl ⟨X, hx.1⟩
      · rw [hclx] at hx; exact .inr ⟨k, X, hk, hx⟩
    cases e with
    | normal => exact fin a W' hq
    | ret => exact fin a W' hq
    | exit id => exact hq.elim
    | goto l => exact hq.elim
    | panic ch => exact hq.elim
    | outgrown => exact hq.elim
theorem It.of {P : Program} {gf : Nat} {fn : Func} {c : Code} {lb : List Value} {Rit : List Res} {pre : List Fact} {N : Nat} {vals : Nat → List Value} (nt : Nat) (hf : P.funcs[gf]? = some fn) (hnt : fn.ntmps = nt) (hb : fn.body = some c) (hres : fn.results = #[]) (hn : Nat.ble (lb.length + 1) nt = true)
    (hold : ∀ φ ∈ pre, φ.Old)
    (h : ∀ (W : World) (l : Nat) (cl clx : Nat → Fact), Yields P W l cl clx pre N vals → Jc P none (CI W) (nt, []) (IQ P fn cl clx N) c (envOf (.func (.yield l) #[] #[] :: lb) 0) Rit (cl 0 :: pre)) : It P gf lb Rit pre N vals :=
  ItL.of (lf := []) nt hf hnt hb hres hn hold (fun φ hφ => by simp at hφ) (fun W l cl clx hy => by rw [List.append_nil]; exact h W l cl clx hy)
end Go.Proofs.YtcppphgpbaablaaDoor
