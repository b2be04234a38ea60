/-
The logic of walks: ranges over functions.
Conditions: none; no program in sight.
-/
import Derived.Test.YtcppphgpbaablaaDoorJs
namespace Go.Proofs.YtcppphgpbaablaaDoor
set_option linter.unusedVariables false
open Go.RowKit

/-- What a walk leaves alone beside the heap. -/
def Still (W W' : World) : Prop := W'.os = W.os ∧ W'.tape = W.tape ∧ W'.output = W.output
/-- AN ITERATOR's CONTRACT: it calls yield N times, the k-th time with values of 'encs k'; the rounds keep the blocks K. -/
def IterX (P : Program) (gf : Nat) (lb : Array Value) (N : Nat) (encs : Nat → Array Value → (Nat → Prop) → World → Prop) (K XI : Nat → Prop) (w0 : World) : Prop :=
  ∀ (l : Nat) (J Jx : Nat → (Nat → Prop) → World → Prop) (W : World), w0.heap.size ≤ W.heap.size → (∀ b, b < w0.heap.size → W.heap[b]? = w0.heap[b]?) → Framed J → Framed Jx → (∀ k X W', J k X W' → Still w0 W') → (∀ k X W', Jx k X W' → Still w0 W') →
    (∀ k X vs W1, k < N → J k X W1 → W.heap.size ≤ W1.heap.size → (∀ b, K b → W1.heap[b]? = w0.heap[b]?) → (∀ b, X b → XI b ∨ (W.heap.size ≤ b ∧ b < W1.heap.size)) → encs k vs X W1 → YieldAt Fence.wide 0 P l vs W1 fun e W' =>
      (e = .returned (.bool true) ∧ J (k + 1) X W' ∧ W1.heap.size ≤ W'.heap.size ∧ (∀ b, K b → W'.heap[b]? = W1.heap[b]?) ∧ (∀ b, X b → W'.heap[b]? = W1.heap[b]?)) ∨ (e = .returned (.bool false) ∧ Jx k X W' ∧ W1.heap.size ≤ W'.heap.size)) →
    J 0 XI W →
    CallsIn Fence.wide 0 P gf (#[.func (.yield l) #[] #[]] ++ lb) W fun e W' => (∃ v, e = .returned v) ∧ ((∃ X, J N X W') ∨ (∃ k X, k < N ∧ Jx k X W'))

/-- THE STATEMENT 'for .. := range g { .. }' outside every round. -/
theorem wpIn_rangeX {P : Program} {g : Operand} {ps : Array Tmp} {assign body : Code} {Q : Exit → Act → World → Prop} {a : Act} {w : World}
    (D : Nat) (hD : w.heap.size = D) {gf : Nat} {lb : Array Value} (hg : a.eval g = .func (.func gf) #[] lb) (eg : ∀ args w, (callFunc gf args).run P w = .ok (.enter gf args) w)
    {N : Nat} {encs : Nat → Array Value → (Nat → Prop) → World → Prop} {K XI : Nat → Prop} (hit : IterX P gf lb N encs K XI w)
    (hK : ∀ b, K b → b < w.heap.size) (hXI : ∀ b, XI b → b < w.heap.size)
    (hps : ∀ k vs X W, encs k vs X W → vs.size = ps.size)
    (I : Nat → (Nat → Prop) → World → Prop) (Ix : Code → Nat → (Nat → Prop) → World → Prop) (hI : Framed I) (hIx : ∀ c, Framed (Ix c)) (hIs : ∀ k X W, I k X W → Still w W) (hIxs : ∀ c k X W, Ix c k X W → Still w W) (h0 : I 0 XI w)
    (hround : ∀ l k X vs W, k < N → l = D + 1 → I k (ext X D) W → (∀ b, X b → XI b ∨ (D + 2 ≤ b ∧ b < W.heap.size)) → (∀ b, K b → W.heap[b]? = w.heap[b]?) → D + 2 ≤ W.heap.size →
      encs k vs X W →
      assign.wpIn (Fence.wide.inRound l) 0 P (Exit.then (afterAssign P K (ext X D) I Ix l k body W) (fun _ _ _ => False))
        { tmps := (ps.zip vs).foldl (fun t (p, v) => t.setIfInBounds p v) a.tmps, defers := [] } W)
    (hdone : ∀ (X : Nat → Prop) (W : World), (∀ b, X b → XI b ∨ D ≤ b) → X D → I N X W → W.heap[D]? = some (.deferred (some [])) →
      Q .normal { a with defers := { target := .collected D, args := #[] } :: a.defers } W)
    (hstop : ∀ (c : Code) (k : Nat) (X : Nat → Prop) (W : World), k < N → (∀ b, X b → XI b ∨ D ≤ b) → X D → Ix c k X W → W.heap[D]? = some (.deferred (some [])) →
      c.wpIn Fence.wide 0 P Q { a with defers := { target := .collected D, args := #[] } :: a.defers } W) :
    (Code.rangeFunc g ps assign body).wpIn Fence.wide 0 P Q a w := by
  refine wpIn_rangeFunc ?_
  intro fn hfn
  rw [Fence.wide_round]
  replace hD := hD.symm
  obtain ⟨rec, hrec⟩ : ∃ rec : LoopState → Option Code → Loop, rec = fun st pe => { state := st, pending := pe, fn, tmps := a.tmps, params := ps, assign, body, defers := D } := ⟨_, rfl⟩
  obtain ⟨W1, hW1⟩ : ∃ W1, (w.alloc (.deferred (some []))).alloc (.loop (rec .ready none)) = W1 := ⟨_, rfl⟩
  have hz1 : W1.heap.size = D + 2 := by rw [← hW1, hD]; simp
  have hL1 : W1.heap[D + 1]? = some (.loop (rec .ready none)) := by
    rw [← hW1, hD]; have := World.alloc_heap_new (w.alloc (.deferred (some []))) (.loop (rec .ready none)); rwa [World.size_alloc] at this
  have hD1 : W1.heap[D]? = some (.deferred (some [])) := by
    rw [← hW1, hD]; exact (Below.heap_alloc _ _ _ (by simp)).trans (World.alloc_heap_new w _)
  have hold : ∀ b, b < D → W1.heap[b]? = w.heap[b]? := fun b hb => by
    rw [← hW1]; exact (Below.heap_alloc _ _ _ (by simp; omega)).trans (Below.heap_alloc _ _ _ (by omega))
  have hf1 : Foreign (fun _ => False) w W1 := by rw [← hW1]; exact (Foreign.alloc _ w _).trans (Foreign.alloc _ _ _)
  have hI1 : I 0 (ext XI D) W1 := hI 0 _ _ w W1 h0 (⟨hf1.os, hf1.tape, hf1.output, hf1.size, fun b hb _ => hf1.block b hb id⟩) (fun b hb => by
    rcases hb with hb | hb | hb
    · exact .inl hb
    · exact .inr ⟨by omega, by omega⟩
    · exact .inr ⟨by omega, by omega⟩)
  refine ⟨D + 1, [{ target := .collected D, args := #[] }], W1, { target := .fn (.func gf) lb, args := #[.func (.yield (D + 1)) #[] #[]] }, W1, gf,
    #[.func (.yield (D + 1)) #[] #[]] ++ lb, W1, ?_, ?_, ?_, ?_, fun h => by simp [Fence.wide] at h, ?_⟩
  · rw [← hW1, hrec, hD]; exact run_enterLoop_outer _ _ _ _ _
  · simp only [resolve, hg]
    simp [go_sem]
  · intro f' _; trivial
  · simp [invoke, go_sem, eg]
  · have hext : ∀ {X X' : Nat → Prop} {W W' : World}, (∀ b, X' b → X b ∨ (W.heap.size ≤ b ∧ b < W'.heap.size)) → ∀ b, ext X' D b → ext X D b ∨ (W.heap.size ≤ b ∧ b < W'.heap.size) := by
      intro X X' W W' h b hb
      rcases hb with hb | hb | hb
      · rcases h b hb with h | h
        · exact .inl (.inl h)
        · exact .inr h
      · exact .inl (.inr (.inl hb))
      · exact .inl (.inr (.inr hb))
    have hfor : ∀ {X : Nat → Prop} {W W' : World}, Foreign X W W' → Foreign (ext X D) W W' := fun h => ⟨h.os, h.tape, h.output, h.size, fun b hb hx => h.block b hb (fun e => hx (.inl e))⟩
    refine CallsIn.mono (hit (D + 1)
      (fun k X W => I k (ext X D) W ∧ W.heap[D + 1]? = some (.loop (rec .ready none)) ∧ W.heap[D]? = some (.deferred (some [])) ∧ ¬ X D ∧ ¬ X (D + 1))
      (fun k X W => ∃ c, Ix c k (ext X D) W ∧ W.heap[D + 1]? = some (.loop (rec .done (some c))) ∧ W.heap[D]? = some (.deferred (some [])) ∧ ¬ X D ∧ ¬ X (D + 1))
      W1 (by omega) (fun b hb => hold b (by omega)) ?_ ?_ (fun k X W h => hIs k _ W h.1) (fun k X W ⟨c, h, _⟩ => hIxs c k _ W h) ?_ ⟨hI1, hL1, hD1, fun h => by have := hXI _ h; omega, fun h => by have := hXI _ h; omega⟩) ?_
    · -- framed: while the rounds go on
      rintro k X X' W W' ⟨h1, h2, h3, h4, h5⟩ hf hx
      have hl2 := (Array.getElem?_eq_some_iff.1 h2).1
      exact ⟨hI k _ _ W W' h1 (hfor hf) (hext hx), (hf.block _ hl2 h5).trans h2, (hf.block _ (by omega) h4).trans h3,
        fun h => (hx _ h).elim h4 (fun h => by omega), fun h => (hx _ h).elim h5 (fun h => by omega)⟩
    · rintro k X X' W W' ⟨c, h1, h2, h3, h4, h5⟩ hf hx
      have hl2 := (Array.getElem?_eq_some_iff.1 h2).1
      exact ⟨c, hIx c k _ _ W W' h1 (hfor hf) (hext hx), (hf.block _ hl2 h5).trans h2, (hf.block _ (by omega) h4).trans h3,
        fun h => (hx _ h).elim h4 (fun h => by omega), fun h => (hx _ h).elim h5 (fun h => by omega)⟩
    · -- one round
      rintro k X vs W hk ⟨hi, hl, hd, hx1, hx2⟩ hsz hkk hX henc
      have hlt : D + 1 < W.heap.size := (Array.getElem?_eq_some_iff.1 hl).1
      have hy := run_yield (P := P) (args := vs) hl (by rw [hrec]; exact hps k vs X W henc)
      rw [hrec] at hy
      refine ⟨fn, _, assign, body, hy, roundIn_of_wpIn hfn ?_⟩
      refine wpIn_mono (hround (D + 1) k X vs W hk rfl hi (fun b hb => (hX b hb).imp id fun h => by omega) hkk (by omega) henc) ?_
      rintro e a₁ W₁ hp
      cases e with
      | normal =>
        obtain ⟨hs1, hsame1, hb⟩ := hp
        have hl1 : W₁.heap[D + 1]? = some (.loop (rec .ready none)) := (hsame1 _ (.inl (.inr (.inr rfl)))).trans hl
        have hd1 : W₁.heap[D]? = some (.deferred (some [])) := (hsame1 _ (.inl (.inr (.inl rfl)))).trans hd
        refine ⟨_, run_beginRound hl1 (by rw [hrec]), ?_⟩
        obtain ⟨W₂, hW2⟩ : ∃ W₂, W₁.putObj (D + 1) (.loop { rec .ready none with state := .busy }) = W₂ := ⟨_, rfl⟩
        rw [hW2]
        have hl2 : W₂.heap[D + 1]? = some (.loop { rec .ready none with state := .busy }) := by rw [← hW2]; exact World.putObj_heap_same (Array.getElem?_eq_some_iff.1 hl1).1
        have hd2 : W₂.heap[D]? = some (.deferred (some [])) := by rw [← hW2]; exact (World.putObj_heap_other (by omega)).trans hd1
        have hsz2 : W₂.heap.size = W₁.heap.size := by rw [← hW2]; simp
        have hoth : ∀ b, b ≠ D + 1 → W₂.heap[b]? = W₁.heap[b]? := fun b hb => by rw [← hW2]; exact World.putObj_heap_other hb
        refine wpIn_mono (hb W₂ (by rw [← hW2]; exact turned_putObj hl1 rfl rfl) (by rw [← hW2]; exact Foreign.putObj _ (.inr (.inr rfl))) (fun hi1 => by rw [← hW2]; exact hI k _ _ W₁ _ hi1 (Foreign.putObj _ (.inr (.inr rfl))) (fun b hb => .inl hb))) ?_
        have fin : ∀ (jump : Option Code) (W3 : World), (∀ b, ext X D b → W3.heap[b]? = W₂.heap[b]?) → W₂.heap.size ≤ W3.heap.size →
            (Instr.endRound (D + 1) jump).run P W3 = .ok (.bool jump.isNone) (W3.putObj (D + 1) (.loop (rec (if jump.isNone then .ready else .done) jump))) ∧
            (W3.putObj (D + 1) (.loop (rec (if jump.isNone then .ready else .done) jump))).heap[D + 1]? = some (.loop (rec (if jump.isNone then .ready else .done) jump)) ∧
            (W3.putObj (D + 1) (.loop (rec (if jump.isNone then .ready else .done) jump))).heap[D]? = some (.deferred (some [])) := fun jump W3 hk3 hs3 => by
          have hl3 := (hk3 (D + 1) (.inr (.inr rfl))).trans hl2
          have := run_endRound (P := P) jump hl3
          rw [hrec] at this ⊢
          exact ⟨this, World.putObj_heap_same (Array.getElem?_eq_some_iff.1 hl3).1, (World.putObj_heap_other (by omega)).trans ((hk3 D (.inr (.inl rfl))).trans hd2)⟩
        rintro e a3 W3 hp3
        cases e with
        | normal =>
          obtain ⟨hs3, hx3, hk3, hi3⟩ := hp3
          obtain ⟨hr, hl4, hd4⟩ := fin none W3 hx3 hs3
          refine ⟨_, _, hr, .inl ⟨rfl, ⟨hI (k + 1) _ _ W3 _ hi3 (Foreign.putObj _ (.inr (.inr rfl))) (fun b hb => .inl hb), hl4, hd4, hx1, hx2⟩, by simp; omega, fun b hb => ?_, fun b hb => ?_⟩⟩
          · have hbD := hK b hb
            exact (World.putObj_heap_other (by omega)).trans ((hk3 b hb).trans ((hoth b (by omega)).trans (hsame1 b (.inr hb))))
          · have hne : b ≠ D + 1 := fun e => hx2 (e ▸ hb)
            exact (World.putObj_heap_other hne).trans ((hx3 b (.inl hb)).trans ((hoth b hne).trans (hsame1 b (.inl (.inl hb)))))
        | ret =>
          obtain ⟨hs3, hx3, hi3⟩ := hp3
          obtain ⟨hr, hl4, hd4⟩ := fin (some .ret) W3 hx3 hs3
          exact ⟨_, _, hr, .inr ⟨rfl, ⟨.ret, hIx _ k _ _ W3 _ hi3 (Foreign.putObj _ (.inr (.inr rfl))) (fun b hb => .inl hb), hl4, hd4, hx1, hx2⟩, by simp; omega⟩⟩
        | exit id =>
          obtain ⟨hs3, hx3, hi3⟩ := hp3
          obtain ⟨hr, hl4, hd4⟩ := fin (some (.exit id)) W3 hx3 hs3
          exact ⟨_, _, hr, .inr ⟨rfl, ⟨.exit id, hIx _ k _ _ W3 _ hi3 (Foreign.putObj _ (.inr (.inr rfl))) (fun b hb => .inl hb), hl4, hd4, hx1, hx2⟩, by simp; omega⟩⟩
        | goto t =>
          obtain ⟨hs3, hx3, hi3⟩ := hp3
          obtain ⟨hr, hl4, hd4⟩ := fin (some (.goto t)) W3 hx3 hs3
          exact ⟨_, _, hr, .inr ⟨rfl, ⟨.goto t, hIx _ k _ _ W3 _ hi3 (Foreign.putObj _ (.inr (.inr rfl))) (fun b hb => .inl hb), hl4, hd4, hx1, hx2⟩, by simp; omega⟩⟩
        | panic ch => exact hp3.elim
        | outgrown => exact hp3.elim
      | ret => exact hp.elim
      | exit id => exact hp.elim
      | goto t => exact hp.elim
      | panic ch => exact hp.elim
      | outgrown => exact hp.elim
    · -- behind the iterator
      rintro e W2 ⟨⟨v, rfl⟩, (⟨X, hi, hl, hd, hx1, hx2⟩ | ⟨k, X, hk, c, hi, hl, hd, hx1, hx2⟩)⟩
      · have hle : ∀ b, ext X D b ∧ (XI b ∨ D ≤ b) → XI b ∨ D ≤ b := fun b h => h.2
        refine ⟨none, _, by have := run_endLoop (P := P) hl (by rw [hrec]; simp); rw [hrec] at this; exact this, ?_⟩
        have hi' := hI N _ (fun b => ext X D b ∧ (XI b ∨ D ≤ b)) W2 (W2.putObj (D + 1) (.loop { rec .ready none with state := .exhausted })) hi (Foreign.putObj _ (.inr (.inr rfl))) (fun b hb => .inl hb.1)
        rw [hrec] at hi'
        exact hdone (fun b => ext X D b ∧ (XI b ∨ D ≤ b)) _ hle ⟨.inr (.inl rfl), .inr (Nat.le_refl _)⟩ hi' ((World.putObj_heap_other (by omega)).trans hd)
      · have hle : ∀ b, ext X D b ∧ (XI b ∨ D ≤ b) → XI b ∨ D ≤ b := fun b h => h.2
        refine ⟨some c, _, by have := run_endLoop (P := P) hl (by rw [hrec]; simp); rw [hrec] at this; exact this, ?_⟩
        have hi' := hIx c k _ (fun b => ext X D b ∧ (XI b ∨ D ≤ b)) W2 (W2.putObj (D + 1) (.loop { rec .done (some c) with state := .exhausted })) hi (Foreign.putObj _ (.inr (.inr rfl))) (fun b hb => .inl hb.1)
        rw [hrec] at hi'
        exact hstop c k (fun b => ext X D b ∧ (XI b ∨ D ≤ b)) _ hk hle ⟨.inr (.inl rfl), .inr (Nat.le_refl _)⟩ hi' ((World.putObj_heap_other (by omega)).trans hd)


/-- An iterator: it calls yield N times, the k-th time with the values vals k; it may write Rit, and reads what pre is on; ahead of the first round also what lf is on, which is lent. -/
def ItL (P : Program) (gf : Nat) (lb : List Value) (Rit : List Res) (pre lf : List Fact) (N : Nat) (vals : Nat → List Value) : Prop :=
  ∀ (X : Nat → Prop) w0, (∀ b, X b → b < w0.heap.size) → Sep X w0 Rit → (∀ φ ∈ pre, φ.p (fun b => X b ∨ ownL Rit b) w0) → (∀ φ ∈ lf, φ.p (ownL Rit) w0) →
    ∃ K : Nat → Prop, (∀ b, K b → b < w0.heap.size ∧ ¬ X b ∧ ¬ ownL Rit b) ∧ IterX P gf lb.toArray N (fun k vs _ _ => vs = (vals k).toArray) K (ownL Rit) w0
/-- Of which nothing is lent. -/
def It (P : Program) (gf : Nat) (lb : List Value) (Rit : List Res) (pre : List Fact) (N : Nat) (vals : Nat → List Value) : Prop := ItL P gf lb Rit pre [] N vals

def psetL : List Tmp → List Value → List (Nat × Value) → List (Nat × Value)
  | p :: ps, v :: vs, env => psetL ps vs ((p, v) :: env)
  | _, _, env => env
theorem Env.pset {m : Nat} : ∀ {ps : List Tmp} {vs : List Value} {env : List (Nat × Value)} {t : Array Value}, Env (m, []) env { tmps := t, defers := [] } → (ps.all fun p => Nat.blt p m) = true →
    Env (m, []) (psetL ps vs env) { tmps := (ps.zip vs).foldl (fun t (x : Tmp × Value) => t.setIfInBounds x.1 x.2) t, defers := [] }
  | [], _, _, _, h, _ => by simpa [psetL] using h
  | p :: ps, [], _, _, h, _ => by simpa [psetL] using h
  | p :: ps, v :: vs, env, t, h, hp => by
    simp only [List.all_cons, Bool.and_eq_true] at hp
    simp only [List.zip_cons_cons, List.foldl_cons]
    have h' : Env (m, []) ((p, v) :: env) { tmps := t.setIfInBounds p v, defers := [] } := h.put (Nat.le_of_ble_eq_true hp.1) v
    have k := Env.pset (ps := ps) (vs := vs) h' hp.2
    exact k

theorem Sat.rebase {C : Cx} {R : List Res} {Φ : List Fact} {W : World} (h : Sat C R Φ W) : Sat ⟨C.X0, ownL R, W⟩ R Φ W := ⟨Foreign.refl _ _, h.sep, fun b hb => .inl hb, h.x0, h.facts⟩
theorem Sat.compose {C : Cx} {R R' : List Res} {Φ Φ' : List Fact} {W W' : World} (h : Sat C R Φ W) (k : Sat ⟨C.X0, ownL R, W⟩ R' Φ' W') : Sat C R' Φ' W' := by
  refine ⟨⟨k.ev.os.trans h.ev.os, k.ev.tape.trans h.ev.tape, k.ev.output.trans h.ev.output, Nat.le_trans h.ev.size k.ev.size, fun b hb hm => ?_⟩, k.sep, fun b hb => ?_, k.x0, k.facts⟩
  · refine (k.ev.block b (Nat.lt_of_lt_of_le hb h.ev.size) fun hb' => ?_).trans (h.ev.block b hb hm)
    rcases h.ours b hb' with h1 | h1
    · exact hm h1
    · omega
  · rcases k.ours b hb with h1 | h1
    · exact h.ours b h1
    · exact .inr (Nat.le_trans h.ev.size h1)
/-- Blocks turn that are not the call's. -/
theorem Sat.turn {C : Cx} {R : List Res} {Φ : List Fact} {W W' : World} {X : Nat → Prop} (h : Sat C R Φ W) (hf : Foreign X W W') (hX : ∀ b, X b → C.X0 b ∧ C.W0.heap.size ≤ b) : Sat C R Φ W' := by
  refine ⟨⟨hf.os.trans h.ev.os, hf.tape.trans h.ev.tape, hf.output.trans h.ev.output, Nat.le_trans h.ev.size hf.size, fun b hb hm => ?_⟩, h.sep.keep fun b hb => hf.block b (h.sep.lt b hb) fun hx => h.sep.notX b hb (hX b hx).1, h.ours, fun b hb => Nat.lt_of_lt_of_le (h.x0 b hb) hf.size, fun φ hφ => ?_⟩
  · exact (hf.block b (Nat.lt_of_lt_of_le hb h.ev.size) fun hx => by have := (hX b hx).2; omega).trans (h.ev.block b hb hm)
  · exact φ.fr _ _ W W' (h.facts φ hφ) ⟨hf.os, hf.tape, hf.output, hf.size, fun b hb hx => hf.block b hb fun h1 => hx (.inl (hX b h1).1)⟩ fun b hb => .inl hb
theorem Sat.x0le {C : Cx} {X : Nat → Prop} {R : List Res} {Φ : List Fact} {W : World} (h : Sat ⟨X, C.M0, C.W0⟩ R Φ W) (hX : ∀ b, C.X0 b → X b) : Sat C R Φ W :=
  ⟨h.ev, h.sep.less hX, h.ours, fun b hb => h.x0 b (hX b hb), fun φ hφ => φ.fr _ _ W W (h.facts φ hφ) (Foreign.refl _ _) fun b hb => .inl (hb.imp (hX b) id)⟩

theorem Sep.more' {X X' : Nat → Prop} {W : World} : ∀ {R : List Res}, Sep X W R → (∀ b, ownL R b → X' b → False) → Sep X' W R
  | [], _, _ => trivial
  | q :: R, h, hx => ⟨h.1, fun b hb => ⟨fun h' => hx b (.inl hb) h', (h.2.1 b hb).2⟩, h.2.2.more' fun b hb => hx b (.inr hb)⟩
theorem frame {C : Cx} {X X' : Nat → Prop} {R : List Res} {Φ : List Fact} {W W' : World} (h : Sat ⟨fun b => C.X0 b ∨ X b, C.M0, C.W0⟩ R Φ W) (h2 : ∀ b, X b → C.M0 b ∨ C.W0.heap.size ≤ b) (hf : Foreign X W W')
    (hx : ∀ b, X' b → X b ∨ (W.heap.size ≤ b ∧ b < W'.heap.size)) : Sat ⟨fun b => C.X0 b ∨ X' b, C.M0, C.W0⟩ R Φ W' := by
  have hlt := fun b hb => h.sep.lt b hb
  refine ⟨⟨hf.os.trans h.ev.os, hf.tape.trans h.ev.tape, hf.output.trans h.ev.output, Nat.le_trans h.ev.size hf.size, fun b hb hm => ?_⟩, ?_, h.ours, fun b hb => ?_, fun φ hφ => ?_⟩
  · exact (hf.block b (Nat.lt_of_lt_of_le hb h.ev.size) fun hX => (h2 b hX).elim hm fun h => by have hb' : b < C.W0.heap.size := hb; omega).trans (h.ev.block b hb hm)
  · refine (h.sep.keep fun b hb => hf.block b (hlt b hb) fun hX => h.sep.notX b hb (.inr hX)).more' fun b hb hX => ?_
    rcases hX with hX | hX
    · exact h.sep.notX b hb (.inl hX)
    · rcases hx b hX with h3 | h3
      · exact h.sep.notX b hb (.inr h3)
      · have := hlt b hb; omega
  · rcases hb with hb | hb
    · exact Nat.lt_of_lt_of_le (h.x0 b (.inl hb)) hf.size
    · rcases hx b hb with h3 | h3
      · exact Nat.lt_of_lt_of_le (h.x0 b (.inr h3)) hf.size
      · exact h3.2
  · refine φ.fr _ _ W W' (h.facts φ hφ) ⟨hf.os, hf.tape, hf.output, hf.size, fun b hb hX => hf.block b hb fun h1 => hX (.inl (.inr h1))⟩ fun b hb => ?_
    rcases hb with (hb | hb) | hb
    · exact .inl (.inl (.inl hb))
    · exact (hx b hb).imp (fun h => .inl (.inr h)) id
    · exact .inl (.inr hb)
theorem marked {C : Cx} {X : Nat → Prop} {R : List Res} {Φ : List Fact} {W : World} {D : Nat} (h : Sat ⟨fun b => C.X0 b ∨ X b, C.M0, C.W0⟩ R Φ W) (hXD : X D) (hD : W.heap[D]? = some (.deferred (some []))) (hn : ¬ C.X0 D) (hsz : C.W0.heap.size ≤ D) : Sat C (.mark D :: R) Φ W := by
  refine ⟨h.ev, ⟨hD, fun b hb => ?_, h.sep.less fun b hb => .inl hb⟩, fun b hb => ?_, fun b hb => h.x0 b (.inl hb), fun φ hφ => φ.fr _ _ W W (h.facts φ hφ) (Foreign.refl _ _) fun b hb => .inl ?_⟩
  · have : b = D := hb
    subst this
    exact ⟨hn, fun ho => h.sep.notX b ho (.inr hXD)⟩
  · rcases hb with hb | hb
    · have : b = D := hb
      subst this
      exact .inr hsz
    · exact h.ours b hb
  · rcases hb with hb | hb | hb
    · exact .inl (.inl hb)
    · have : b = D := hb
      subst this
      exact .inl (.inr hXD)
    · exact .inr hb

section
variable {σ τ : Type} (Inv : Nat → σ → Prop) (Rs : σ → List Res) (Φs : σ → List Fact) (InvX : Code → Nat → τ → Prop) (RsX : τ → List Res) (ΦsX : τ → List Fact)
/-- How a round ends. -/
def RQ (C : Cx) (k : Nat) : Exit → Act → World → Prop
  | .normal, _, W => ∃ s, Inv (k + 1) s ∧ Sat C (Rs s) (Φs s) W
  | .ret, _, W => ∃ t, InvX .ret k t ∧ Sat C (RsX t) (ΦsX t) W
  | .exit id, _, W => ∃ t, InvX (.exit id) k t ∧ Sat C (RsX t) (ΦsX t) W
  | .goto l, _, W => ∃ t, InvX (.goto l) k t ∧ Sat C (RsX t) (ΦsX t) W
  | .panic _, _, _ => False
  | .outgrown, _, _ => False
/-- What is asked behind the assignment. -/
def AQ (P : Program) (l : Nat) (C : Cx) (m k : Nat) (body : Code) : Exit → Act → World → Prop
  | .normal, a, W => ∃ env R Φ, Env (m, []) env a ∧ Sat C R Φ W ∧ ∀ C2 : Cx, Jc P (some l) C2 (m, []) (RQ Inv Rs Φs InvX RsX ΦsX C2 k) body env R Φ
  | _, _, _ => False
variable {Inv Rs Φs InvX RsX ΦsX}
theorem Jq.assigned {P : Program} {l : Nat} {C : Cx} {m k : Nat} {body : Code} {env : List (Nat × Value)} {R : List Res} {Φ : List Fact} (h : ∀ C2 : Cx, Jc P (some l) C2 (m, []) (RQ Inv Rs Φs InvX RsX ΦsX C2 k) body env R Φ) :
    Jq C (m, []) (AQ Inv Rs Φs InvX RsX ΦsX P l C m k body) .normal env R Φ := fun a W he hs => ⟨env, R, Φ, he, hs, h⟩
theorem Jq.next {C : Cx} {n : Nat × List Nat} {k : Nat} {env : List (Nat × Value)} {R : List Res} {Φ : List Fact} (s : σ) (hi : Inv (k + 1) s) (hr : Rs s = R) (hf : FSub (Φs s) Φ) : Jq C n (RQ Inv Rs Φs InvX RsX ΦsX C k) .normal env R Φ := fun a W he hs => by
  subst hr; exact ⟨s, hi, hs.sub hf⟩
theorem Jq.nextR {C : Cx} {n : Nat × List Nat} {k : Nat} {env : List (Nat × Value)} {R : List Res} {Φ : List Fact} (t : τ) (hi : InvX .ret k t) (hr : RsX t = R) (hf : FSub (ΦsX t) Φ) : Jq C n (RQ Inv Rs Φs InvX RsX ΦsX C k) .ret env R Φ := fun a W he hs => by
  subst hr; exact ⟨t, hi, hs.sub hf⟩
theorem Jq.nextX {C : Cx} {n : Nat × List Nat} {k id : Nat} {env : List (Nat × Value)} {R : List Res} {Φ : List Fact} (t : τ) (hi : InvX (.exit id) k t) (hr : RsX t = R) (hf : FSub (ΦsX t) Φ) : Jq C n (RQ Inv Rs Φs InvX RsX ΦsX C k) (.exit id) env R Φ := fun a W he hs => by
  subst hr; exact ⟨t, hi, hs.sub hf⟩
theorem Jq.nextG {C : Cx} {n : Nat × List Nat} {k l : Nat} {env : List (Nat × Value)} {R : List Res} {Φ : List Fact} (t : τ) (hi : InvX (.goto l) k t) (hr : RsX t = R) (hf : FSub (ΦsX t) Φ) : Jq C n (RQ Inv Rs Φs InvX RsX ΦsX C k) (.goto l) env R Φ := fun a W he hs => by
  subst hr; exact ⟨t, hi, hs.sub hf⟩

/-- THE STATEMENT 'for .. := range g { .. }'. -/
theorem Jc.rangeL {P : Program} {C : Cx} {n : Nat × List Nat} {Q : Exit → Act → World → Prop} {env : List (Nat × Value)} {R R' R'' ls : List Res} {Φ lf : List Fact} {g : Operand} {ps : Array Tmp} {assign body : Code} {gf : Nat} {lb : List Value} {Rit : List Res} {pre : List Fact} {N : Nat} {vals : Nat → List Value}
    (hg : opv env g = some (.func (.func gf) #[] lb.toArray)) (eg : ∀ args w, (callFunc gf args).run P w = .ok (.enter gf args) w) (hit : ItL P gf lb Rit pre lf N vals) (ht : Take Rit R R') (hp : FSub pre Φ) (hl : Take ls R' R'') (hlf : Lends ls lf)
    (hps : ∀ k, (vals k).length = ps.toList.length) (hpn : (ps.toList.all fun p => Nat.blt p n.1) = true) (s0 : σ) (h0 : Inv 0 s0) (hr0 : Rs s0 = R') (hf0 : FSub (Φs s0) Φ)
    (round : ∀ k s, k < N → Inv k s → ∀ (l : Nat) (C1 : Cx), Jc P (some l) C1 (n.1, []) (AQ Inv Rs Φs InvX RsX ΦsX P l C1 n.1 k body) assign (psetL ps.toList (vals k) env) (Rs s) (Φs s))
    (done : ∀ s D, Inv N s → Jq C (n.1, D :: n.2) Q .normal env (.mark D :: Rs s) (Φs s))
    (stop : ∀ c k t D, k < N → InvX c k t → Jc P none C (n.1, D :: n.2) Q c env (.mark D :: RsX t) (ΦsX t)) : Jc P none C n Q (.rangeFunc g ps assign body) env R Φ := fun a W he hs => by
  obtain ⟨q1, q2⟩ := ht.sep hs.sep
  obtain ⟨K, hK, hiter⟩ := hit (fun b => C.X0 b ∨ ownL R' b) W (fun b hb => hb.elim (hs.x0 b) (q2.lt b)) q1 (fun φ hφ => φ.fr _ _ W W (hs.facts φ (hp.mem φ hφ)) (Foreign.refl _ _) fun b hb => .inl (by
    rcases hb with (h | h) | h
    · exact .inl h
    · exact .inr ((ht.own b).2 (.inr h))
    · exact .inr ((ht.own b).2 (.inl h)))) (hlf.mem (hl.sep q2).1 fun b hb hx => q1.notX b hx (.inr ((hl.own b).2 (.inl hb))))
  have hsz := hs.ev.size
  subst hr0
  refine wpIn_rangeX W.heap.size rfl (he.eval hg) eg hiter (fun b hb => (hK b hb).1) (fun b hb => q1.lt b hb) (fun k vs X W' h => by subst h; simpa using hps k)
    (fun k X W => ∃ s, Inv k s ∧ Sat ⟨fun b => C.X0 b ∨ X b, C.M0, C.W0⟩ (Rs s) (Φs s) W ∧ (∀ b, X b → C.M0 b ∨ C.W0.heap.size ≤ b) ∧ ∀ b, ownL (Rs s) b → ¬ K b)
    (fun c k X W => ∃ t, InvX c k t ∧ Sat ⟨fun b => C.X0 b ∨ X b, C.M0, C.W0⟩ (RsX t) (ΦsX t) W ∧ ∀ b, X b → C.M0 b ∨ C.W0.heap.size ≤ b) ?_ ?_ (fun k X W ⟨s, _, h1, _⟩ => ⟨h1.ev.os.trans hs.ev.os.symm, h1.ev.tape.trans hs.ev.tape.symm, h1.ev.output.trans hs.ev.output.symm⟩) (fun c k X W ⟨t, _, h1, _⟩ => ⟨h1.ev.os.trans hs.ev.os.symm, h1.ev.tape.trans hs.ev.tape.symm, h1.ev.output.trans hs.ev.output.symm⟩) ?_ ?_ ?_ ?_
  · rintro k X X' W1 W2 ⟨s, hi, h1, h2, h3⟩ hf hx
    exact ⟨s, hi, frame h1 h2 hf hx, fun b hb => (hx b hb).elim (h2 b) fun h => .inr (Nat.le_trans h1.ev.size h.1), h3⟩
  · rintro c k X X' W1 W2 ⟨t, hi, h1, h2⟩ hf hx
    exact ⟨t, hi, frame h1 h2 hf hx, fun b hb => (hx b hb).elim (h2 b) fun h => .inr (Nat.le_trans h1.ev.size h.1)⟩
  · refine ⟨s0, h0, ⟨hs.ev, q2.more' fun b hb h => h.elim (fun h => q2.notX b hb h) fun h => q1.notX b h (.inr hb), fun b hb => hs.ours b ((ht.own b).2 (.inr hb)), fun b hb => hb.elim (hs.x0 b) (q1.lt b), fun φ hφ => ?_⟩, fun b hb => hs.ours b ((ht.own b).2 (.inl hb)), fun b hb hk => (hK b hk).2.1 (.inr hb)⟩
    exact φ.fr _ _ W W (hs.facts φ (hf0.mem φ hφ)) (Foreign.refl _ _) fun b hb => .inl (by
      rcases hb with (h | h) | h
      · exact .inl h
      · exact .inr ((ht.own b).2 (.inl h))
      · exact .inr ((ht.own b).2 (.inr h)))
  · rintro l k X vs W1 hk rfl ⟨s, hi, h1, h2, h3⟩ hX hKW hsz1 henc
    subst henc
    have henv : Env (n.1, []) (psetL ps.toList (vals k) env) { tmps := (ps.zip (vals k).toArray).foldl (fun t (x : Tmp × Value) => t.setIfInBounds x.1 x.2) a.tmps, defers := [] } := by
      have := Env.pset (m := n.1) (ps := ps.toList) (vs := vals k) (env := env) (t := a.tmps) ⟨rfl, he.size, he.at_⟩ hpn
      rw [← Array.foldl_toList, Array.toList_zip]
      exact this
    have hb1 := h1.rebase
    refine wpIn_mono (round k s hk hi (W.heap.size + 1) _ _ W1 henv hb1) fun e a1 W2 hq => ?_
    cases e with
    | normal =>
      obtain ⟨env1, R1, Φ1, he1, hs1, hbody⟩ := hq
      have hX1 : ∀ b, ext X W.heap.size b → b < W1.heap.size ∧ ¬ ownL (Rs s) b := fun b hb => ⟨h1.x0 b (.inr hb), fun ho => h1.sep.notX b ho (.inr hb)⟩
      have hK1 : ∀ b, K b → b < W1.heap.size ∧ ¬ ownL (Rs s) b := fun b hb => ⟨by have := (hK b hb).1; omega, fun ho => h3 b ho hb⟩
      refine ⟨hs1.ev.size, fun b hb => hb.elim (fun h => hs1.ev.block b (hX1 b h).1 (hX1 b h).2) (fun h => hs1.ev.block b (hK1 b h).1 (hK1 b h).2), fun W3 hT hF _ => ?_⟩
      have hsA := h1.compose hs1
      have hf3 : Foreign (fun b => b = W.heap.size + 1) W2 W3 := ⟨hF.os, hF.tape, hF.output, Nat.le_of_eq hT.size.symm, fun b _ hne => hT.block b hne⟩
      have hsB := hsA.turn hf3 (fun b hb => by subst hb; exact ⟨.inr (.inr (.inr rfl)), by have := h1.ev.size; show C.W0.heap.size ≤ _; omega⟩)
      have hsz3 := hT.size
      have hown1 : ∀ b, ownL R1 b → ownL (Rs s) b ∨ W1.heap.size ≤ b := hs1.ours
      have hX3 : ∀ b, ext X W.heap.size b → b < W3.heap.size ∧ ¬ ownL R1 b := fun b hb => ⟨hsB.x0 b (.inr hb), fun ho => hsB.sep.notX b ho (.inr hb)⟩
      have hK3 : ∀ b, K b → b < W3.heap.size ∧ ¬ ownL R1 b := fun b hb => ⟨by have := (hK b hb).1; have := hs1.ev.size; show b < W3.heap.size; have h9 : W1.heap.size ≤ W2.heap.size := hs1.ev.size; omega, fun ho => (hown1 b ho).elim (fun h => h3 b h hb) fun h => by have := (hK b hb).1; omega⟩
      refine wpIn_mono (hbody ⟨fun b => C.X0 b ∨ ext X W.heap.size b, ownL R1, W3⟩ a1 W3 he1 hsB.rebase) fun e a4 W4 hq4 => ?_
      cases e with
      | normal =>
        obtain ⟨s', hi', hs4⟩ := hq4
        exact ⟨hs4.ev.size, fun b hb => hs4.ev.block b (hX3 b hb).1 (hX3 b hb).2, fun b hb => hs4.ev.block b (hK3 b hb).1 (hK3 b hb).2, s', hi', hsB.compose hs4, h2, fun b hb hk => (hs4.ours b hb).elim (fun h => (hK3 b hk).2 h) fun h => by have h5 : W3.heap.size ≤ b := h; have := (hK3 b hk).1; omega⟩
      | ret =>
        obtain ⟨t, hi', hs4⟩ := hq4
        exact ⟨hs4.ev.size, fun b hb => hs4.ev.block b (hX3 b hb).1 (hX3 b hb).2, t, hi', hsB.compose hs4, h2⟩
      | exit id =>
        obtain ⟨t, hi', hs4⟩ := hq4
        exact ⟨hs4.ev.size, fun b hb => hs4.ev.block b (hX3 b hb).1 (hX3 b hb).2, t, hi', hsB.compose hs4, h2⟩
      | goto l =>
        obtain ⟨t, hi', hs4⟩ := hq4
        exact ⟨hs4.ev.size, fun b hb => hs4.ev.block b (hX3 b hb).1 (hX3 b hb).2, t, hi', hsB.compose hs4, h2⟩
      | panic ch => exact hq4.elim
      | outgrown => exact hq4.elim
    | ret => exact hq.elim
    | exit id => exact hq.elim
    | goto l => exact hq.elim
    | panic ch => exact hq.elim
    | outgrown => exact hq.elim
  · rintro X W1 hXle hXD ⟨s, hi, h1, h2, h3⟩ hD
    exact done s W.heap.size hi _ W1 ⟨by simp [he.defers], he.size, he.at_⟩ (marked h1 hXD hD (fun h => absurd (hs.x0 _ h) (Nat.lt_irrefl _)) hsz)
  · rintro c k X W1 hk hXle hXD ⟨t, hi, h1, h2⟩ hD
    exact stop c k t W.heap.size hk hi _ W1 ⟨by simp [he.defers], he.size, he.at_⟩ (marked h1 hXD hD (fun h => absurd (hs.x0 _ h) (Nat.lt_irrefl _)) hsz)
theorem Jc.range {P : Program} {C : Cx} {n : Nat × List Nat} {Q : Exit → Act → World → Prop} {env : List (Nat × Value)} {R R' : List Res} {Φ : List Fact} {g : Operand} {ps : Array Tmp} {assign body : Code} {gf : Nat} {lb : List Value} {Rit : List Res} {pre : List Fact} {N : Nat} {vals : Nat → List Value}
    (hg : opv env g = some (.func (.func gf) #[] lb.toArray)) (eg : ∀ args w, (callFunc gf args).run P w = .ok (.enter gf args) w) (hit : It P gf lb Rit pre N vals) (ht : Take Rit R R') (hp : FSub pre Φ)
    (hps : ∀ k, (vals k).length = ps.toList.length) (hpn : (ps.toList.all fun p => Nat.blt p n.1) = true) (s0 : σ) (h0 : Inv 0 s0) (hr0 : Rs s0 = R') (hf0 : FSub (Φs s0) Φ)
    (round : ∀ k s, k < N → Inv k s → ∀ (l : Nat) (C1 : Cx), Jc P (some l) C1 (n.1, []) (AQ Inv Rs Φs InvX RsX ΦsX P l C1 n.1 k body) assign (psetL ps.toList (vals k) env) (Rs s) (Φs s))
    (done : ∀ s D, Inv N s → Jq C (n.1, D :: n.2) Q .normal env (.mark D :: Rs s) (Φs s))
    (stop : ∀ c k t D, k < N → InvX c k t → Jc P none C (n.1, D :: n.2) Q c env (.mark D :: RsX t) (ΦsX t)) : Jc P none C n Q (.rangeFunc g ps assign body) env R Φ :=
  Jc.rangeL (ls := []) (lf := []) (R'' := R') hg eg hit ht hp Take.nil Lends.nil hps hpn s0 h0 hr0 hf0 round done stop
end
/-- The marks of a function's ranges. -/
def marksOf (Ds : List Nat) : List Res := Ds.map Res.mark
theorem sep_marks {X : Nat → Prop} {W : World} : ∀ {Ds : List Nat}, Sep X W (marksOf Ds) → Ds.Nodup ∧ ∀ D ∈ Ds, W.heap[D]? = some (.deferred (some []))
  | [], _ => ⟨List.nodup_nil, fun _ h => by simp at h⟩
  | D :: Ds, h => by
    obtain ⟨h1, h2⟩ := sep_marks h.2.2
    refine ⟨List.nodup_cons.2 ⟨fun hm => (h.2.1 D rfl).2 (ownL_mem.2 ⟨.mark D, List.mem_map.2 ⟨D, hm, rfl⟩, rfl⟩), h1⟩, fun D' hD => ?_⟩
    rcases List.mem_cons.1 hD with rfl | hD
    · exact h.1
    · exact h2 D' hD
theorem Jq.finM {P : Program} {C : Cx} {nt : Nat} {Ds : List Nat} {env : List (Nat × Value)} {R R1 : List Res} {Φ : List Fact} {fn : Func} {α : Type} {res : α → Value} {Rout : α → List Res} {post : α → List Fact} {R' : List Res} {rvs : List ResultVar} {vs : List Value} {e : Exit}
    (x : α) (he' : e = .ret ∨ e = .normal) (hrv : fn.results = rvs.toArray) (hm : Take (marksOf Ds) R R1) (hr : RetVs P env R1 rvs vs) (hv : res x = retval vs) (ht : Take (Rout x) R1 R') (hp : FSub (post x) Φ) :
    Jq C (nt, Ds) (bodyPostM Fence.wide 0 P fn (Fin C res Rout post)) e env R Φ := fun a W he hs => by
  obtain ⟨q1, q2⟩ := hm.sep hs.sep
  obtain ⟨hnd, hmk⟩ := sep_marks q1
  have hs1 : Sat C R1 Φ W := hs.take hm
  have hDs : ∀ b, b ∈ Ds → ownL (marksOf Ds) b := fun b hb => ownL_mem.2 ⟨.mark b, List.mem_map.2 ⟨b, hb, rfl⟩, rfl⟩
  have key : LeavesInM Fence.wide 0 P fn a.tmps (Fin C res Rout post) a.defers .returning W := by
    rw [he.defers]
    refine marks_ret a.tmps Ds W hnd hmk fun W' h1 h2 h3 h4 h5 h6 h7 => ?_
    have hrun := ret_run (P := P) he hs1.sep h5 rvs vs hr
    have hre : (results fn a.tmps).run P W' = .ok (res x) W' := by
      rw [results_rv, hrv, Sem.run_bind, List.mapM_toArray, map_eq_pure_bind, Sem.run_bind, hrun, hv]
      simp only [Result.andThen_ok, Sem.run_pure]
      cases vs with
      | nil => simp [retval]
      | cons v vs => cases vs <;> simp [retval]
    have hs2 := hs.step (W' := W') (R' := R1) ⟨h1, h2, h3, Nat.le_of_eq h4.symm, fun b _ hne => h7 b fun hb => hne ((hm.own b).2 (.inl (hDs b hb)))⟩ (q2.keep fun b hb => h7 b fun hd => q1.notX b (hDs b hd) (.inr hb)) fun b hb => .inl ((hm.own b).2 (.inr hb))
    obtain ⟨h8, h9⟩ := ht.sep hs2.sep
    exact ⟨res x, hre, x, rfl, hs2.ev, h8.less fun b hb => .inl hb, fun b hb => hs2.ours b ((ht.own b).2 (.inl hb)), fun φ hφ => φ.fr _ _ W' W' (hs2.facts φ (hp.mem φ hφ)) (Foreign.refl _ _) fun b hb => .inl (hb.imp id fun h => (ht.own b).2 (.inl h))⟩
  rcases he' with rfl | rfl <;> exact key
end Go.Proofs.YtcppphgpbaablaaDoor
