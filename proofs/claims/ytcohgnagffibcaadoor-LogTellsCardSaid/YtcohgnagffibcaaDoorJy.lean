/-
The logic of walks: iterators whose values live in memory of their own; facts of memory that is young.
Conditions: none; no program in sight.
-/
import Derived.Test.YtcohgnagffibcaaDoorJi
import Derived.Test.YtcohgnagffibcaaDoorJk
namespace Go.Proofs.YtcohgnagffibcaaDoor
set_option linter.unusedVariables false
open Go.RowKit

/-- A fact of memory that is not among the first m blocks. -/
def Fact.yg (m : Nat) (φ : Fact) : Fact where
  p := fun X W => φ.p (fun b => X b ∨ b < m) W
  fr := fun X X' W W' h hf hx => φ.fr _ _ W W' h ⟨hf.os, hf.tape, hf.output, hf.size, fun b hb hx' => hf.block b hb fun h => hx' (.inl h)⟩ fun b hb => by
    rcases hb with hb | hb
    · exact (hx b hb).imp .inl id
    · exact .inl (.inr hb)
theorem Fact.yg_p {m : Nat} {φ : Fact} {X : Nat → Prop} {W : World} (h : (Fact.yg m φ).p X W) : φ.p X W := φ.fr _ _ W W h (Foreign.refl _ _) fun b hb => .inl (.inl hb)
/-- There are as many blocks. -/
def Fact.sz (m : Nat) : Fact := ⟨fun _ W => m ≤ W.heap.size, fun _ _ _ _ h hf _ => Nat.le_trans h hf.size⟩
/-- A contract of which some facts are of memory that is young. -/
def CtY (P : Program) (f : FuncId) (args : List Value) (Rin : List Res) (pre : List Fact) {α : Type} (res : α → Value) (Rout : α → List Res) (post yng : α → List Fact) : Prop :=
  ∀ X W, (∀ b, X b → b < W.heap.size) → Sep X W Rin → (∀ φ ∈ pre, φ.p (fun b => X b ∨ ownL Rin b) W) →
    Calls P f args.toArray W fun e W' => ∃ x, e = .returned (res x) ∧ Foreign (ownL Rin) W W' ∧ Sep X W' (Rout x) ∧ (∀ b, ownL (Rout x) b → ownL Rin b ∨ W.heap.size ≤ b) ∧ (∀ φ ∈ post x, φ.p (fun b => X b ∨ ownL (Rout x) b) W') ∧ ∀ φ ∈ yng x, φ.p (fun b => b < W.heap.size ∨ ownL (Rout x) b) W'
section
variable {P : Program} {f : FuncId} {args : List Value} {Rin : List Res} {pre : List Fact} {α : Type} {res : α → Value} {Rout : α → List Res} {post yng : α → List Fact}
theorem CtY.of {fn : Func} {c : Code} (nt : Nat) (hf : P.funcs[f]? = some fn) (hnt : fn.ntmps = nt) (hb : fn.body = some c) (hn : Nat.ble args.length nt = true)
    (h : ∀ X W, Jc P none ⟨X, ownL Rin, W⟩ (nt, []) (bodyPostM Fence.wide 0 P fn (Fin ⟨X, ownL Rin, W⟩ res Rout (fun x => post x ++ (yng x).map (Fact.yg W.heap.size)))) c (envOf args 0) Rin pre) : CtY P f args Rin pre res Rout post yng := fun X W hX hs hp => by
  refine Calls.mono (marks_call (args := args.toArray) hf hb (wpIn_wide.1 (h X W _ W ?_ ?_))) ?_
  · have hn' := Nat.le_of_ble_eq_true hn
    refine ⟨rfl, by simp [hnt]; omega, fun t v ht => ?_⟩
    obtain ⟨_, h2⟩ := elook_envOf args 0 t v ht
    have hlt := (List.getElem?_eq_some_iff.1 h2).1
    simp only [Nat.sub_zero] at h2 hlt
    rw [Array.getElem?_append_left (by simpa using hlt)]
    simpa using h2
  · exact ⟨Foreign.refl _ _, hs, fun b hb => .inl hb, hX, hp⟩
  · rintro e W' ⟨x, h1, h2, h3, h4, h5⟩
    refine ⟨x, h1, h2, h3, h4, fun φ hφ => h5 φ (List.mem_append_left _ hφ), fun φ hφ => ?_⟩
    have := h5 _ (List.mem_append_right _ (List.mem_map.2 ⟨φ, hφ, rfl⟩))
    exact φ.fr _ _ W' W' this (Foreign.refl _ _) fun b hb => .inl (hb.elim .inr fun h => .inl (.inr h))
/-- As a call knows it, made at a time with at least m blocks. -/
theorem CtY.at (h : CtY P f args Rin pre res Rout post yng) (m : Nat) : Ct P f args Rin (.sz m :: pre) res Rout (fun x => post x ++ (yng x ++ (yng x).map (Fact.yg m))) := fun X W hX hs hp => by
  have hm : m ≤ W.heap.size := hp (.sz m) (List.mem_cons_self ..)
  refine Calls.mono (h X W hX hs fun φ hφ => hp φ (List.mem_cons_of_mem _ hφ)) ?_
  rintro e W' ⟨x, h1, h2, h3, h4, h5, h6⟩
  refine ⟨x, h1, h2, h3, h4, fun φ hφ => ?_⟩
  rcases List.mem_append.1 hφ with hφ | hφ
  · exact h5 φ hφ
  · rcases List.mem_append.1 hφ with hφ | hφ
    · exact φ.fr _ _ W' W' (h6 φ hφ) (Foreign.refl _ _) fun b hb => .inl (hb.imp (hX b) id)
    · obtain ⟨ψ, hψ, rfl⟩ := List.mem_map.1 hφ
      exact ψ.fr _ _ W' W' (h6 ψ hψ) (Foreign.refl _ _) fun b hb => .inl (by
        rcases hb with (hb | hb) | hb
        · exact .inl (hX b hb)
        · exact .inr hb
        · exact .inl (by omega))
theorem CtY.ct (h : CtY P f args Rin pre res Rout post yng) : Ct P f args Rin pre res Rout (fun x => post x ++ yng x) := fun X W hX hs hp => by
  refine Calls.mono (h X W hX hs hp) ?_
  rintro e W' ⟨x, h1, h2, h3, h4, h5, h6⟩
  refine ⟨x, h1, h2, h3, h4, fun φ hφ => ?_⟩
  rcases List.mem_append.1 hφ with hφ | hφ
  · exact h5 φ hφ
  · exact φ.fr _ _ W' W' (h6 φ hφ) (Foreign.refl _ _) fun b hb => .inl (hb.imp (hX b) id)
end
section
variable {P : Program} {r : Option Nat} {C : Cx} {n : Nat × List Nat} {ops : Array Oper} {Q : Exit → Act → World → Prop} {rest : List Oper} {env : List (Nat × Value)} {R R' : List Res} {Φ : List Fact} {d : Nat} {T T' : TypeId} {pos : String} {af : Array Edge} {x : Operand}
/-- A row that was made in this call is written no more. -/
theorem Jl.sealY {e : TypeId} {s m cap : Nat} {A : Option Addr} {xs : List Value} (hM : ∀ b, ¬ C.M0 b) (hd : Del (.row e s (.slice A m cap) m xs) R R')
    (k : m ≤ cap → Jl P r C n ops Q rest env R' (.yg C.W0.heap.size (.rd A xs) :: .rd A xs :: Φ)) : Jl P r C n ops Q rest env R Φ := fun a W he hs => by
  obtain ⟨q1, q2, q3⟩ := hd.sep hs.sep
  have h1 : Sat C R' Φ W := hs.take (rs := [_]) ⟨_, hd, rfl⟩
  have hy : ∀ b, (Value.slice A m cap).ownBlock = some b → C.W0.heap.size ≤ b := fun b hb => (hs.ours b ((hd.own b).2 (.inl hb))).resolve_left (hM b)
  have f1 : (Fact.yg C.W0.heap.size (.rd A xs)).p (fun b => C.X0 b ∨ ownL R' b) W := show (Fact.rd A xs).p (fun b => (C.X0 b ∨ ownL R' b) ∨ b < C.W0.heap.size) W from rd_of_row q1 fun b hb hX => by
    rcases hX with (hX | hX) | hX
    · exact (q2 b hb).1 hX
    · exact (q2 b hb).2 hX
    · have := hy b hb; omega
  exact k (row_cap q1) a W he ((h1.add (Fact.yg_p f1)).add f1)
/-- A part of a slice; what is known of the whole is known of it. -/
theorem Jl.sliceY {A : Option Addr} {len cap s m0 : Nat} {e : TypeId} {xs : List Value} {lo hi : Option Operand} (l h m : Nat) (ys : List Value) (hx : opv env x = some (.slice A len cap)) (hT : tslice P T' = some (e, s))
    (hlo : (match lo with | none => some (Value.int .i64 0) | some o => opv env o) = some (.int .i64 l)) (hhi : (match hi with | none => some (Value.int .i64 len) | some o => opv env o) = some (.int .i64 h))
    (hm : Mem (.yg m0 (.rd A xs)) Φ) (h1 : l ≤ h) (h2 : h ≤ len) (h3 : len ≤ cap) (hme : h - l = m) (hys : (xs.drop (l * s)).take (m * s) = ys)
    (k : ∀ A' c', c' = cap - l → Jl P r C n ops Q rest ((d, .slice A' m c') :: env) R (.yg m0 (.rd A' ys) :: .rd A' ys :: Φ)) (hd : Nat.blt d n.1 = true := by rfl) :
    Jl P r C n ops Q (⟨some d, .slice T' x lo hi none, T, pos, af, none⟩ :: rest) env R Φ := by
  subst hme hys
  exact Jl.valx hd (by simp) fun a W he hs => by
    have f0 : (Fact.rd A xs).p (fun b => (C.X0 b ∨ ownL R b) ∨ b < m0) W := hs.fact hm
    have f1 : (Fact.yg m0 (.rd _ _)).p (fun b => C.X0 b ∨ ownL R b) W := Dh.slice_rd (len := len) (cap := cap) (s := s) h1 h2 h3 _ _ f0
    exact ⟨_, W, R, _, Dh.slice_run (n := n) rfl he hx hT hlo hhi h1 h2 h3, (hs.add (Fact.yg_p f1)).add f1, k _ _ rfl⟩
end
namespace Dh
theorem JB.sliceY {P : Program} {n : Nat × List Nat} {ops : Array Oper} {env : List (Nat × Value)} {R : List Res} {Φ : List Fact} {ps : List (Nat × Bool)} {es : List (Nat × Al)} {acc : List (Nat × List Res)}
    {k : List (Nat × Value) → List (Nat × Al) → List (Nat × List Res) → List Fact → Prop} {i d : Nat} {T T' : TypeId} {pos : String} {af : Array Edge} {g : Option (Nat × Bool)} {x : Operand}
    {A : Option Addr} {len cap s m0 : Nat} {et : TypeId} {xs : List Value} {lo hi : Option Operand} (l h m : Nat) (ys : List Value) (ho : ops[i]? = some ⟨some d, .slice T' x lo hi none, T, pos, af, g⟩) (hg : OnG ops env g)
    (hx : opv env x = some (.slice A len cap)) (hT : tslice P T' = some (et, s))
    (hlo : (match lo with | none => some (Value.int .i64 0) | some o => opv env o) = some (.int .i64 l)) (hhi : (match hi with | none => some (Value.int .i64 len) | some o => opv env o) = some (.int .i64 h))
    (hm : Mem (.yg m0 (.rd A xs)) Φ) (h1 : l ≤ h) (h2 : h ≤ len) (h3 : len ≤ cap) (hme : h - l = m) (hys : (xs.drop (l * s)).take (m * s) = ys)
    (k' : ∀ A' c', c' = cap - l → JB P n ops R k ps ((d, .slice A' m c') :: env) es acc (.yg m0 (.rd A' ys) :: .rd A' ys :: Φ)) (hd : Nat.blt d n.1 = true := by rfl) : JB P n ops R k ((i, false) :: ps) env es acc Φ := by
  subst hme hys
  exact ⟨_, d, [], acc, _, by rw [ho]; rfl, ⟨_, d, ho, rfl, Nat.le_of_ble_eq_true hd, fun C' a W he hs => by
    rw [if_pos (onG hg he)]
    exact ⟨by simp, slice_run (n := n) rfl he hx hT hlo hhi h1 h2 h3⟩⟩, .inl ⟨rfl, rfl⟩, ⟨[_, _], rfl, fun X W hf φ hφ => by
      have f0 : (Fact.rd A xs).p (fun b => X b ∨ b < m0) W := hf _ hm.mem
      have f1 : (Fact.yg m0 (.rd _ _)).p X W := slice_rd (len := len) (cap := cap) (s := s) h1 h2 h3 _ _ f0
      rcases List.mem_cons.1 hφ with rfl | hφ
      · exact f1
      · obtain rfl : φ = _ := by simpa using hφ
        exact Fact.yg_p (φ := .rd _ _) f1⟩, k' _ _ rfl⟩
end Dh
/-- AN ITERATOR's CONTRACT: as IterX; m: how many blocks there were when the last round ended, K: what the rounds keep, which may grow by what came since. -/
def IterY (P : Program) (gf : Nat) (lb : Array Value) (N : Nat) (encs : Nat → Nat → (Nat → Prop) → Array Value → (Nat → Prop) → World → Prop) (K0 XI : Nat → Prop) (w0 : World) : Prop :=
  ∀ (l : Nat) (J : Nat → Nat → (Nat → Prop) → (Nat → Prop) → World → Prop) (Jx : Nat → (Nat → Prop) → World → Prop) (W : World), w0.heap.size ≤ W.heap.size → (∀ b, K0 b ∨ XI b → W.heap[b]? = w0.heap[b]?) → (∀ k m K, Fr (J k m K)) → Framed Jx → (∀ k m K X W', J k m K X W' → Still w0 W') → (∀ k X W', Jx k X W' → Still w0 W') →
    (∀ k m K1 K2 X vs W1, k < N → J k m K1 X W1 → W.heap.size ≤ m → m ≤ W1.heap.size → (∀ b, K1 b → K2 b) → (∀ b, K2 b → K1 b ∨ (m ≤ b ∧ b < W1.heap.size)) → (∀ b, K2 b → b < W1.heap.size ∧ ¬ X b) → (∀ b, X b → XI b ∨ (W.heap.size ≤ b ∧ b < W1.heap.size)) → encs k m K2 vs X W1 → YieldAt Fence.wide 0 P l vs W1 fun e W' =>
      (e = .returned (.bool true) ∧ J (k + 1) W'.heap.size K2 X W' ∧ W1.heap.size ≤ W'.heap.size ∧ (∀ b, K2 b → W'.heap[b]? = W1.heap[b]?) ∧ (∀ b, X b → W'.heap[b]? = W1.heap[b]?)) ∨ (e = .returned (.bool false) ∧ Jx k X W' ∧ W1.heap.size ≤ W'.heap.size)) →
    J 0 W.heap.size K0 XI W →
    CallsIn Fence.wide 0 P gf (#[.func (.yield l) #[] #[]] ++ lb) W fun e W' => (∃ v, e = .returned v) ∧ ((∃ m K X, J N m K X W') ∨ (∃ k X, k < N ∧ Jx k X W'))
/-- How the body of a round may be left. -/
def roundEndY (K X : Nat → Prop) (In : Nat → World → Prop) (Ix : Code → World → Prop) (W : World) : Exit → Act → World → Prop
  | .normal, _, W' => W.heap.size ≤ W'.heap.size ∧ (∀ b, X b → W'.heap[b]? = W.heap[b]?) ∧ (∀ b, K b → W'.heap[b]? = W.heap[b]?) ∧ In W'.heap.size W'
  | .ret, _, W' => W.heap.size ≤ W'.heap.size ∧ (∀ b, X b → W'.heap[b]? = W.heap[b]?) ∧ Ix .ret W'
  | .exit id, _, W' => W.heap.size ≤ W'.heap.size ∧ (∀ b, X b → W'.heap[b]? = W.heap[b]?) ∧ Ix (.exit id) W'
  | .goto t, _, W' => W.heap.size ≤ W'.heap.size ∧ (∀ b, X b → W'.heap[b]? = W.heap[b]?) ∧ Ix (.goto t) W'
  | .panic _, _, _ => False
  | .outgrown, _, _ => False
def afterAssignY (P : Program) (K X : Nat → Prop) (In : Nat → World → Prop) (Ix : Code → World → Prop) (l : Nat) (body : Code) (W : World) (a₁ : Act) (W₁ : World) : Prop :=
  W.heap.size ≤ W₁.heap.size ∧ (∀ b, X b ∨ K b → W₁.heap[b]? = W.heap[b]?) ∧
    ∀ W₂, Turned l W₁ W₂ → Foreign X W₁ W₂ → body.wpIn (Fence.wide.inRound l) 0 P (roundEndY K X In Ix W₂) a₁ W₂
/-- THE STATEMENT 'for .. := range g { .. }' outside every round. -/
theorem wpIn_rangeY {P : Program} {g : Operand} {ps : Array Tmp} {assign body : Code} {Q : Exit → Act → World → Prop} {a : Act} {w : World}
    (D : Nat) (hD : w.heap.size = D) {gf : Nat} {lb : Array Value} (hg : a.eval g = .func (.func gf) #[] lb) (eg : ∀ args w, (callFunc gf args).run P w = .ok (.enter gf args) w)
    {N : Nat} {encs : Nat → Nat → (Nat → Prop) → Array Value → (Nat → Prop) → World → Prop} {K XI : Nat → Prop} (hit : IterY P gf lb N encs K XI w)
    (hK : ∀ b, K b → b < w.heap.size) (hXI : ∀ b, XI b → b < w.heap.size)
    (hps : ∀ k m K vs X W, encs k m K vs X W → vs.size = ps.size)
    (I : Nat → Nat → (Nat → Prop) → (Nat → Prop) → World → Prop) (Ix : Code → Nat → (Nat → Prop) → World → Prop) (hI : ∀ k m K, Fr (I k m K)) (hIx : ∀ c, Framed (Ix c)) (hIs : ∀ k m K X W, I k m K X W → Still w W) (hIxs : ∀ c k X W, Ix c k X W → Still w W) (h0 : I 0 (w.heap.size + 2) K XI w)
    (hround : ∀ l k m K1 K2 X vs W, k < N → l = D + 1 → I k m K1 (ext X D) W → D + 2 ≤ m → m ≤ W.heap.size → (∀ b, K1 b → K2 b) → (∀ b, K2 b → K1 b ∨ (m ≤ b ∧ b < W.heap.size)) → (∀ b, K2 b → b < W.heap.size ∧ ¬ ext X D b) → (∀ b, X b → XI b ∨ (D + 2 ≤ b ∧ b < W.heap.size)) → D + 2 ≤ W.heap.size →
      encs k m K2 vs X W →
      assign.wpIn (Fence.wide.inRound l) 0 P (Exit.then (afterAssignY P K2 (ext X D) (fun m W => I (k + 1) m K2 (ext X D) W) (fun c W => Ix c k (ext X D) W) l body W) (fun _ _ _ => False))
        { tmps := (ps.zip vs).foldl (fun t (p, v) => t.setIfInBounds p v) a.tmps, defers := [] } W)
    (hdone : ∀ (m : Nat) (K X : Nat → Prop) (W : World), (∀ b, X b → XI b ∨ D ≤ b) → X D → I N m K X W → W.heap[D]? = some (.deferred (some [])) →
      Q .normal { a with defers := { target := .collected D, args := #[] } :: a.defers } W)
    (hstop : ∀ (c : Code) (k : Nat) (X : Nat → Prop) (W : World), k < N → (∀ b, X b → XI b ∨ D ≤ b) → X D → Ix c k X W → W.heap[D]? = some (.deferred (some [])) →
      c.wpIn Fence.wide 0 P Q { a with defers := { target := .collected D, args := #[] } :: a.defers } W) :
    (Code.rangeFunc g ps assign body).wpIn Fence.wide 0 P Q a w := by
  refine wpIn_rangeFunc ?_
  intro fn hfn
  rw [Fence.wide_round]
  replace hD := hD.symm
  obtain ⟨rec, hrec⟩ : ∃ rec : LoopState → Option Code → Loop, rec = fun st pe => { state := st, pending := pe, fn, tmps := a.tmps, params := ps, assign, body, defers := D } := ⟨_, rfl⟩
  obtain ⟨W1, hW1⟩ : ∃ W1, (w.alloc (.deferred (some []))).alloc (.loop (rec .ready none)) = W1 := ⟨_, rfl⟩
  have hz1 : W1.heap.size = D + 2 := by rw [← hW1, hD]; simp
  have hL1 : W1.heap[D + 1]? = some (.loop (rec .ready none)) := by
    rw [← hW1, hD]; have := World.alloc_heap_new (w.alloc (.deferred (some []))) (.loop (rec .ready none)); rwa [World.size_alloc] at this
  have hD1 : W1.heap[D]? = some (.deferred (some [])) := by
    rw [← hW1, hD]; exact (Below.heap_alloc _ _ _ (by simp)).trans (World.alloc_heap_new w _)
  have hold : ∀ b, b < D → W1.heap[b]? = w.heap[b]? := fun b hb => by
    rw [← hW1]; exact (Below.heap_alloc _ _ _ (by simp; omega)).trans (Below.heap_alloc _ _ _ (by omega))
  have hf1 : Foreign (fun _ => False) w W1 := by rw [← hW1]; exact (Foreign.alloc _ w _).trans (Foreign.alloc _ _ _)
  have hI1 : I 0 (D + 2) K (ext XI D) W1 := hI 0 _ _ _ _ w W1 (by rw [hD]; exact h0) (⟨hf1.os, hf1.tape, hf1.output, hf1.size, fun b hb _ => hf1.block b hb id⟩) (fun b hb => by
    rcases hb with hb | hb | hb
    · exact .inl hb
    · exact .inr ⟨by omega, by omega⟩
    · exact .inr ⟨by omega, by omega⟩)
  refine ⟨D + 1, [{ target := .collected D, args := #[] }], W1, { target := .fn (.func gf) lb, args := #[.func (.yield (D + 1)) #[] #[]] }, W1, gf,
    #[.func (.yield (D + 1)) #[] #[]] ++ lb, W1, ?_, ?_, ?_, ?_, fun h => by simp [Fence.wide] at h, ?_⟩
  · rw [← hW1, hrec, hD]; exact run_enterLoop_outer _ _ _ _ _
  · simp only [resolve, hg]
    simp [go_sem]
  · intro f' _; trivial
  · simp [invoke, go_sem, eg]
  · have hext : ∀ {X X' : Nat → Prop} {W W' : World}, (∀ b, X' b → X b ∨ (W.heap.size ≤ b ∧ b < W'.heap.size)) → ∀ b, ext X' D b → ext X D b ∨ (W.heap.size ≤ b ∧ b < W'.heap.size) := by
      intro X X' W W' h b hb
      rcases hb with hb | hb | hb
      · rcases h b hb with h | h
        · exact .inl (.inl h)
        · exact .inr h
      · exact .inl (.inr (.inl hb))
      · exact .inl (.inr (.inr hb))
    have hfor : ∀ {X : Nat → Prop} {W W' : World}, Foreign X W W' → Foreign (ext X D) W W' := fun h => ⟨h.os, h.tape, h.output, h.size, fun b hb hx => h.block b hb (fun e => hx (.inl e))⟩
    refine CallsIn.mono (hit (D + 1)
      (fun k m K X W => I k m K (ext X D) W ∧ W.heap[D + 1]? = some (.loop (rec .ready none)) ∧ W.heap[D]? = some (.deferred (some [])) ∧ ¬ X D ∧ ¬ X (D + 1) ∧ ¬ K D ∧ ¬ K (D + 1))
      (fun k X W => ∃ c, Ix c k (ext X D) W ∧ W.heap[D + 1]? = some (.loop (rec .done (some c))) ∧ W.heap[D]? = some (.deferred (some [])) ∧ ¬ X D ∧ ¬ X (D + 1))
      W1 (by omega) (fun b hb => hold b (hb.elim (fun h => by have := hK b h; omega) (fun h => by have := hXI b h; omega))) ?_ ?_ (fun k m K X W h => hIs k m K _ W h.1) (fun k X W ⟨c, h, _⟩ => hIxs c k _ W h) ?_ (by rw [hz1]; exact ⟨hI1, hL1, hD1, fun h => by have := hXI _ h; omega, fun h => by have := hXI _ h; omega, fun h => by have := hK _ h; omega, fun h => by have := hK _ h; omega⟩)) ?_
    · -- framed: while the rounds go on
      rintro k m K X X' W W' ⟨h1, h2, h3, h4, h5, h6⟩ hf hx
      have hl2 := (Array.getElem?_eq_some_iff.1 h2).1
      exact ⟨hI k _ _ _ _ W W' h1 (hfor hf) (hext hx), (hf.block _ hl2 h5).trans h2, (hf.block _ (by omega) h4).trans h3,
        fun h => (hx _ h).elim h4 (fun h => by omega), fun h => (hx _ h).elim h5 (fun h => by omega), h6⟩
    · rintro k X X' W W' ⟨c, h1, h2, h3, h4, h5⟩ hf hx
      have hl2 := (Array.getElem?_eq_some_iff.1 h2).1
      exact ⟨c, hIx c k _ _ W W' h1 (hfor hf) (hext hx), (hf.block _ hl2 h5).trans h2, (hf.block _ (by omega) h4).trans h3,
        fun h => (hx _ h).elim h4 (fun h => by omega), fun h => (hx _ h).elim h5 (fun h => by omega)⟩
    · -- one round
      rintro k m K1 K2 X vs W hk ⟨hi, hl, hd, hx1, hx2, hk1, hk2⟩ hm0 hm hKK hKy hKX hX henc
      have hlt : D + 1 < W.heap.size := (Array.getElem?_eq_some_iff.1 hl).1
      have hy := run_yield (P := P) (args := vs) hl (by rw [hrec]; exact hps k m K2 vs X W henc)
      rw [hrec] at hy
      refine ⟨fn, _, assign, body, hy, roundIn_of_wpIn hfn ?_⟩
      have hK2D : ∀ b, K2 b → b ≠ D ∧ b ≠ D + 1 := fun b hb => (hKy b hb).elim (fun h => ⟨fun e => hk1 (e ▸ h), fun e => hk2 (e ▸ h)⟩) fun h => by omega
      refine wpIn_mono (hround (D + 1) k m K1 K2 X vs W hk rfl hi (by omega) hm hKK hKy (fun b hb => ⟨(hKX b hb).1, fun h => h.elim (hKX b hb).2 fun h => h.elim (hK2D b hb).1 (hK2D b hb).2⟩) (fun b hb => (hX b hb).imp id fun h => by omega) (by omega) henc) ?_
      rintro e a₁ W₁ hp
      cases e with
      | normal =>
        obtain ⟨hs1, hsame1, hb⟩ := hp
        have hl1 : W₁.heap[D + 1]? = some (.loop (rec .ready none)) := (hsame1 _ (.inl (.inr (.inr rfl)))).trans hl
        have hd1 : W₁.heap[D]? = some (.deferred (some [])) := (hsame1 _ (.inl (.inr (.inl rfl)))).trans hd
        refine ⟨_, run_beginRound hl1 (by rw [hrec]), ?_⟩
        obtain ⟨W₂, hW2⟩ : ∃ W₂, W₁.putObj (D + 1) (.loop { rec .ready none with state := .busy }) = W₂ := ⟨_, rfl⟩
        rw [hW2]
        have hl2 : W₂.heap[D + 1]? = some (.loop { rec .ready none with state := .busy }) := by rw [← hW2]; exact World.putObj_heap_same (Array.getElem?_eq_some_iff.1 hl1).1
        have hd2 : W₂.heap[D]? = some (.deferred (some [])) := by rw [← hW2]; exact (World.putObj_heap_other (by omega)).trans hd1
        have hsz2 : W₂.heap.size = W₁.heap.size := by rw [← hW2]; simp
        have hoth : ∀ b, b ≠ D + 1 → W₂.heap[b]? = W₁.heap[b]? := fun b hb => by rw [← hW2]; exact World.putObj_heap_other hb
        refine wpIn_mono (hb W₂ (by rw [← hW2]; exact turned_putObj hl1 rfl rfl) (by rw [← hW2]; exact Foreign.putObj _ (.inr (.inr rfl)))) ?_
        have fin : ∀ (jump : Option Code) (W3 : World), (∀ b, ext X D b → W3.heap[b]? = W₂.heap[b]?) → W₂.heap.size ≤ W3.heap.size →
            (Instr.endRound (D + 1) jump).run P W3 = .ok (.bool jump.isNone) (W3.putObj (D + 1) (.loop (rec (if jump.isNone then .ready else .done) jump))) ∧
            (W3.putObj (D + 1) (.loop (rec (if jump.isNone then .ready else .done) jump))).heap[D + 1]? = some (.loop (rec (if jump.isNone then .ready else .done) jump)) ∧
            (W3.putObj (D + 1) (.loop (rec (if jump.isNone then .ready else .done) jump))).heap[D]? = some (.deferred (some [])) := fun jump W3 hk3 hs3 => by
          have hl3 := (hk3 (D + 1) (.inr (.inr rfl))).trans hl2
          have := run_endRound (P := P) jump hl3
          rw [hrec] at this ⊢
          exact ⟨this, World.putObj_heap_same (Array.getElem?_eq_some_iff.1 hl3).1, (World.putObj_heap_other (by omega)).trans ((hk3 D (.inr (.inl rfl))).trans hd2)⟩
        rintro e a3 W3 hp3
        cases e with
        | normal =>
          obtain ⟨hs3, hx3, hk3, hi3⟩ := hp3
          obtain ⟨hr, hl4, hd4⟩ := fin none W3 hx3 hs3
          refine ⟨_, _, hr, .inl ⟨rfl, ⟨by rw [show (W3.putObj (D + 1) (.loop (rec (if (none : Option Code).isNone then .ready else .done) none))).heap.size = W3.heap.size by simp]; exact hI (k + 1) _ _ _ _ W3 _ hi3 (Foreign.putObj _ (.inr (.inr rfl))) (fun b hb => .inl hb), hl4, hd4, hx1, hx2, fun h => (hK2D D h).1 rfl, fun h => (hK2D _ h).2 rfl⟩, by simp; omega, fun b hb => ?_, fun b hb => ?_⟩⟩
          · have hbD := hK2D b hb
            exact (World.putObj_heap_other hbD.2).trans ((hk3 b hb).trans ((hoth b hbD.2).trans (hsame1 b (.inr hb))))
          · have hne : b ≠ D + 1 := fun e => hx2 (e ▸ hb)
            exact (World.putObj_heap_other hne).trans ((hx3 b (.inl hb)).trans ((hoth b hne).trans (hsame1 b (.inl (.inl hb)))))
        | ret =>
          obtain ⟨hs3, hx3, hi3⟩ := hp3
          obtain ⟨hr, hl4, hd4⟩ := fin (some .ret) W3 hx3 hs3
          exact ⟨_, _, hr, .inr ⟨rfl, ⟨.ret, hIx _ k _ _ W3 _ hi3 (Foreign.putObj _ (.inr (.inr rfl))) (fun b hb => .inl hb), hl4, hd4, hx1, hx2⟩, by simp; omega⟩⟩
        | exit id =>
          obtain ⟨hs3, hx3, hi3⟩ := hp3
          obtain ⟨hr, hl4, hd4⟩ := fin (some (.exit id)) W3 hx3 hs3
          exact ⟨_, _, hr, .inr ⟨rfl, ⟨.exit id, hIx _ k _ _ W3 _ hi3 (Foreign.putObj _ (.inr (.inr rfl))) (fun b hb => .inl hb), hl4, hd4, hx1, hx2⟩, by simp; omega⟩⟩
        | goto t =>
          obtain ⟨hs3, hx3, hi3⟩ := hp3
          obtain ⟨hr, hl4, hd4⟩ := fin (some (.goto t)) W3 hx3 hs3
          exact ⟨_, _, hr, .inr ⟨rfl, ⟨.goto t, hIx _ k _ _ W3 _ hi3 (Foreign.putObj _ (.inr (.inr rfl))) (fun b hb => .inl hb), hl4, hd4, hx1, hx2⟩, by simp; omega⟩⟩
        | panic ch => exact hp3.elim
        | outgrown => exact hp3.elim
      | ret => exact hp.elim
      | exit id => exact hp.elim
      | goto t => exact hp.elim
      | panic ch => exact hp.elim
      | outgrown => exact hp.elim
    · -- behind the iterator
      rintro e W2 ⟨⟨v, rfl⟩, (⟨m, K, X, hi, hl, hd, hx1, hx2, _⟩ | ⟨k, X, hk, c, hi, hl, hd, hx1, hx2⟩)⟩
      · have hle : ∀ b, ext X D b ∧ (XI b ∨ D ≤ b) → XI b ∨ D ≤ b := fun b h => h.2
        refine ⟨none, _, by have := run_endLoop (P := P) hl (by rw [hrec]; simp); rw [hrec] at this; exact this, ?_⟩
        have hi' := hI N m K _ (fun b => ext X D b ∧ (XI b ∨ D ≤ b)) W2 (W2.putObj (D + 1) (.loop { rec .ready none with state := .exhausted })) hi (Foreign.putObj _ (.inr (.inr rfl))) (fun b hb => .inl hb.1)
        rw [hrec] at hi'
        exact hdone m K (fun b => ext X D b ∧ (XI b ∨ D ≤ b)) _ hle ⟨.inr (.inl rfl), .inr (Nat.le_refl _)⟩ hi' ((World.putObj_heap_other (by omega)).trans hd)
      · have hle : ∀ b, ext X D b ∧ (XI b ∨ D ≤ b) → XI b ∨ D ≤ b := fun b h => h.2
        refine ⟨some c, _, by have := run_endLoop (P := P) hl (by rw [hrec]; simp); rw [hrec] at this; exact this, ?_⟩
        have hi' := hIx c k _ (fun b => ext X D b ∧ (XI b ∨ D ≤ b)) W2 (W2.putObj (D + 1) (.loop { rec .done (some c) with state := .exhausted })) hi (Foreign.putObj _ (.inr (.inr rfl))) (fun b hb => .inl hb.1)
        rw [hrec] at hi'
        exact hstop c k (fun b => ext X D b ∧ (XI b ∨ D ≤ b)) _ hk hle ⟨.inr (.inl rfl), .inr (Nat.le_refl _)⟩ hi' ((World.putObj_heap_other (by omega)).trans hd)


/-- An iterator: it calls yield N times, the k-th time with values vals k y, of which posts k y says more. -/
def ItY (P : Program) (gf : Nat) (lb : List Value) (Rit : List Res) (pre : List Fact) (N : Nat) {Y : Type} (vals : Nat → Y → List Value) (posts : Nat → Y → List Fact) : Prop :=
  ∀ (X : Nat → Prop) w0, (∀ b, X b → b < w0.heap.size) → Sep X w0 Rit → (∀ φ ∈ pre, φ.p (fun b => X b ∨ ownL Rit b) w0) →
    ∃ K : Nat → Prop, (∀ b, K b → b < w0.heap.size ∧ ¬ X b ∧ ¬ ownL Rit b) ∧ IterY P gf lb.toArray N (fun k _ K vs _ W => ∃ y, vs = (vals k y).toArray ∧ ∀ φ ∈ posts k y, φ.p (fun b => b < W.heap.size ∧ ¬ K b) W) K (ownL Rit) w0
section
variable {σ τ : Type} {Inv : Nat → σ → Prop} {Rs : σ → List Res} {Φs : σ → List Fact} {InvX : Code → Nat → τ → Prop} {RsX : τ → List Res} {ΦsX : τ → List Fact}
/-- THE STATEMENT 'for .. := range g { .. }'. -/
theorem Jc.rangeY {P : Program} {C : Cx} {n : Nat × List Nat} {Q : Exit → Act → World → Prop} {env : List (Nat × Value)} {R R' : List Res} {Φ : List Fact} {g : Operand} {ps : Array Tmp} {assign body : Code} {gf : Nat} {lb : List Value} {Rit : List Res} {pre : List Fact} {N : Nat} {Y : Type} {vals : Nat → Y → List Value} {posts : Nat → Y → List Fact}
    (hg : opv env g = some (.func (.func gf) #[] lb.toArray)) (eg : ∀ args w, (callFunc gf args).run P w = .ok (.enter gf args) w) (hit : ItY P gf lb Rit pre N vals posts) (ht : Take Rit R R') (hp : FSub pre Φ)
    (hps : ∀ k y, (vals k y).length = ps.toList.length) (hpn : (ps.toList.all fun p => Nat.blt p n.1) = true) (s0 : σ) (h0 : Inv 0 s0) (hr0 : Rs s0 = R') (hf0 : FSub (Φs s0) Φ)
    (round : ∀ k s y, k < N → Inv k s → ∀ (l : Nat) (C1 : Cx), Jc P (some l) C1 (n.1, []) (AQ Inv Rs Φs InvX RsX ΦsX P l C1 n.1 k body) assign (psetL ps.toList (vals k y) env) (Rs s) (posts k y ++ Φs s))
    (done : ∀ s D, Inv N s → Jq C (n.1, D :: n.2) Q .normal env (.mark D :: Rs s) (Φs s))
    (stop : ∀ c k t D, k < N → InvX c k t → Jc P none C (n.1, D :: n.2) Q c env (.mark D :: RsX t) (ΦsX t)) : Jc P none C n Q (.rangeFunc g ps assign body) env R Φ := fun a W he hs => by
  obtain ⟨q1, q2⟩ := ht.sep hs.sep
  obtain ⟨K, hK, hiter⟩ := hit (fun b => C.X0 b ∨ ownL R' b) W (fun b hb => hb.elim (hs.x0 b) (q2.lt b)) q1 (fun φ hφ => φ.fr _ _ W W (hs.facts φ (hp.mem φ hφ)) (Foreign.refl _ _) fun b hb => .inl (by
    rcases hb with (h | h) | h
    · exact .inl h
    · exact .inr ((ht.own b).2 (.inr h))
    · exact .inr ((ht.own b).2 (.inl h))))
  have hsz := hs.ev.size
  subst hr0
  refine wpIn_rangeY W.heap.size rfl (he.eval hg) eg hiter (fun b hb => (hK b hb).1) (fun b hb => q1.lt b hb) (fun k m K vs X W' ⟨y, h, _⟩ => by subst h; simpa using hps k y)
    (fun k m K X W => ∃ s, Inv k s ∧ Sat ⟨fun b => C.X0 b ∨ X b, C.M0, C.W0⟩ (Rs s) (Φs s) W ∧ (∀ b, X b → C.M0 b ∨ C.W0.heap.size ≤ b) ∧ ∀ b, C.X0 b ∨ ownL (Rs s) b → ¬ K b ∧ b < m)
    (fun c k X W => ∃ t, InvX c k t ∧ Sat ⟨fun b => C.X0 b ∨ X b, C.M0, C.W0⟩ (RsX t) (ΦsX t) W ∧ ∀ b, X b → C.M0 b ∨ C.W0.heap.size ≤ b) ?_ ?_ (fun k m K X W ⟨s, _, h1, _⟩ => ⟨h1.ev.os.trans hs.ev.os.symm, h1.ev.tape.trans hs.ev.tape.symm, h1.ev.output.trans hs.ev.output.symm⟩) (fun c k X W ⟨t, _, h1, _⟩ => ⟨h1.ev.os.trans hs.ev.os.symm, h1.ev.tape.trans hs.ev.tape.symm, h1.ev.output.trans hs.ev.output.symm⟩) ?_ ?_ ?_ ?_
  · rintro k m K X X' W1 W2 ⟨s, hi, h1, h2, h3⟩ hf hx
    exact ⟨s, hi, frame h1 h2 hf hx, fun b hb => (hx b hb).elim (h2 b) fun h => .inr (Nat.le_trans h1.ev.size h.1), h3⟩
  · rintro c k X X' W1 W2 ⟨t, hi, h1, h2⟩ hf hx
    exact ⟨t, hi, frame h1 h2 hf hx, fun b hb => (hx b hb).elim (h2 b) fun h => .inr (Nat.le_trans h1.ev.size h.1)⟩
  · refine ⟨s0, h0, ⟨hs.ev, q2.more' fun b hb h => h.elim (fun h => q2.notX b hb h) fun h => q1.notX b h (.inr hb), fun b hb => hs.ours b ((ht.own b).2 (.inr hb)), fun b hb => hb.elim (hs.x0 b) (q1.lt b), fun φ hφ => ?_⟩, fun b hb => hs.ours b ((ht.own b).2 (.inl hb)), fun b hb => ⟨fun hk => (hK b hk).2.1 hb, by have : b < W.heap.size := hb.elim (hs.x0 b) (q2.lt b); omega⟩⟩
    exact φ.fr _ _ W W (hs.facts φ (hf0.mem φ hφ)) (Foreign.refl _ _) fun b hb => .inl (by
      rcases hb with (h | h) | h
      · exact .inl h
      · exact .inr ((ht.own b).2 (.inl h))
      · exact .inr ((ht.own b).2 (.inr h)))
  · rintro l k m K1 K2 X vs W1 hk rfl ⟨s, hi, h1, h2, h3⟩ hm0 hm hKK hKy hKX hX hsz1 ⟨y, rfl, hposts⟩
    have henv : Env (n.1, []) (psetL ps.toList (vals k y) env) { tmps := (ps.zip (vals k y).toArray).foldl (fun t (x : Tmp × Value) => t.setIfInBounds x.1 x.2) a.tmps, defers := [] } := by
      have := Env.pset (m := n.1) (ps := ps.toList) (vs := vals k y) (env := env) (t := a.tmps) ⟨rfl, he.size, he.at_⟩ hpn
      rw [← Array.foldl_toList, Array.toList_zip]
      exact this
    have h3' : ∀ b, C.X0 b ∨ ownL (Rs s) b → ¬ K2 b := fun b hb hk2 => (hKy b hk2).elim (h3 b hb).1 fun h => by have := (h3 b hb).2; omega
    have hb1 : Sat ⟨fun b => C.X0 b ∨ ext X W.heap.size b, ownL (Rs s), W1⟩ (Rs s) (posts k y ++ Φs s) W1 := by
      have hb0 := h1.rebase
      refine ⟨hb0.ev, hb0.sep, hb0.ours, hb0.x0, fun φ hφ => ?_⟩
      rcases List.mem_append.1 hφ with hφ | hφ
      · refine φ.fr _ _ W1 W1 (hposts φ hφ) (Foreign.refl _ _) fun b hb => .inl ?_
        rcases hb with (hb | hb) | hb
        · exact ⟨h1.x0 b (.inl hb), h3' b (.inl hb)⟩
        · exact ⟨h1.x0 b (.inr hb), fun h => (hKX b h).2 hb⟩
        · exact ⟨h1.sep.lt b hb, h3' b (.inr hb)⟩
      · exact hb0.facts φ hφ
    refine wpIn_mono (round k s y hk hi (W.heap.size + 1) _ _ W1 henv hb1) fun e a1 W2 hq => ?_
    cases e with
    | normal =>
      obtain ⟨env1, R1, Φ1, he1, hs1, hbody⟩ := hq
      have hX1 : ∀ b, ext X W.heap.size b → b < W1.heap.size ∧ ¬ ownL (Rs s) b := fun b hb => ⟨h1.x0 b (.inr hb), fun ho => h1.sep.notX b ho (.inr hb)⟩
      have hK1 : ∀ b, K2 b → b < W1.heap.size ∧ ¬ ownL (Rs s) b := fun b hb => ⟨(hKX b hb).1, fun ho => h3' b (.inr ho) hb⟩
      refine ⟨hs1.ev.size, fun b hb => hb.elim (fun h => hs1.ev.block b (hX1 b h).1 (hX1 b h).2) (fun h => hs1.ev.block b (hK1 b h).1 (hK1 b h).2), fun W3 hT hF => ?_⟩
      have hsA := h1.compose (Φ' := Φ1) hs1
      have hf3 : Foreign (fun b => b = W.heap.size + 1) W2 W3 := ⟨hF.os, hF.tape, hF.output, Nat.le_of_eq hT.size.symm, fun b _ hne => hT.block b hne⟩
      have hsB := hsA.turn hf3 (fun b hb => by subst hb; exact ⟨.inr (.inr (.inr rfl)), by have := h1.ev.size; show C.W0.heap.size ≤ _; omega⟩)
      have hsz3 := hT.size
      have hown1 : ∀ b, ownL R1 b → ownL (Rs s) b ∨ W1.heap.size ≤ b := hs1.ours
      have hX3 : ∀ b, ext X W.heap.size b → b < W3.heap.size ∧ ¬ ownL R1 b := fun b hb => ⟨hsB.x0 b (.inr hb), fun ho => hsB.sep.notX b ho (.inr hb)⟩
      have h9 : W1.heap.size ≤ W2.heap.size := hs1.ev.size
      have hK3 : ∀ b, K2 b → b < W3.heap.size ∧ ¬ ownL R1 b := fun b hb => ⟨by have := (hKX b hb).1; omega, fun ho => (hown1 b ho).elim (fun h => h3' b (.inr h) hb) fun h => by have := (hKX b hb).1; omega⟩
      refine wpIn_mono (hbody ⟨fun b => C.X0 b ∨ ext X W.heap.size b, ownL R1, W3⟩ a1 W3 he1 hsB.rebase) fun e a4 W4 hq4 => ?_
      cases e with
      | normal =>
        obtain ⟨s', hi', hs4⟩ := hq4
        refine ⟨hs4.ev.size, fun b hb => hs4.ev.block b (hX3 b hb).1 (hX3 b hb).2, fun b hb => hs4.ev.block b (hK3 b hb).1 (hK3 b hb).2, s', hi', hsB.compose hs4, h2, fun b hb => ⟨fun hk => ?_, ?_⟩⟩
        · rcases hb with hb | hb
          · exact h3' b (.inl hb) hk
          · exact (hs4.ours b hb).elim (fun h => (hK3 b hk).2 h) fun h => by have h5 : W3.heap.size ≤ b := h; have := (hK3 b hk).1; omega
        · rcases hb with hb | hb
          · have h5 : W3.heap.size ≤ W4.heap.size := hs4.ev.size
            have := h1.x0 b (.inl hb)
            omega
          · exact hs4.sep.lt b hb
      | ret =>
        obtain ⟨t, hi', hs4⟩ := hq4
        exact ⟨hs4.ev.size, fun b hb => hs4.ev.block b (hX3 b hb).1 (hX3 b hb).2, t, hi', hsB.compose hs4, h2⟩
      | exit id =>
        obtain ⟨t, hi', hs4⟩ := hq4
        exact ⟨hs4.ev.size, fun b hb => hs4.ev.block b (hX3 b hb).1 (hX3 b hb).2, t, hi', hsB.compose hs4, h2⟩
      | goto l =>
        obtain ⟨t, hi', hs4⟩ := hq4
        exact ⟨hs4.ev.size, fun b hb => hs4.ev.block b (hX3 b hb).1 (hX3 b hb).2, t, hi', hsB.compose hs4, h2⟩
      | panic ch => exact hq4.elim
      | outgrown => exact hq4.elim
    | ret => exact hq.elim
    | exit id => exact hq.elim
    | goto l => exact hq.elim
    | panic ch => exact hq.elim
    | outgrown => exact hq.elim
  · rintro m K X W1 hXle hXD ⟨s, hi, h1, h2, h3⟩ hD
    exact done s W.heap.size hi _ W1 ⟨by simp [he.defers], he.size, he.at_⟩ (marked h1 hXD hD (fun h => absurd (hs.x0 _ h) (Nat.lt_irrefl _)) hsz)
  · rintro c k X W1 hk hXle hXD ⟨t, hi, h1, h2⟩ hD
    exact stop c k t W.heap.size hk hi _ W1 ⟨by simp [he.defers], he.size, he.at_⟩ (marked h1 hXD hD (fun h => absurd (hs.x0 _ h) (Nat.lt_irrefl _)) hsz)
end
/-- The client, k rounds on, the last of which ended with m blocks; Φk: what is known of the memory that the rounds keep. -/
def Fact.clY (J : Nat → Nat → (Nat → Prop) → (Nat → Prop) → World → Prop) (hJ : ∀ k m K, Fr (J k m K)) (K0 XI : Nat → Prop) (w0 W0 : World) (k m : Nat) (Φk : List Fact) : Fact where
  p := fun X W => ∃ K, J k m K X W ∧ (∀ b, K0 b → K b) ∧ (∀ b, K0 b → W.heap[b]? = w0.heap[b]?) ∧ (∀ b, K b → b < W.heap.size ∧ ¬ X b) ∧ W0.heap.size ≤ m ∧ m ≤ W.heap.size ∧ (∀ b, X b → XI b ∨ (W0.heap.size ≤ b ∧ b < W.heap.size)) ∧ ∀ φ ∈ Φk, φ.p (fun b => b < W.heap.size ∧ ¬ K b) W
  fr := fun X X' W W' ⟨K, h1, h2, h3, h4, h5, h6, h7, h8⟩ hf hx => ⟨K, hJ k m K X X' W W' h1 hf hx, h2, fun b hb => (hf.block b (h4 b (h2 b hb)).1 (h4 b (h2 b hb)).2).trans (h3 b hb),
    fun b hb => ⟨Nat.lt_of_lt_of_le (h4 b hb).1 hf.size, fun hX => (hx b hX).elim (h4 b hb).2 fun h => by have := (h4 b hb).1; omega⟩, h5, Nat.le_trans h6 hf.size,
    fun b hb => (hx b hb).elim (fun h => (h7 b h).imp id fun h => ⟨h.1, Nat.lt_of_lt_of_le h.2 hf.size⟩) fun h => .inr ⟨by omega, h.2⟩,
    fun φ hφ => φ.fr _ _ W W' (h8 φ hφ) ⟨hf.os, hf.tape, hf.output, hf.size, fun b hb hn => hf.block b hb fun hX => hn ⟨hb, fun hk => (h4 b hk).2 hX⟩⟩ fun b hb => by
      by_cases h : b < W.heap.size
      · exact .inl ⟨h, hb.2⟩
      · exact .inr ⟨by omega, hb.1⟩⟩
/-- What may be said of a call of yield. -/
def YieldsY (P : Program) (W0 : World) (l : Nat) (cl : Nat → Nat → List Fact → Fact) (clx : Nat → Fact) (pre : List Fact) (N : Nat) {Y : Type} (vals : Nat → Y → List Value) (posts : Nat → Y → List Fact) : Prop :=
  ∀ (n : Nat × List Nat) (ops : Array Oper) (Q : Exit → Act → World → Prop) (rest : List Oper) (env : List (Nat × Value)) (R : List Res) (Φ : List Fact) (d : Nat) (T : TypeId) (pos : String) (af : Array Edge) (x : Operand) (as : Array Operand) (ts : Array TypeId) (k m : Nat) (y : Y) (Φk ψs : List Fact),
    k < N → opv env x = some (.func (.yield l) #[] #[]) → opvs env as.toList = some (vals k y) → Mem (cl k m Φk) Φ → FSub (ψs.map (Fact.yg m)) Φ → (∀ φ ∈ posts k y, φ ∈ ψs ++ Φk ++ pre) → Nat.blt d n.1 = true →
    (∀ m', Jl P none (CI W0) n ops Q rest ((d, .bool true) :: env) R (cl (k + 1) m' (ψs ++ Φk) :: .sz m' :: (ψs ++ Φk ++ pre))) → Jl P none (CI W0) n ops Q rest ((d, .bool false) :: env) [] [clx k] →
    Jl P none (CI W0) n ops Q (⟨some d, .call { callee := .value x, args := as, argTypes := ts }, T, pos, af, none⟩ :: rest) env R Φ
/-- The end of an iterator. -/
def IQY (cl : Nat → Nat → List Fact → Fact) (clx : Nat → Fact) (N : Nat) : Exit → Act → World → Prop
  | .normal, a, W => a.defers = [] ∧ ((∃ m Φk X, (cl N m Φk).p X W) ∨ ∃ k X, k < N ∧ (clx k).p X W)
  | .ret, a, W => a.defers = [] ∧ ((∃ m Φk X, (cl N m Φk).p X W) ∨ ∃ k X, k < N ∧ (clx k).p X W)
  | _, _, _ => False
theorem Jq.itDoneY {cl : Nat → Nat → List Fact → Fact} {clx : Nat → Fact} {N m m' : Nat} {Φk : List Fact} {C : Cx} {env : List (Nat × Value)} {R : List Res} {Φ : List Fact} {e : Exit} (he : e = .ret ∨ e = .normal) (hm : Mem (cl N m' Φk) Φ) : Jq C (m, []) (IQY cl clx N) e env R Φ := fun a W h1 h2 => by
  rcases he with rfl | rfl <;> exact ⟨h1.defers, .inl ⟨_, _, _, h2.fact hm⟩⟩
theorem Jq.itStopY {cl : Nat → Nat → List Fact → Fact} {clx : Nat → Fact} {N m k : Nat} {C : Cx} {env : List (Nat × Value)} {R : List Res} {Φ : List Fact} {e : Exit} (he : e = .ret ∨ e = .normal) (hk : k < N) (hm : Mem (clx k) Φ) : Jq C (m, []) (IQY cl clx N) e env R Φ := fun a W h1 h2 => by
  rcases he with rfl | rfl <;> exact ⟨h1.defers, .inr ⟨k, _, hk, h2.fact hm⟩⟩
theorem ItY.of {P : Program} {gf : Nat} {fn : Func} {c : Code} {lb : List Value} {Rit : List Res} {pre : List Fact} {N : Nat} {Y : Type} {vals : Nat → Y → List Value} {posts : Nat → Y → List Fact} (nt : Nat) (hf : P.funcs[gf]? = some fn) (hnt : fn.ntmps = nt) (hb : fn.body = some c) (hres : fn.results = #[]) (hn : Nat.ble (lb.length + 1) nt = true)
    (hold : ∀ φ ∈ pre, φ.Old)
    (h : ∀ (W : World) (l : Nat) (cl : Nat → Nat → List Fact → Fact) (clx : Nat → Fact), YieldsY P W l cl clx pre N vals posts → Jc P none (CI W) (nt, []) (IQY cl clx N) c (envOf (.func (.yield l) #[] #[] :: lb) 0) Rit (cl 0 W.heap.size [] :: .sz W.heap.size :: pre)) : ItY P gf lb Rit pre N vals posts := by
  intro X w0 hX hs hp
  refine ⟨fun b => b < w0.heap.size ∧ ¬ X b ∧ ¬ ownL Rit b, fun b hb => hb, ?_⟩
  intro l J Jx W hsz hKX hJ hJx hJs hJxs hY h0
  have hW0 := hJs _ _ _ _ _ h0
  obtain ⟨cl, hcl⟩ : ∃ cl : Nat → Nat → List Fact → Fact, cl = Fact.clY J hJ (fun b => b < w0.heap.size ∧ ¬ X b ∧ ¬ ownL Rit b) (ownL Rit) w0 W := ⟨_, rfl⟩
  obtain ⟨clx, hclx⟩ : ∃ clx : Nat → Fact, clx = Fact.clx Jx hJx := ⟨_, rfl⟩
  have hpre : ∀ (X' : Nat → Prop) (W' : World), W.heap.size ≤ W'.heap.size → (∀ b, (b < w0.heap.size ∧ ¬ X b ∧ ¬ ownL Rit b) → W'.heap[b]? = w0.heap[b]?) → (∀ b, X' b → ¬ (b < w0.heap.size ∧ ¬ X b ∧ ¬ ownL Rit b) ∧ b < W'.heap.size) → ∀ φ ∈ pre, φ.p X' W' := fun X' W' h1 h2 h3 φ hφ =>
    hold φ hφ _ _ w0 W' (hp φ hφ) (Nat.le_trans hsz h1) (fun b hb hx => h2 b ⟨hb, fun h => hx (.inl h), fun h => hx (.inr h)⟩) fun b hb => by
      obtain ⟨h4, h5⟩ := h3 b hb
      by_cases hlt : b < w0.heap.size
      · by_cases hx : X b
        · exact .inl (.inl hx)
        · by_cases ho : ownL Rit b
          · exact .inl (.inr ho)
          · exact absurd ⟨hlt, hx, ho⟩ h4
      · exact .inr ⟨by omega, h5⟩
  have hy : YieldsY P W l cl clx pre N vals posts := by
    intro n ops Q rest env R Φ d T pos af x as ts k m y Φk ψs hk hx ha hm hψ hposts hd k1 k2 a W2 he hs2
    have hc := hs2.fact hm
    rw [hcl] at hc
    obtain ⟨K, q1, q2, q3, q4, q5, q6, q7, q8⟩ := hc
    have hlt : ∀ b, ownL R b → b < W2.heap.size := fun b hb => hs2.sep.lt b hb
    have hK2 : ∀ b, (K b ∨ (m ≤ b ∧ b < W2.heap.size ∧ ¬ ownL R b)) → b < W2.heap.size ∧ ¬ ((CI W).X0 b ∨ ownL R b) := fun b hb => hb.elim (q4 b) fun h => ⟨h.2.1, fun hx => hx.elim (fun h => h) h.2.2⟩
    have hnew : ∀ φ ∈ ψs ++ Φk ++ pre, φ.p (fun b => b < W2.heap.size ∧ ¬ (K b ∨ (m ≤ b ∧ b < W2.heap.size ∧ ¬ ownL R b))) W2 := fun φ hφ => by
      rcases List.mem_append.1 hφ with hφ | hφ
      · rcases List.mem_append.1 hφ with hφ | hφ
        · have := hs2.facts _ (hψ.mem _ (List.mem_map.2 ⟨φ, hφ, rfl⟩))
          refine φ.fr _ _ W2 W2 this (Foreign.refl _ _) fun b hb => .inl ?_
          by_cases ho : ownL R b
          · exact .inl (.inr ho)
          · exact .inr (Nat.lt_of_not_le fun hle => hb.2 (.inr ⟨hle, hb.1, ho⟩))
        · exact φ.fr _ _ W2 W2 (q8 φ hφ) (Foreign.refl _ _) fun b hb => .inl ⟨hb.1, fun hk => hb.2 (.inl hk)⟩
      · exact hpre _ W2 (by omega) q3 (fun b hb => ⟨fun h => hb.2 (.inl (q2 b h)), hb.1⟩) φ hφ
    obtain ⟨fn', tmps, assign, body, hrun, hR⟩ := hY k m K _ (fun b => (CI W).X0 b ∨ ownL R b) (vals k y).toArray W2 hk q1 q5 q6 (fun b hb => .inl hb) (fun b hb => hb.imp id fun h => ⟨h.1, h.2.1⟩) hK2 q7 ⟨y, rfl, fun φ hφ => hnew φ (hposts φ hφ)⟩
    refine wpListIn_plain rfl fun K' hK' => oper_plain (by simp) ?_
    have hrun' : (execOp a.eval ⟨some d, .call { callee := .value x, args := as, argTypes := ts }, T, pos, af, none⟩).run P W2 = .ok (.round l fn' tmps assign body) W2 := by
      have e1 : as.map a.eval = (vals k y).toArray := by
        apply Array.toList_inj.1
        simpa using opvs_eval he ha
      simpa [execOp, resolve, he.eval hx, e1, Deferred.ofValue, invoke] using hrun
    rw [hrun']
    refine ⟨fun h => by simp [Fence.wide] at h, hR.mono ?_⟩
    have evo : ∀ W3, Still w0 W3 → W2.heap.size ≤ W3.heap.size → Foreign (fun _ => True) W W3 := fun W3 h h' => ⟨h.1.trans hW0.1.symm, h.2.1.trans hW0.2.1.symm, h.2.2.trans hW0.2.2.symm, by omega, fun b _ hb => absurd trivial hb⟩
    rintro e W3 (⟨rfl, r1, r2, r3, r4⟩ | ⟨rfl, r1, r2⟩)
    · have hkk : ∀ b, (b < w0.heap.size ∧ ¬ X b ∧ ¬ ownL Rit b) → W3.heap[b]? = w0.heap[b]? := fun b hb => (r3 b (.inl (q2 b hb))).trans (q3 b hb)
      have hnew3 : ∀ φ ∈ ψs ++ Φk ++ pre, φ.p (fun b => b < W3.heap.size ∧ ¬ (K b ∨ (m ≤ b ∧ b < W2.heap.size ∧ ¬ ownL R b))) W3 := fun φ hφ => by
        refine φ.fr _ _ W2 W3 (hnew φ hφ) ⟨(r1 |> hJs _ _ _ _ _).1.trans (q1 |> hJs _ _ _ _ _).1.symm, (r1 |> hJs _ _ _ _ _).2.1.trans (q1 |> hJs _ _ _ _ _).2.1.symm, (r1 |> hJs _ _ _ _ _).2.2.trans (q1 |> hJs _ _ _ _ _).2.2.symm, r2, fun b hb hn => r3 b ?_⟩ fun b hb => ?_
        · by_cases hkb : (K b ∨ (m ≤ b ∧ b < W2.heap.size ∧ ¬ ownL R b))
          · exact hkb
          · exact absurd ⟨hb, hkb⟩ hn
        · by_cases hlt2 : b < W2.heap.size
          · exact .inl ⟨hlt2, hb.2⟩
          · exact .inr ⟨by omega, hb.1⟩
      refine hK' _ _ (k1 W3.heap.size _ W3 (he.put (Nat.le_of_ble_eq_true hd) _) ⟨evo W3 (hJs _ _ _ _ _ r1) r2, (hs2.sep.keep fun b hb => r4 b (.inr hb)), fun b hb => .inl trivial, fun b hb => hb.elim, fun φ hφ => ?_⟩)
      rcases List.mem_cons.1 hφ with rfl | hφ
      · rw [hcl]
        refine ⟨_, r1, fun b hb => .inl (q2 b hb), hkk, fun b hb => ⟨Nat.lt_of_lt_of_le (hK2 b hb).1 r2, (hK2 b hb).2⟩, by omega, Nat.le_refl _, fun b hb => (q7 b hb).imp id fun h => ⟨h.1, Nat.lt_of_lt_of_le h.2 r2⟩, fun φ hφ => hnew3 φ (List.mem_append_left _ hφ)⟩
      · rcases List.mem_cons.1 hφ with rfl | hφ
        · exact Nat.le_refl _
        · exact φ.fr _ _ W3 W3 (hnew3 φ hφ) (Foreign.refl _ _) fun b hb => .inl (hb.elim (fun h => h.elim) fun h => ⟨Nat.lt_of_lt_of_le (hlt b h) r2, fun hk => (hK2 b hk).2 (.inr h)⟩)
    · refine hK' _ _ (k2 _ W3 (he.put (Nat.le_of_ble_eq_true hd) _) ⟨evo W3 (hJxs _ _ _ r1) r2, trivial, fun b hb => hb.elim, fun b hb => hb.elim, fun φ hφ => ?_⟩)
      rcases List.mem_cons.1 hφ with rfl | hφ
      · rw [hclx]
        exact hJx k _ _ W3 W3 r1 (Foreign.refl _ _) fun b hb => hb.elim (fun h => h.elim) fun h => h.elim
      · simp at hφ
  have hs0 : Sat (CI W) Rit (cl 0 W.heap.size [] :: .sz W.heap.size :: pre) W := by
    have hlt0 : ∀ b, ownL Rit b → b < w0.heap.size := fun b hb => hs.lt b hb
    refine ⟨Foreign.refl _ _, (hs.less (X' := fun _ => False) fun b h => h.elim).keep fun b hb => hKX b (.inr hb), fun b hb => .inl trivial, fun b hb => hb.elim, fun φ hφ => ?_⟩
    rcases List.mem_cons.1 hφ with rfl | hφ
    · rw [hcl]
      have e : (fun b => (CI W).X0 b ∨ ownL Rit b) = ownL Rit := by funext b; simp
      refine ⟨_, by rw [e]; exact h0, fun b hb => hb, fun b hb => hKX b (.inl hb), fun b hb => ⟨by have := hb.1; omega, fun h => h.elim (fun h => h) hb.2.2⟩, Nat.le_refl _, Nat.le_refl _, fun b hb => .inl (hb.elim (fun h => h.elim) id), fun φ hφ => by simp at hφ⟩
    · rcases List.mem_cons.1 hφ with rfl | hφ
      · exact Nat.le_refl _
      · exact hpre _ W (Nat.le_refl _) (fun b hb => hKX b (.inl hb)) (fun b hb => hb.elim (fun h => h.elim) fun h => ⟨fun h' => h'.2.2 h, by have := hlt0 b h; omega⟩) φ hφ
  have hn' := Nat.le_of_ble_eq_true hn
  refine callsIn_of_wp hf hb trivial (wpIn_mono (h W l cl clx hy _ W ?_ hs0) fun e a W' hq => ?_) rfl
  · refine ⟨rfl, by simp [hnt]; omega, fun t v ht => ?_⟩
    obtain ⟨_, h2⟩ := elook_envOf _ 0 t v ht
    have hlt := (List.getElem?_eq_some_iff.1 h2).1
    simp only [Nat.sub_zero] at h2 hlt
    have e : (#[Value.func (.yield l) #[] #[]] ++ lb.toArray : Array Value) = (Value.func (.yield l) #[] #[] :: lb).toArray := by simp
    rw [e, Array.getElem?_append_left (by simpa using hlt)]
    simpa using h2
  · have fin : ∀ a W', (a.defers = [] ∧ ((∃ m Φk X, (cl N m Φk).p X W') ∨ ∃ k X, k < N ∧ (clx k).p X W')) → bodyPost P fn (fun e W' => (∃ v, e = .returned v) ∧ ((∃ m K X, J N m K X W') ∨ (∃ k X, k < N ∧ Jx k X W'))) .ret a W' := fun a W' hq => by
      refine bodyPost_ret (results_none hres _ _ _) hq.1 ⟨⟨_, rfl⟩, ?_⟩
      rcases hq.2 with ⟨m, Φk, X, hx⟩ | ⟨k, X, hk, hx⟩
      · rw [hcl] at hx; obtain ⟨K, hx, _⟩ := hx; exact .inl ⟨m, K, X, hx⟩
      · rw [hclx] at hx; exact .inr ⟨k, X, hk, hx⟩
    cases e with
    | normal => exact fin a W' hq
    | ret => exact fin a W' hq
    | exit id => exact hq.elim
    | goto l => exact hq.elim
    | panic ch => exact hq.elim
    | outgrown => exact hq.elim
end Go.Proofs.YtcohgnagffibcaaDoor
