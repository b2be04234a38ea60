/-
The logic of walks: regions that draw their order, in a canonical order. UNDER WAY.
Conditions: none; no program in sight.
-/
import Derived.Test.YtcppphgpbaablaaGreatDoorJr
import Derived.Test.YtcppphgpbaablaaGreatDoorDrs
import Derived.OrdersIn
namespace Go.Proofs.YtcppphgpbaablaaGreatDoor
set_option linter.unusedVariables false
open Go.RowKit
namespace Dh

/-- A segment of the canonical order: what is only read (true: an allocation, told of early), the allocations that the chain's operation needs, the chain's operation. -/
structure Sg where
  ps : List (Nat × Bool)
  ls : List Nat
  e : Nat

def nd (ops : Array Oper) (i : Nat) : List Nat := match ops[i]? with | some o => Dr.needs o | none => []
/-- j is among the operations that i waits for, near or far: by masks. -/
def A (ms : List Nat) (i j : Nat) : Bool := (ms.getD i 0).testBit j
theorem anc_listed {ops : Array Oper} {ms : List Nat} (h1 : ∀ i < ops.size, ∀ j ∈ nd ops i, j < i) (h2 : ∀ i < ops.size, ∀ j < ops.size, A ms i j = true → j ∈ nd ops i ∨ ∃ k ∈ nd ops i, A ms k j = true) {L : Nat → Prop}
    (hL : ∀ i < ops.size, L i → ∀ j ∈ nd ops i, L j) : ∀ i, i < ops.size → (∀ j ∈ nd ops i, L j) → ∀ j, j < ops.size → A ms i j = true → L j := by
  intro i
  induction i using Nat.strongRecOn with
  | _ i ih =>
    intro hi hn j hj ha
    rcases h2 i hi j hj ha with h | ⟨k, hk, hkj⟩
    · exact hn j h
    · have hki := h1 i hi k hk
      exact ih k hki (by omega) (hL k (by omega) (hn k hk)) j hj hkj

/-- What an allocation makes: a variable's cells, or a slice's. -/
abbrev Al := Option Nat × TypeId × List Value
/-- The value that it yields. -/
def bval : Option Nat → Nat → Value
  | none, b => .pointer (some ⟨b, 0, none⟩)
  | some m, b => .slice (some ⟨b, 0, none⟩) m m
section
variable (P : Program) (r : Option Nat) (C : Cx) (n : Nat × List Nat) (ops : Array Oper) (Q : Exit → Act → World → Prop)

/-- An allocation that runs in any world: to a new block of these cells. -/
def Early (i : Nat) (env : List (Nat × Value)) (z : Al) : Prop :=
  ∃ o d, ops[i]? = some o ∧ o.dst = some d ∧ d < n.1 ∧ (∀ c, o.op ≠ .defer c) ∧ ∀ a W, Env n env a → Region.wanted o (yielded ops a.tmps) = true ∧ (execOp a.eval o).run P W = .ok (.value (bval z.1 W.heap.size)) (W.alloc (.cells z.2.2.toArray z.2.1))
/-- What is only read. -/
def Pure (i : Nat) (env : List (Nat × Value)) (Rs : List Res) (Φ : List Fact) (v : Value) : Prop :=
  ∃ o d, ops[i]? = some o ∧ o.dst = some d ∧ d < n.1 ∧ ∀ (C' : Cx) a W, Env n env a → Sat C' Rs Φ W →
    if Region.wanted o (yielded ops a.tmps) then (∀ c, o.op ≠ .defer c) ∧ (execOp a.eval o).run P W = .ok (.value v) W else v = undef

/-- More is known. -/
def FExt (Φ' Φ : List Fact) : Prop := ∃ Φn, Φ' = Φn ++ Φ
def FMore (Φ' Φ : List Fact) : Prop := ∃ Φn, Φ' = Φn ++ Φ ∧ ∀ X W, (∀ φ ∈ Φ, φ.p X W) → ∀ φ ∈ Φn, φ.p X W
/-- The block of what is only read; acc: what of R the operations that are known read. -/
def JB (R : List Res) (k : List (Nat × Value) → List (Nat × Al) → List (Nat × List Res) → List Fact → Prop) : List (Nat × Bool) → List (Nat × Value) → List (Nat × Al) → List (Nat × List Res) → List Fact → Prop
  | [], env, es, acc, Φ => k env es acc Φ
  | (i, false) :: ps, env, es, acc, Φ => ∃ v d Ri acc' Φ', ((ops[i]?).bind (·.dst)) = some d ∧ Pure P n ops i env Ri Φ v ∧ ((Ri = [] ∧ acc' = acc) ∨ (acc' = (i, Ri) :: acc ∧ ∃ R0, Take Ri R R0)) ∧ FMore Φ' Φ ∧ JB R k ps ((d, v) :: env) es acc' Φ'
  | (i, true) :: ps, env, es, acc, Φ => ∃ z, Early P n ops i env z ∧ JB R k ps env ((i, z) :: es) acc Φ
/-- The allocations that the chain's operation needs. -/
def JL (es : List (Nat × Al)) (k : List (Nat × Value) → List Res → Prop) : List Nat → List (Nat × Value) → List Res → Prop
  | [], env, R => k env R
  | i :: ls, env, R => ∃ d z, ((ops[i]?).bind (·.dst)) = some d ∧ (i, z) ∈ es ∧ ∀ b : Nat, JL es k ls ((d, bval z.1 b) :: env) (.blk b z.2.1 z.2.2 :: R)
/-- What was read stays, or was read ahead of the chain's operation e. -/
def KeepL (ms : List Nat) (e : Nat) (R' : List Res) : List (Nat × List Res) → List (Nat × List Res) → Prop
  | [], acc' => acc' = []
  | (i, Ri) :: acc, acc' => (A ms e i = true ∧ KeepL ms e R' acc acc') ∨ ∃ acc'', acc' = (i, Ri) :: acc'' ∧ (∃ R0, Take Ri R' R0) ∧ KeepL ms e R' acc acc''
/-- Behind the chain's operation. -/
def Post (ms : List Nat) (o : Oper) (e : Nat) (env : List (Nat × Value)) (Φ : List Fact) (acc : List (Nat × List Res)) (J : List (Nat × Value) → List Res → List Fact → List (Nat × List Res) → Prop) (C' : Cx) (x : Exit) (a : Act) (W : World) : Prop :=
  x = .normal ∧ ∃ env' R' Φ' acc', Env n env' a ∧ Sat C' R' Φ' W ∧ KeepL ms e R' acc acc' ∧ FExt Φ' Φ ∧ (match o.dst with | some d => ∃ v, env' = (d, v) :: env | none => env' = env) ∧ J env' R' Φ' acc'
/-- All other operations come ahead of e or behind it. -/
def solo (ms : List Nat) (e : Nat) : Bool := (List.range ops.size).all fun j => j == e || A ms e j || A ms j e
/-- Behind a call of yield. -/
def PostY (o : Oper) (env : List (Nat × Value)) (J : List (Nat × Value) → List Res → List Fact → List (Nat × List Res) → Prop) (x : Exit) (a : Act) (W : World) : Prop :=
  x = .normal ∧ ∃ env' R' Φ', Env n env' a ∧ Sat C R' Φ' W ∧ (match o.dst with | some d => ∃ v, env' = (d, v) :: env | none => env' = env) ∧ J env' R' Φ' []
/-- The chain's operation: in any world, or in this one where all others come ahead of it or behind it. -/
def JE (ms : List Nat) (e : Nat) (Φ : List Fact) (acc : List (Nat × List Res)) (J : List (Nat × Value) → List Res → List Fact → List (Nat × List Res) → Prop) (env : List (Nat × Value)) (R : List Res) : Prop :=
  ∃ o, ops[e]? = some o ∧ (∀ c, o.op ≠ .defer c) ∧ ((∀ C' : Cx, Jl P r C' n ops (Post n ms o e env Φ acc J C') [o] env R Φ) ∨ (solo ops ms e = true ∧ Jl P r C n ops (PostY C n o env J) [o] env R Φ))
/-- The region. -/
def JH (ms : List Nat) (fin : List (Nat × Bool) × List Nat) : List Sg → List (Nat × Value) → List Res → List Fact → List (Nat × Al) → List (Nat × List Res) → Prop
  | [], env, R, Φ, es, acc => JB P n ops R (fun env es _ Φ => JL ops es (fun env R => Jq C n Q .normal env R Φ) fin.2 env R) fin.1 env es acc Φ
  | s :: segs, env, R, Φ, es, acc => JB P n ops R (fun env es acc Φ => JL ops es (JE P r C n ops ms s.e Φ acc (fun env R Φ acc => JH ms fin segs env R Φ es acc)) s.ls env R) s.ps env es acc Φ
end
/-- The nodes: 0 only read, 1 an allocation early, 2 late, 3 the chain's. -/
def nodesP : List (Nat × Bool) → List (Nat × Nat)
  | [] => []
  | (i, b) :: ps => (i, if b then 1 else 0) :: nodesP ps
def nodes (fin : List (Nat × Bool) × List Nat) : List Sg → List (Nat × Nat)
  | [] => nodesP fin.1 ++ fin.2.map fun i => (i, 2)
  | s :: segs => nodesP s.ps ++ (s.ls.map fun i => (i, 2)) ++ (s.e, 3) :: nodes fin segs
def ordOk (ms : List Nat) (fin : List (Nat × Bool) × List Nat) : Option Nat → List Sg → Bool
  | prev, [] => fin.1.all fun p => match prev with | none => true | some e => A ms p.1 e
  | prev, s :: segs => (s.ps.all fun p => match prev with | none => true | some e => A ms p.1 e) && (s.ls.all fun i => A ms s.e i) && (match prev with | none => true | some e => A ms s.e e) && ordOk ms fin (some s.e) segs
def kinds (l : List (Nat × Nat)) (i : Nat) : Bool :=
  (l.contains (i, 0) && !l.contains (i, 1) && !l.contains (i, 2) && !l.contains (i, 3)) || (!l.contains (i, 0) && l.contains (i, 1) && l.contains (i, 2) && !l.contains (i, 3)) ||
    (!l.contains (i, 0) && !l.contains (i, 1) && !l.contains (i, 2) && l.contains (i, 3))
/-- The order keeps to what waits for what. -/
def seenOk (ms : List Nat) (N : Nat) : List (Nat × Nat) → List Nat → Bool
  | [], _ => true
  | (i, k) :: l, seen => (k == 2 || (List.range N).all fun j => !A ms i j || seen.contains j) && seenOk ms N l (if k == 1 then seen else i :: seen)
/-- What is asked of the canonical order; it is looked at by running. -/
def okB (ops : Array Oper) (ms : List Nat) (fin : List (Nat × Bool) × List Nat) (segs : List Sg) (size : Nat) : Bool :=
  Region.noSelect ops &&
  ((List.range ops.size).all fun i => (nd ops i).all (· < i) && (List.range ops.size).all fun j => !A ms i j || (nd ops i).contains j || (nd ops i).any fun k => A ms k j) &&
  decide (nodes fin segs).Nodup && ((nodes fin segs).all fun p => decide (p.1 < ops.size)) && ((List.range ops.size).all fun i => kinds (nodes fin segs) i) && ordOk ms fin none segs &&
  ((List.range ops.size).all fun i => match Dr.dstAt ops i with | none => true | some d => decide (d < size) && (List.range ops.size).all fun j => j == i || Dr.dstAt ops j != some d) &&
  ((List.range ops.size).all fun i => match ops[i]? with | none => true | some o => (o.looksAt ops).all fun t => (List.range ops.size).all fun j => Dr.dstAt ops j != some t || A ms i j || A ms j i) &&
  seenOk ms ops.size (nodes fin segs) []
structure Ok (ops : Array Oper) (ms : List Nat) (fin : List (Nat × Bool) × List Nat) (segs : List Sg) (size : Nat) : Prop where
  sel : Region.noSelect ops = true
  lt : ∀ i < ops.size, ∀ j ∈ nd ops i, j < i
  anc : ∀ i < ops.size, ∀ j < ops.size, A ms i j = true → j ∈ nd ops i ∨ ∃ k ∈ nd ops i, A ms k j = true
  nodup : (nodes fin segs).Nodup
  idx : ∀ p ∈ nodes fin segs, p.1 < ops.size
  kind : ∀ i < ops.size, kinds (nodes fin segs) i = true
  ord : ordOk ms fin none segs = true
  dst : ∀ i < ops.size, ∀ d, Dr.dstAt ops i = some d → d < size ∧ ∀ j < ops.size, Dr.dstAt ops j = some d → j = i
  looks : ∀ i < ops.size, ∀ o, ops[i]? = some o → ∀ t ∈ o.looksAt ops, ∀ j < ops.size, Dr.dstAt ops j = some t → A ms i j = true ∨ A ms j i = true
  seen : seenOk ms ops.size (nodes fin segs) [] = true
theorem okB_spec {ops : Array Oper} {ms : List Nat} {fin : List (Nat × Bool) × List Nat} {segs : List Sg} {size : Nat} (h : okB ops ms fin segs size = true) : Ok ops ms fin segs size := by
  simp only [okB, Bool.and_eq_true, decide_eq_true_eq] at h
  obtain ⟨⟨⟨⟨⟨⟨⟨⟨h1, h2⟩, h3⟩, h4⟩, h5⟩, h6⟩, h7⟩, h8⟩, h9⟩ := h
  refine ⟨h1, fun i hi j hj => ?_, fun i hi j hj ha => ?_, h3, fun p hp => ?_, fun i hi => List.all_eq_true.1 h5 i (List.mem_range.2 hi), h6, fun i hi d hd => ?_, fun i hi o ho t ht j hj hd => ?_, h9⟩
  · have := List.all_eq_true.1 h2 i (List.mem_range.2 hi)
    simp only [Bool.and_eq_true] at this
    simpa using List.all_eq_true.1 this.1 j hj
  · have := List.all_eq_true.1 h2 i (List.mem_range.2 hi)
    simp only [Bool.and_eq_true] at this
    have := List.all_eq_true.1 this.2 j (List.mem_range.2 hj)
    simp only [ha, Bool.not_true, Bool.false_or, Bool.or_eq_true, List.contains_iff_mem] at this
    exact this.imp id fun h => by simpa using List.any_eq_true.1 h
  · simpa using List.all_eq_true.1 h4 p hp
  · have := List.all_eq_true.1 h7 i (List.mem_range.2 hi)
    rw [hd] at this
    simp only [Bool.and_eq_true, decide_eq_true_eq] at this
    refine ⟨this.1, fun j hj hdj => ?_⟩
    have := List.all_eq_true.1 this.2 j (List.mem_range.2 hj)
    simpa [hdj] using this
  · have := List.all_eq_true.1 h8 i (List.mem_range.2 hi)
    rw [ho] at this
    have := List.all_eq_true.1 (List.all_eq_true.1 this t ht) j (List.mem_range.2 hj)
    simpa [hd] using this
/-- The virtual frame: all that was put, newest first: the operation, its slot, its value. -/
def vact (a : Act) : List (Nat × Nat × Value) → Act
  | [] => a
  | (_, d, v) :: vs => (vact a vs).put (some d) v
def puts (vs : List (Nat × Nat × Value)) : List (Nat × Value) := vs.map fun x => (x.2.1, x.2.2)
theorem vact_size (a : Act) : ∀ vs, (vact a vs).tmps.size = a.tmps.size
  | [] => rfl
  | (_, d, v) :: vs => by rw [vact, Dr.put_size]; exact vact_size a vs
theorem vact_defers (a : Act) : ∀ vs, (vact a vs).defers = a.defers
  | [] => rfl
  | (_, d, v) :: vs => by rw [vact, Dr.put_defers']; exact vact_defers a vs
theorem vact_none (a : Act) (t : Nat) : ∀ vs : List (Nat × Nat × Value), (∀ x ∈ vs, x.2.1 ≠ t) → (vact a vs).tmps[t]? = a.tmps[t]?
  | [], _ => rfl
  | (j, d, v) :: vs, h => by
    rw [vact, Dr.put_ne _ _ _ _ (by simpa using h (j, d, v) List.mem_cons_self)]
    exact vact_none a t vs fun x hx => h x (by simp [hx])
theorem vact_some (a : Act) (i t : Nat) (v : Value) (ht : t < a.tmps.size) : ∀ vs : List (Nat × Nat × Value), (i, t, v) ∈ vs → (∀ x ∈ vs, x.2.1 = t → x = (i, t, v)) → (vact a vs).tmps[t]? = some v
  | [], h, _ => by simp at h
  | (j, d, u) :: vs, h, hu => by
    by_cases e : d = t
    · have := hu (j, d, u) (by simp) e
      cases this
      exact Dr.put_at _ _ _ (by rw [vact_size]; exact ht)
    · rw [vact, Dr.put_ne _ _ _ _ (by simpa using e)]
      refine vact_some a i t v ht vs ?_ fun x hx => hu x (by simp [hx])
      rcases List.mem_cons.1 h with h | h
      · cases h; exact absurd rfl e
      · exact h
theorem vact_env {n : Nat × List Nat} {env : List (Nat × Value)} {a : Act} (he : Env n env a) : ∀ vs : List (Nat × Nat × Value), (∀ x ∈ vs, x.2.1 < n.1) → Env n (puts vs ++ env) (vact a vs)
  | [], _ => he
  | (_, d, v) :: vs, h => (vact_env he vs fun x hx => h x (List.mem_cons_of_mem _ hx)).put (h _ List.mem_cons_self) v
/-- What is known of the frame, and of what was put. -/
structure Fr (ops : Array Oper) (listed : Nat → Prop) (a0 a' : Act) (vals : List (Nat × Nat × Value)) : Prop where
  closed : ∀ i < ops.size, listed i → ∀ j ∈ nd ops i, listed j
  size : a'.tmps.size = a0.tmps.size
  defers : a'.defers = a0.defers
  idx : ∀ x ∈ vals, x.1 < ops.size ∧ Dr.dstAt ops x.1 = some x.2.1
  nodup : (vals.map (·.1)).Nodup
  put : ∀ x ∈ vals, listed x.1 → a'.tmps[x.2.1]? = some x.2.2
  old : ∀ t, (∀ j < ops.size, Dr.dstAt ops j = some t → ¬ listed j) → a'.tmps[t]? = a0.tmps[t]?
theorem vals_inj {vals : List (Nat × Nat × Value)} (h : (vals.map (·.1)).Nodup) : ∀ {x y : Nat × Nat × Value}, x ∈ vals → y ∈ vals → x.1 = y.1 → x = y := by
  induction vals with
  | nil => intro x y hx; simp at hx
  | cons z vs ih =>
    intro x y hx hy e
    simp only [List.map_cons, List.nodup_cons] at h
    rcases List.mem_cons.1 hx with h1 | h1 <;> rcases List.mem_cons.1 hy with h2 | h2
    · rw [h1, h2]
    · exact (h.1 (List.mem_map.2 ⟨y, h2, by rw [← e, h1]⟩)).elim
    · exact (h.1 (List.mem_map.2 ⟨x, h1, by rw [e, h2]⟩)).elim
    · exact ih h.2 h1 h2 e
/-- The real frame and the virtual one agree where an operation looks. -/
theorem agree {ops : Array Oper} {ms : List Nat} {fin : List (Nat × Bool) × List Nat} {segs : List Sg} {listed : Nat → Prop} {a0 a' : Act} {vals vs : List (Nat × Nat × Value)} (ok : Ok ops ms fin segs a0.tmps.size) (fr : Fr ops listed a0 a' vals)
    (hsub : ∀ x ∈ vs, x ∈ vals) {i : Nat} {o : Oper} (hi : i < ops.size) (ho : ops[i]? = some o) (hn : ∀ j ∈ nd ops i, listed j) (hu : ¬ listed i)
    (h1 : ∀ j < ops.size, A ms i j = true → ∀ d, Dr.dstAt ops j = some d → ∃ v, (j, d, v) ∈ vs) (h2 : ∀ x ∈ vs, A ms x.1 i = false) : ∀ t ∈ o.looksAt ops, a'.tmps[t]? = (vact a0 vs).tmps[t]? := by
  intro t ht
  by_cases hex : ∃ j, j < ops.size ∧ Dr.dstAt ops j = some t
  · obtain ⟨j, hj, hd⟩ := hex
    have huq := (ok.dst j hj t hd).2
    rcases ok.looks i hi o ho t ht j hj hd with h | h
    · have hlj := anc_listed ok.lt ok.anc fr.closed i hi hn j hj h
      obtain ⟨v, hv⟩ := h1 j hj h t hd
      rw [fr.put _ (hsub _ hv) hlj]
      refine (vact_some a0 j t v (ok.dst j hj t hd).1 vs hv fun x hx hxt => ?_).symm
      have hxi := fr.idx x (hsub x hx)
      rw [hxt] at hxi
      exact vals_inj fr.nodup (hsub x hx) (hsub _ hv) (huq _ hxi.1 hxi.2)
    · have hnl : ¬ listed j := fun hl => hu (anc_listed ok.lt ok.anc fr.closed j hj (fr.closed j hj hl) i hi h)
      rw [fr.old t fun k hk hkd => by rw [huq k hk hkd]; exact hnl]
      refine (vact_none a0 t vs fun x hx hxt => ?_).symm
      have hxi := fr.idx x (hsub x hx)
      rw [hxt] at hxi
      have hxj := huq _ hxi.1 hxi.2
      have h3 := h2 x hx
      rw [hxj, h] at h3
      cases h3
  · rw [fr.old t fun k hk hkd => absurd ⟨k, hk, hkd⟩ hex]
    refine (vact_none a0 t vs fun x hx hxt => ?_).symm
    have hxi := fr.idx x (hsub x hx)
    rw [hxt] at hxi
    exact hex ⟨_, hxi.1, hxi.2⟩
theorem fr_env {ops : Array Oper} {ms : List Nat} {fin : List (Nat × Bool) × List Nat} {segs : List Sg} {listed : Nat → Prop} {a0 a' : Act} {vals vs : List (Nat × Nat × Value)} {n : Nat × List Nat} {env : List (Nat × Value)} (ok : Ok ops ms fin segs a0.tmps.size) (fr : Fr ops listed a0 a' vals)
    (hsub : ∀ x ∈ vs, x ∈ vals) (he : Env n env a0) : Env n (puts vs ++ env) (vact a0 vs) :=
  vact_env he vs fun x hx => by
    have hi := fr.idx x (hsub x hx)
    have := (ok.dst _ hi.1 _ hi.2).1
    rwa [he.size] at this
/-- What is only read is read. -/
theorem pure_step {P : Program} {r : Option Nat} {Q : Exit → Act → World → Prop} {ops : Array Oper} {ms : List Nat} {fin : List (Nat × Bool) × List Nat} {segs : List Sg} {listed : Nat → Prop} {a0 a' : Act} {vals vs : List (Nat × Nat × Value)} {n : Nat × List Nat} {env : List (Nat × Value)}
    {C : Cx} {Rs : List Res} {Φ : List Fact} {W : World} {v : Value} {K : Act → World → Prop} {d : Nat}
    (ok : Ok ops ms fin segs a0.tmps.size) (fr : Fr ops listed a0 a' vals) (hsub : ∀ x ∈ vs, x ∈ vals) (he : Env n env a0) {i : Nat} (hi : i < ops.size) (hn : ∀ j ∈ nd ops i, listed j) (hu : ¬ listed i)
    (h1 : ∀ j < ops.size, A ms i j = true → ∀ d, Dr.dstAt ops j = some d → ∃ v, (j, d, v) ∈ vs) (h2 : ∀ x ∈ vs, A ms x.1 i = false) (hp : Pure P n ops i (puts vs ++ env) Rs Φ v) (hs : Sat C Rs Φ W)
    (hd : Dr.dstAt ops i = some d) (hK : K (a'.put (some d) v) W) : wpOpIn (Fz r) 0 P ops Q i K a' W := by
  obtain ⟨o, d', ho, hod, hlt, h⟩ := hp
  have hag := agree ok fr hsub hi ho hn hu h1 h2
  have hdd : d = d' := by simp [Dr.dstAt, ho, hod] at hd; exact hd.symm
  subst hdd
  have hr := h C (vact a0 vs) W (fr_env ok fr hsub he) hs
  have hw := Dr.wanted_slots (ops := ops) hag
  have hev := Dr.eval_slots (ops := ops) hag
  unfold wpOpIn
  simp only [ho]
  rw [hw]
  split
  · rename_i hwant
    rw [if_pos hwant] at hr
    refine oper_plain hr.1 ?_
    rw [execOp_congr o (Region.noSelect_spec ok.sel i o · · ho) hev, hr.2]
    rw [Oper.uponIn_value, hod]; exact hK
  · rename_i hwant
    rw [if_neg hwant] at hr
    subst hr
    exact ⟨fz_about P r o a' W, by rw [hod]; exact hK⟩
/-- An allocation is run. -/
theorem alloc_step {P : Program} {r : Option Nat} {Q : Exit → Act → World → Prop} {ops : Array Oper} {ms : List Nat} {fin : List (Nat × Bool) × List Nat} {segs : List Sg} {listed : Nat → Prop} {a0 a' : Act} {vals vs : List (Nat × Nat × Value)} {n : Nat × List Nat} {env : List (Nat × Value)}
    {W : World} {z : Al} {K : Act → World → Prop} {d : Nat}
    (ok : Ok ops ms fin segs a0.tmps.size) (fr : Fr ops listed a0 a' vals) (hsub : ∀ x ∈ vs, x ∈ vals) (he : Env n env a0) {i : Nat} (hi : i < ops.size) (hn : ∀ j ∈ nd ops i, listed j) (hu : ¬ listed i)
    (h1 : ∀ j < ops.size, A ms i j = true → ∀ d, Dr.dstAt ops j = some d → ∃ v, (j, d, v) ∈ vs) (h2 : ∀ x ∈ vs, A ms x.1 i = false) (hp : Early P n ops i (puts vs ++ env) z)
    (hd : Dr.dstAt ops i = some d) (hK : K (a'.put (some d) (bval z.1 W.heap.size)) (W.alloc (.cells z.2.2.toArray z.2.1))) : wpOpIn (Fz r) 0 P ops Q i K a' W := by
  obtain ⟨o, d', ho, hod, hlt, hnd, h⟩ := hp
  have hag := agree ok fr hsub hi ho hn hu h1 h2
  have hdd : d = d' := by simp [Dr.dstAt, ho, hod] at hd; exact hd.symm
  subst hdd
  have hr := h (vact a0 vs) W (fr_env ok fr hsub he)
  have hw := Dr.wanted_slots (ops := ops) hag
  have hev := Dr.eval_slots (ops := ops) hag
  unfold wpOpIn
  simp only [ho]
  rw [hw, if_pos hr.1]
  refine oper_plain hnd ?_
  rw [execOp_congr o (Region.noSelect_spec ok.sel i o · · ho) hev, hr.2]
  rw [Oper.uponIn_value, hod]; exact hK
theorem upon_carry {F : Fence} {m : Nat} {P : Program} {o : Oper} {a b : Act} {S next : Act → World → Prop} {Q Q1 : Exit → Act → World → Prop} {res : Result Next} (hQ : ∀ e a W, Q1 e a W → e = .normal) (hSd : ∀ a' W, S a' W → a'.defers = a.defers) (h : o.uponIn F m P a S Q1 res)
    (hK : ∀ v w, S (a.put o.dst v) w → next (b.put o.dst v) w) : o.uponIn F m P b next Q res := by
  cases res with
  | ok nx w =>
    cases nx with
    | value v => exact hK _ _ h
    | skip => exact hK _ _ h
    | defer d =>
      have := hSd _ _ h
      rw [Dr.put_defers'] at this
      exact absurd this (by simp)
    | enter f args => exact ⟨h.1, h.2.mono fun e w' he => by
        cases e with
        | returned v => exact hK _ _ he
        | panicked c => exact absurd (hQ _ _ _ he) (by simp)
        | outgrown => obtain ⟨_, _, he⟩ := he; exact absurd (hQ _ _ _ he) (by simp)⟩
    | row row args => exact ⟨h.1, h.2.mono fun v w' he => hK _ _ he⟩
    | round l f tmps assign body => exact ⟨h.1, h.2.mono fun e w' he => by
        cases e with
        | returned v => exact hK _ _ he
        | panicked c => exact absurd (hQ _ _ _ he) (by simp)
        | outgrown => obtain ⟨_, _, he⟩ := he; exact absurd (hQ _ _ _ he) (by simp)⟩
    | _ => exact h.elim
  | halt x w =>
    cases x with
    | panic v => exact absurd (hQ _ _ _ h) (by simp)
    | _ => exact h.elim
/-- The chain's operation is run. -/
theorem chain_step {P : Program} {r : Option Nat} {Q : Exit → Act → World → Prop} {ops : Array Oper} {ms : List Nat} {fin : List (Nat × Bool) × List Nat} {segs : List Sg} {listed : Nat → Prop} {a0 a' : Act} {vals vs : List (Nat × Nat × Value)} {n : Nat × List Nat} {env : List (Nat × Value)}
    {C : Cx} {R : List Res} {Φ : List Fact} {W : World} {K S : Act → World → Prop} {o : Oper}
    (ok : Ok ops ms fin segs a0.tmps.size) (fr : Fr ops listed a0 a' vals) (hsub : ∀ x ∈ vs, x ∈ vals) (he : Env n env a0) {i : Nat} (hi : i < ops.size) (hn : ∀ j ∈ nd ops i, listed j) (hu : ¬ listed i)
    (h1 : ∀ j < ops.size, A ms i j = true → ∀ d, Dr.dstAt ops j = some d → ∃ v, (j, d, v) ∈ vs) (h2 : ∀ x ∈ vs, A ms x.1 i = false) (ho : ops[i]? = some o) (hnd : ∀ c, o.op ≠ .defer c)
    (hp : Jl P r C n ops (fun e a W => e = .normal ∧ S a W) [o] (puts vs ++ env) R Φ) (hs : Sat C R Φ W) (hSd : ∀ a W, S a W → a.defers = a0.defers) (hK : ∀ v W', S ((vact a0 vs).put o.dst v) W' → K (a'.put o.dst v) W') : wpOpIn (Fz r) 0 P ops Q i K a' W := by
  have hag := agree ok fr hsub hi ho hn hu h1 h2
  have hr := hp (vact a0 vs) W (fr_env ok fr hsub he) hs
  have hw := Dr.wanted_slots (ops := ops) hag
  have hev := Dr.eval_slots (ops := ops) hag
  unfold wpOpIn
  simp only [ho]
  rw [hw]
  unfold wpListIn at hr
  split
  · rename_i hwant
    rw [if_pos hwant] at hr
    refine oper_plain hnd ?_
    rw [execOp_congr o (Region.noSelect_spec ok.sel i o · · ho) hev]
    have hr2 := hr.2
    rw [sem_plain r _ o hnd] at hr2
    exact upon_carry (S := wpListIn (Fz r) 0 P ops (fun e a W => e = .normal ∧ S a W) []) (fun e a W h => h.1) (fun a' W h => by rw [vact_defers]; exact hSd a' W h.2) hr2 fun v w h => hK v w h.2
  · rename_i hwant
    rw [if_neg hwant] at hr
    exact ⟨fz_about P r o a' W, hK _ _ hr.2.2⟩
/-- An operation ran: the real frame holds its value. -/
theorem Fr.ran {ops : Array Oper} {ms : List Nat} {fin : List (Nat × Bool) × List Nat} {segs : List Sg} {listed : Nat → Prop} {a0 a' : Act} {vals : List (Nat × Nat × Value)} (ok : Ok ops ms fin segs a0.tmps.size) (fr : Fr ops listed a0 a' vals) {i d : Nat} {v : Value}
    (hi : i < ops.size) (hn : ∀ j ∈ nd ops i, listed j) (hd : Dr.dstAt ops i = some d) (hv : ∀ x ∈ vals, x.1 = i → x.2.2 = v) : Fr ops (fun j => listed j ∨ j = i) a0 (a'.put (some d) v) vals := by
  have hdi := ok.dst i hi d hd
  refine ⟨fun j hj hl k hk => ?_, by rw [Dr.put_size]; exact fr.size, by rw [Dr.put_defers']; exact fr.defers, fr.idx, fr.nodup, fun x hx hl => ?_, fun t ht => ?_⟩
  · rcases hl with hl | rfl
    · exact .inl (fr.closed j hj hl k hk)
    · exact .inl (hn k hk)
  · have hxi := fr.idx x hx
    by_cases e : x.1 = i
    · have hdx : x.2.1 = d := by
        have h2 := hxi.2
        rw [e, hd] at h2
        exact (Option.some.inj h2).symm
      rw [hdx, hv x hx e]
      exact Dr.put_at _ _ _ (by rw [fr.size]; exact hdi.1)
    · have hne : d ≠ x.2.1 := fun h => e (hdi.2 _ hxi.1 (by rw [h]; exact hxi.2))
      rw [Dr.put_ne _ _ _ _ (by simpa using hne)]
      exact fr.put x hx (hl.resolve_right e)
  · have hne : d ≠ t := fun h => ht i hi (by rw [← h]; exact hd) (.inr rfl)
    rw [Dr.put_ne _ _ _ _ (by simpa using hne)]
    exact fr.old t fun j hj hjd hl => ht j hj hjd (.inl hl)
/-- An operation without a slot ran. -/
theorem Fr.ranN {ops : Array Oper} {listed : Nat → Prop} {a0 a' : Act} {vals : List (Nat × Nat × Value)} (fr : Fr ops listed a0 a' vals) {i : Nat} {v : Value} (hn : ∀ j ∈ nd ops i, listed j) (hd : Dr.dstAt ops i = none) : Fr ops (fun j => listed j ∨ j = i) a0 (a'.put none v) vals := by
  refine ⟨fun j hj hl k hk => ?_, fr.size, fr.defers, fr.idx, fr.nodup, fun x hx hl => ?_, fun t ht => fr.old t fun j hj hjd hl => ht j hj hjd (.inl hl)⟩
  · rcases hl with hl | rfl
    · exact .inl (fr.closed j hj hl k hk)
    · exact .inl (hn k hk)
  · rcases hl with hl | e
    · exact fr.put x hx hl
    · have := (fr.idx x hx).2
      rw [e, hd] at this
      cases this
/-- A value is known. -/
theorem Fr.know {ops : Array Oper} {listed : Nat → Prop} {a0 a' : Act} {vals : List (Nat × Nat × Value)} (fr : Fr ops listed a0 a' vals) {i d : Nat} {v : Value} (hi : i < ops.size) (hd : Dr.dstAt ops i = some d) (hn : i ∉ vals.map (·.1)) (hl : listed i → a'.tmps[d]? = some v) :
    Fr ops listed a0 a' ((i, d, v) :: vals) :=
  ⟨fr.closed, fr.size, fr.defers, fun x hx => by
    rcases List.mem_cons.1 hx with rfl | hx
    · exact ⟨hi, hd⟩
    · exact fr.idx x hx, List.nodup_cons.2 ⟨hn, fr.nodup⟩, fun x hx => by
    rcases List.mem_cons.1 hx with rfl | hx
    · exact hl
    · exact fr.put x hx, fr.old⟩
/-- An allocation ahead of its time: a block that nobody knows. -/
theorem pend_new {C : Cx} {X : Nat → Prop} {R : List Res} {Φ : List Fact} {W : World} (o : Obj) (h : Sat ⟨fun b => C.X0 b ∨ X b, C.M0, C.W0⟩ R Φ W) (h2 : ∀ b, X b → C.M0 b ∨ C.W0.heap.size ≤ b) : Sat ⟨fun b => C.X0 b ∨ (X b ∨ b = W.heap.size), C.M0, C.W0⟩ R Φ (W.alloc o) :=
  frame (X' := fun b => X b ∨ b = W.heap.size) h h2 (Foreign.alloc _ W o) fun b hb => hb.imp id fun e => by subst e; exact ⟨Nat.le_refl _, by simp⟩
/-- It is known now. -/
theorem pend_take {C : Cx} {X : Nat → Prop} {R : List Res} {Φ : List Fact} {W : World} {b : Nat} {T : TypeId} {cs : List Value} (h : Sat ⟨fun b => C.X0 b ∨ X b, C.M0, C.W0⟩ R Φ W) (hX : X b) (hb : W.heap[b]? = some (.cells cs.toArray T)) (hn : ¬ C.X0 b) (hsz : C.W0.heap.size ≤ b) :
    Sat ⟨fun x => C.X0 x ∨ (X x ∧ x ≠ b), C.M0, C.W0⟩ (.blk b T cs :: R) Φ W := by
  refine ⟨h.ev, ⟨hb, fun x hx => ?_, h.sep.less fun x hx => hx.imp id fun h => h.1⟩, fun x hx => ?_, fun x hx => h.x0 x (hx.imp id fun h => h.1), fun φ hφ => φ.fr _ _ W W (h.facts φ hφ) (Foreign.refl _ _) fun x hx => .inl ?_⟩
  · have : x = b := hx
    subst this
    exact ⟨fun h' => h'.elim hn fun h' => h'.2 rfl, fun ho => h.sep.notX x ho (.inr hX)⟩
  · rcases hx with hx | hx
    · have : x = b := hx
      subst this
      exact .inr hsz
    · exact h.ours x hx
  · rcases hx with (hx | hx) | hx | hx
    · exact .inl (.inl hx)
    · exact .inl (.inr hx.1)
    · have : x = b := hx
      subst this
      exact .inl (.inr hX)
    · exact .inr hx
section
variable (P : Program) (r : Option Nat) (C : Cx) (n : Nat × List Nat) (ops : Array Oper) (Q : Exit → Act → World → Prop) (ms : List Nat) (env0 : List (Nat × Value))
/-- What an operation of the part that is known may be given. -/
def Seen (vals vs : List (Nat × Nat × Value)) (i : Nat) : Prop :=
  (∃ vn, vals = vn ++ vs) ∧ (∀ j < ops.size, A ms i j = true → ∀ d, Dr.dstAt ops j = some d → ∃ v, (j, d, v) ∈ vs) ∧ ∀ x ∈ vs, A ms x.1 i = false
/-- While the region runs. -/
structure RT (listed : Nat → Prop) (a0 a' : Act) (W : World) (vals : List (Nat × Nat × Value)) (acc : List (Nat × List Res)) (R : List Res) (Φ : List Fact) (es : List (Nat × Al)) (pend : List (Nat × Nat)) : Prop where
  fr : Fr ops listed a0 a' vals
  reads : ∀ x ∈ vals, ¬ listed x.1 → ∃ vs Rs1 Φ1, Seen ops ms vals vs x.1 ∧ Pure P n ops x.1 (puts vs ++ env0) Rs1 Φ1 x.2.2 ∧ (Rs1 = [] ∨ (x.1, Rs1) ∈ acc) ∧ ∃ Φn, Φ = Φn ++ Φ1
  early : ∀ e ∈ es, ∃ vs, Seen ops ms vals vs e.1 ∧ Early P n ops e.1 (puts vs ++ env0) e.2
  esN : (es.map (·.1)).Nodup
  pendN : (pend.map (·.2)).Nodup ∧ (pend.map (·.1)).Nodup
  pends : ∀ p ∈ pend, listed p.1 ∧ (∀ x ∈ vals, x.1 ≠ p.1) ∧ ∃ d z, Dr.dstAt ops p.1 = some d ∧ (p.1, z) ∈ es ∧ a'.tmps[d]? = some (bval z.1 p.2) ∧ W.heap[p.2]? = some (.cells z.2.2.toArray z.2.1) ∧ C.W0.heap.size ≤ p.2 ∧ ¬ C.X0 p.2
  sat : Sat ⟨fun b => C.X0 b ∨ b ∈ pend.map (·.2), C.M0, C.W0⟩ R Φ W
  take : ∀ p ∈ acc, ∃ R0, Take p.2 R R0
end
theorem _root_.Go.Proofs.YtcppphgpbaablaaGreatDoor.Sat.x0le' {X X' M : Nat → Prop} {W0 : World} {R : List Res} {Φ : List Fact} {W : World} (h : Sat ⟨X, M, W0⟩ R Φ W) (hX : ∀ b, X' b → X b) : Sat ⟨X', M, W0⟩ R Φ W :=
  ⟨h.ev, h.sep.less hX, h.ours, fun b hb => h.x0 b (hX b hb), fun φ hφ => φ.fr _ _ W W (h.facts φ hφ) (Foreign.refl _ _) fun b hb => .inl (hb.imp (hX b) id)⟩
theorem Seen.more {ops : Array Oper} {ms : List Nat} {vals vs : List (Nat × Nat × Value)} {i : Nat} (h : Seen ops ms vals vs i) (x : Nat × Nat × Value) : Seen ops ms (x :: vals) vs i := by
  obtain ⟨⟨vn, hv⟩, h1, h2⟩ := h
  exact ⟨⟨x :: vn, by rw [hv]; rfl⟩, h1, h2⟩
theorem Seen.sub {ops : Array Oper} {ms : List Nat} {vals vs : List (Nat × Nat × Value)} {i : Nat} (h : Seen ops ms vals vs i) : ∀ x ∈ vs, x ∈ vals := by
  obtain ⟨⟨vn, hv⟩, _⟩ := h
  intro x hx
  rw [hv]; exact List.mem_append_right _ hx
theorem sat_part {C : Cx} {R Rs R0 : List Res} {Φ Φ1 Φn : List Fact} {W : World} (h : Sat C R Φ W) (ht : Take Rs R R0) (hf : Φ = Φn ++ Φ1) : Sat C Rs Φ1 W := by
  obtain ⟨q1, q2⟩ := ht.sep h.sep
  exact ⟨h.ev, q1.less fun b hb => .inl hb, fun b hb => h.ours b ((ht.own b).2 (.inl hb)), h.x0, fun φ hφ => φ.fr _ _ W W (h.facts φ (by rw [hf]; exact List.mem_append_right _ hφ)) (Foreign.refl _ _) fun b hb => .inl (hb.imp id fun h => (ht.own b).2 (.inl h))⟩
theorem sat_tail {C : Cx} {W : World} {Φ : List Fact} {Rs : List Res} : ∀ {Rn : List Res}, Sat C (Rn ++ Rs) Φ W → Sat C Rs Φ W
  | [], h => h
  | q :: Rn, h => sat_tail (Rn := Rn) ⟨h.ev, h.sep.2.2, fun b hb => h.ours b (.inr hb), h.x0, fun φ hφ => φ.fr _ _ W W (h.facts φ hφ) (Foreign.refl _ _) fun b hb => .inl (hb.imp id .inr)⟩
section
variable {P : Program} {r : Option Nat} {C : Cx} {n : Nat × List Nat} {ops : Array Oper} {Q : Exit → Act → World → Prop} {ms : List Nat} {env0 : List (Nat × Value)} {fin : List (Nat × Bool) × List Nat} {segs : List Sg} {listed : Nat → Prop} {a0 a' : Act} {W : World}
  {vals : List (Nat × Nat × Value)} {acc : List (Nat × List Res)} {R : List Res} {Φ : List Fact} {es : List (Nat × Al)} {pend : List (Nat × Nat)}
/-- What is only read, and is known, is run. -/
theorem RT.pure (ok : Ok ops ms fin segs a0.tmps.size) (he : Env n env0 a0) (h : RT P C n ops ms env0 listed a0 a' W vals acc R Φ es pend) {x : Nat × Nat × Value} (hx : x ∈ vals) (hu : ¬ listed x.1) (hn : ∀ j ∈ nd ops x.1, listed j) {K : Act → World → Prop}
    (hK : RT P C n ops ms env0 (fun j => listed j ∨ j = x.1) a0 (a'.put (some x.2.1) x.2.2) W vals acc R Φ es pend → K (a'.put (some x.2.1) x.2.2) W) : wpOpIn (Fz r) 0 P ops Q x.1 K a' W := by
  obtain ⟨vs, Rs1, Φ1, hseen, hp, hRn, ⟨Φn, hΦ⟩⟩ := h.reads x hx hu
  have hR : ∃ R0, Take Rs1 R R0 := by
    rcases hRn with rfl | hRn
    · exact ⟨R, Take.nil⟩
    · exact h.take _ hRn
  obtain ⟨R0, hR0⟩ := hR
  have hxi := h.fr.idx x hx
  have hs := sat_part h.sat hR0 hΦ
  refine pure_step ok h.fr hseen.sub he hxi.1 hn hu hseen.2.1 hseen.2.2 hp hs hxi.2 (hK ⟨h.fr.ran ok hxi.1 hn hxi.2 fun y hy e => by rw [vals_inj h.fr.nodup hy hx e], fun y hy hl => h.reads y hy fun hl' => hl (.inl hl'), h.early, h.esN, h.pendN, fun p hp => ?_, h.sat, h.take⟩)
  obtain ⟨q1, q2, d, z, q3, q4, q5, q6, q7, q8⟩ := h.pends p hp
  refine ⟨.inl q1, q2, d, z, q3, q4, ?_, q6, q7, q8⟩
  have hne : x.2.1 ≠ d := fun e => q2 x hx ((ok.dst _ hxi.1 _ hxi.2).2 p.1 (by
    rcases Nat.lt_or_ge p.1 ops.size with h | h
    · exact h
    · simp [Dr.dstAt, Array.getElem?_eq_none h] at q3) (by rw [q3, e])).symm
  rw [Dr.put_ne _ _ _ _ (by simpa using hne)]
  exact q5
/-- An allocation is run, ahead of its time. -/
theorem RT.alloc (ok : Ok ops ms fin segs a0.tmps.size) (he : Env n env0 a0) (h : RT P C n ops ms env0 listed a0 a' W vals acc R Φ es pend) {i d : Nat} {z : Al} (hi : i < ops.size) (hd : Dr.dstAt ops i = some d) (hx : (i, z) ∈ es) (hv : ∀ x ∈ vals, x.1 ≠ i) (hu : ¬ listed i)
    (hn : ∀ j ∈ nd ops i, listed j) {K : Act → World → Prop}
    (hK : RT P C n ops ms env0 (fun j => listed j ∨ j = i) a0 (a'.put (some d) (bval z.1 W.heap.size)) (W.alloc (.cells z.2.2.toArray z.2.1)) vals acc R Φ es ((i, W.heap.size) :: pend) →
      K (a'.put (some d) (bval z.1 W.heap.size)) (W.alloc (.cells z.2.2.toArray z.2.1))) : wpOpIn (Fz r) 0 P ops Q i K a' W := by
  obtain ⟨vs, hseen, hp⟩ := h.early _ hx
  have hlt : ∀ p ∈ pend, p.2 < W.heap.size := fun p hp => by
    obtain ⟨_, _, d, z, _, _, _, q6, _⟩ := h.pends p hp
    exact (Array.getElem?_eq_some_iff.1 q6).1
  have hdi := ok.dst i hi d hd
  refine alloc_step ok h.fr hseen.sub he hi hn hu hseen.2.1 hseen.2.2 hp hd (hK ⟨h.fr.ran ok hi hn hd fun y hy e => absurd e (hv y hy), fun y hy hl => h.reads y hy fun hl' => hl (.inl hl'), h.early, h.esN,
    ⟨List.nodup_cons.2 ⟨fun hm => ?_, h.pendN.1⟩, List.nodup_cons.2 ⟨fun hm => ?_, h.pendN.2⟩⟩, fun p hp => ?_, ?_, h.take⟩)
  · obtain ⟨p, hp, e⟩ := List.mem_map.1 hm
    have := hlt p hp
    rw [show p.2 = W.heap.size from e] at this
    exact absurd this (Nat.lt_irrefl _)
  · obtain ⟨p, hp, e⟩ := List.mem_map.1 hm
    have := (h.pends p hp).1
    rw [e] at this
    exact hu this
  · rcases List.mem_cons.1 hp with rfl | hp
    · refine ⟨.inr rfl, hv, d, z, hd, hx, Dr.put_at _ _ _ (by rw [h.fr.size]; exact hdi.1), World.alloc_heap_new W _, h.sat.ev.size, fun hX => absurd (h.sat.x0 _ (.inl hX)) (Nat.lt_irrefl _)⟩
    · obtain ⟨q1, q2, d', z', q3, q4, q5, q6, q7, q8⟩ := h.pends p hp
      refine ⟨.inl q1, q2, d', z', q3, q4, ?_, (Below.heap_alloc W _ _ (hlt p hp)).trans q6, q7, q8⟩
      have hne : d ≠ d' := fun e => hu (by
        have : p.1 = i := hdi.2 p.1 (by
          rcases Nat.lt_or_ge p.1 ops.size with h | h
          · exact h
          · simp [Dr.dstAt, Array.getElem?_eq_none h] at q3) (by rw [q3, e])
        rw [← this]; exact q1)
      rw [Dr.put_ne _ _ _ _ (by simpa using hne)]
      exact q5
  · have := pend_new (X := fun b => b ∈ pend.map (·.2)) (.cells z.2.2.toArray z.2.1) h.sat fun b hb => by
      obtain ⟨p, hp, rfl⟩ := List.mem_map.1 hb
      obtain ⟨_, _, _, _, _, _, _, _, q7, _⟩ := h.pends p hp
      exact .inr q7
    refine this.x0le' fun b hb => ?_
    rcases hb with hb | hb
    · exact .inl hb
    · rw [List.map_cons] at hb
      rcases List.mem_cons.1 hb with hb | hb
      · exact .inr (.inr hb)
      · exact .inr (.inl hb)
/-- A read of the next block is known. -/
theorem RT.know (h : RT P C n ops ms env0 listed a0 a' W vals acc R Φ es pend) {i d : Nat} {v : Value} (hi : i < ops.size) (hd : Dr.dstAt ops i = some d) (hni : i ∉ vals.map (·.1)) (hu : ¬ listed i) {Ri : List Res} {acc' : List (Nat × List Res)} (hp : Pure P n ops i (puts vals ++ env0) Ri Φ v) (hacc : (Ri = [] ∧ acc' = acc) ∨ (acc' = (i, Ri) :: acc ∧ ∃ R0, Take Ri R R0)) {Φ' : List Fact} (hΦ : FMore Φ' Φ)
    (h1 : ∀ j < ops.size, A ms i j = true → ∀ d, Dr.dstAt ops j = some d → ∃ v, (j, d, v) ∈ vals) (h2 : ∀ x ∈ vals, A ms x.1 i = false) : RT P C n ops ms env0 listed a0 a' W ((i, d, v) :: vals) acc' R Φ' es pend := by
  obtain ⟨Φn, rfl, hΦn⟩ := hΦ
  refine ⟨h.fr.know hi hd hni fun hl => absurd hl hu, fun x hx hl => ?_, fun e he => ?_, h.esN, h.pendN, fun p hp => ?_, ⟨h.sat.ev, h.sat.sep, h.sat.ours, h.sat.x0, fun φ hφ => (List.mem_append.1 hφ).elim (hΦn _ _ h.sat.facts φ) (h.sat.facts φ)⟩, fun p hp => ?_⟩
  · rcases List.mem_cons.1 hx with rfl | hx
    · refine ⟨vals, Ri, Φ, ⟨⟨[_], rfl⟩, h1, h2⟩, hp, ?_, ⟨Φn, rfl⟩⟩
      rcases hacc with ⟨h, _⟩ | ⟨rfl, _⟩
      · exact .inl h
      · exact .inr (List.mem_cons_self ..)
    · obtain ⟨vs, Rs1, Φ1, q1, q2, q3, ⟨Φm, q4⟩⟩ := h.reads x hx hl
      refine ⟨vs, Rs1, Φ1, q1.more _, q2, ?_, ⟨Φn ++ Φm, by rw [q4, List.append_assoc]⟩⟩
      rcases hacc with ⟨_, rfl⟩ | ⟨rfl, _⟩
      · exact q3
      · exact q3.imp id (List.mem_cons_of_mem _)
  · obtain ⟨vs, q1, q2⟩ := h.early e he
    exact ⟨vs, q1.more _, q2⟩
  · obtain ⟨q1, q2, q3⟩ := h.pends p hp
    refine ⟨q1, fun x hx => ?_, q3⟩
    rcases List.mem_cons.1 hx with rfl | hx
    · intro e
      exact hu (by rw [show i = p.1 from e]; exact q1)
    · exact q2 x hx
  · rcases hacc with ⟨_, rfl⟩ | ⟨rfl, ht⟩
    · exact h.take p hp
    · rcases List.mem_cons.1 hp with rfl | hp
      · exact ht
      · exact h.take p hp
/-- An allocation of the next block is told of. -/
theorem RT.tell (h : RT P C n ops ms env0 listed a0 a' W vals acc R Φ es pend) {i : Nat} {z : Al} (hni : i ∉ es.map (·.1)) (hp : Early P n ops i (puts vals ++ env0) z)
    (h1 : ∀ j < ops.size, A ms i j = true → ∀ d, Dr.dstAt ops j = some d → ∃ v, (j, d, v) ∈ vals) (h2 : ∀ x ∈ vals, A ms x.1 i = false) : RT P C n ops ms env0 listed a0 a' W vals acc R Φ ((i, z) :: es) pend := by
  refine ⟨h.fr, h.reads, fun e he => ?_, List.nodup_cons.2 ⟨hni, h.esN⟩, h.pendN, fun p hp => ?_, h.sat, h.take⟩
  · rcases List.mem_cons.1 he with rfl | he
    · exact ⟨vals, ⟨⟨[], rfl⟩, h1, h2⟩, hp⟩
    · exact h.early e he
  · obtain ⟨q1, q2, d, z', q3, q4, q5⟩ := h.pends p hp
    exact ⟨q1, q2, d, z', q3, List.mem_cons_of_mem _ q4, q5⟩
/-- A late allocation is known. -/
theorem RT.late (ok : Ok ops ms fin segs a0.tmps.size) (h : RT P C n ops ms env0 listed a0 a' W vals acc R Φ es pend) {i d : Nat} {z : Al} (hi : i < ops.size) (hd : Dr.dstAt ops i = some d) (hx : (i, z) ∈ es) (hp : i ∈ pend.map (·.1)) :
    ∃ b, RT P C n ops ms env0 listed a0 a' W ((i, d, bval z.1 b) :: vals) acc (.blk b z.2.1 z.2.2 :: R) Φ es (pend.filter fun p => p.1 != i) := by
  obtain ⟨p, hpm, rfl⟩ := List.mem_map.1 hp
  obtain ⟨q1, q2, d', z', q3, q4, q5, q6, q7, q8⟩ := h.pends p hpm
  have e1 : (p.1, z') = (p.1, z) := es_inj h.esN q4 hx rfl
  simp only [Prod.mk.injEq, true_and] at e1
  subst e1
  rw [hd] at q3; cases q3
  have hni : p.1 ∉ vals.map (·.1) := fun hm => by
    obtain ⟨x, hx, e⟩ := List.mem_map.1 hm
    exact q2 x hx e
  have h2eq : ∀ q ∈ pend, q.1 = p.1 → q = p := fun q hq e => pair_inj h.pendN.2 hq hpm e
  refine ⟨p.2, h.fr.know hi hd hni fun _ => q5, fun x hx hl => ?_, fun e he => ?_, h.esN, ⟨h.pendN.1.sublist ((List.filter_sublist).map _), h.pendN.2.sublist ((List.filter_sublist).map _)⟩, fun q hq => ?_, ?_, fun q hq => ?_⟩
  · rcases List.mem_cons.1 hx with rfl | hx
    · exact absurd q1 hl
    · obtain ⟨vs, Rs1, Φ1, q1, q2, q3, q4⟩ := h.reads x hx hl
      exact ⟨vs, Rs1, Φ1, q1.more _, q2, q3, q4⟩
  · obtain ⟨vs, q1, q2⟩ := h.early e he
    exact ⟨vs, q1.more _, q2⟩
  · obtain ⟨hq, hne⟩ := List.mem_filter.1 hq
    obtain ⟨r1, r2, r3⟩ := h.pends q hq
    refine ⟨r1, fun x hx => ?_, r3⟩
    rcases List.mem_cons.1 hx with rfl | hx
    · intro e
      simp only [bne_iff_ne, ne_eq] at hne
      exact hne e.symm
    · exact r2 x hx
  · refine (pend_take (X := fun b => b ∈ pend.map (·.2)) h.sat (List.mem_map.2 ⟨p, hpm, rfl⟩) q6 q8 q7).x0le' fun b hb => ?_
    rcases hb with hb | hb
    · exact .inl hb
    · obtain ⟨q, hq, rfl⟩ := List.mem_map.1 hb
      obtain ⟨hq, hne⟩ := List.mem_filter.1 hq
      refine .inr ⟨List.mem_map.2 ⟨q, hq, rfl⟩, fun e => ?_⟩
      have := pair_inj2 h.pendN.1 hq hpm e
      rw [this] at hne
      simp at hne
  · obtain ⟨R0, hR0⟩ := h.take q hq
    exact ⟨_, take_under hR0⟩
where
  es_inj {es : List (Nat × Al)} (h : (es.map (·.1)).Nodup) : ∀ {x y : Nat × Al}, x ∈ es → y ∈ es → x.1 = y.1 → x = y := by
    induction es with
    | nil => intro x y hx; simp at hx
    | cons z vs ih =>
      intro x y hx hy e
      simp only [List.map_cons, List.nodup_cons] at h
      rcases List.mem_cons.1 hx with h1 | h1 <;> rcases List.mem_cons.1 hy with h2 | h2
      · rw [h1, h2]
      · exact (h.1 (List.mem_map.2 ⟨y, h2, by rw [← e, h1]⟩)).elim
      · exact (h.1 (List.mem_map.2 ⟨x, h1, by rw [e, h2]⟩)).elim
      · exact ih h.2 h1 h2 e
  pair_inj {es : List (Nat × Nat)} (h : (es.map (·.1)).Nodup) : ∀ {x y : Nat × Nat}, x ∈ es → y ∈ es → x.1 = y.1 → x = y := by
    induction es with
    | nil => intro x y hx; simp at hx
    | cons z vs ih =>
      intro x y hx hy e
      simp only [List.map_cons, List.nodup_cons] at h
      rcases List.mem_cons.1 hx with h1 | h1 <;> rcases List.mem_cons.1 hy with h2 | h2
      · rw [h1, h2]
      · exact (h.1 (List.mem_map.2 ⟨y, h2, by rw [← e, h1]⟩)).elim
      · exact (h.1 (List.mem_map.2 ⟨x, h1, by rw [e, h2]⟩)).elim
      · exact ih h.2 h1 h2 e
  pair_inj2 {es : List (Nat × Nat)} (h : (es.map (·.2)).Nodup) : ∀ {x y : Nat × Nat}, x ∈ es → y ∈ es → x.2 = y.2 → x = y := by
    induction es with
    | nil => intro x y hx; simp at hx
    | cons z vs ih =>
      intro x y hx hy e
      simp only [List.map_cons, List.nodup_cons] at h
      rcases List.mem_cons.1 hx with h1 | h1 <;> rcases List.mem_cons.1 hy with h2 | h2
      · rw [h1, h2]
      · exact (h.1 (List.mem_map.2 ⟨y, h2, by rw [← e, h1]⟩)).elim
      · exact (h.1 (List.mem_map.2 ⟨x, h1, by rw [e, h2]⟩)).elim
      · exact ih h.2 h1 h2 e
  take_under {q : Res} : ∀ {rs R R' : List Res}, Take rs R R' → Take rs (q :: R) (q :: R')
    | [], R, R', h => by rw [show R = R' from h]; exact Take.nil
    | x :: rs, R, R', h => by
      obtain ⟨R1, h1, h2⟩ := h
      exact ⟨q :: R1, Del.there h1, take_under h2⟩
theorem keep_spec {e : Nat} {R' : List Res} : ∀ {acc acc' : List (Nat × List Res)}, KeepL ms e R' acc acc' → (∀ p ∈ acc, A ms e p.1 = true ∨ p ∈ acc') ∧ (∀ p ∈ acc', p ∈ acc) ∧ ∀ p ∈ acc', ∃ R0, Take p.2 R' R0
  | [], acc', h => by
    have : acc' = [] := h
    subst this
    simp
  | (i, Ri) :: acc, acc', h => by
    rcases h with ⟨ha, h⟩ | ⟨acc'', rfl, ht, h⟩
    · obtain ⟨h1, h2, h3⟩ := keep_spec h
      refine ⟨fun p hp => ?_, fun p hp => List.mem_cons_of_mem _ (h2 p hp), h3⟩
      rcases List.mem_cons.1 hp with rfl | hp
      · exact .inl ha
      · exact h1 p hp
    · obtain ⟨h1, h2, h3⟩ := keep_spec h
      refine ⟨fun p hp => ?_, fun p hp => ?_, fun p hp => ?_⟩
      · rcases List.mem_cons.1 hp with rfl | hp
        · exact .inr (List.mem_cons_self ..)
        · exact (h1 p hp).imp id (List.mem_cons_of_mem _)
      · rcases List.mem_cons.1 hp with rfl | hp
        · exact List.mem_cons_self ..
        · exact List.mem_cons_of_mem _ (h2 p hp)
      · rcases List.mem_cons.1 hp with rfl | hp
        · exact ht
        · exact h3 p hp
/-- The chain's operation is run. -/
theorem RT.chain (ok : Ok ops ms fin segs a0.tmps.size) (he : Env n env0 a0) (h : RT P C n ops ms env0 listed a0 a' W vals acc R Φ es pend) {i : Nat} {o : Oper} (ho : ops[i]? = some o) (hnd : ∀ c, o.op ≠ .defer c) (hu : ¬ listed i) (hn : ∀ j ∈ nd ops i, listed j)
    (h1 : ∀ j < ops.size, A ms i j = true → ∀ d, Dr.dstAt ops j = some d → ∃ v, (j, d, v) ∈ vals) (h2 : ∀ x ∈ vals, A ms x.1 i = false) (hni : i ∉ vals.map (·.1)) {J : List (Nat × Value) → List Res → List Fact → List (Nat × List Res) → Prop} (hanc : ∀ j, A ms i j = true → j < ops.size → listed j) (hai : ∀ p ∈ acc, p.1 < ops.size)
    (hp : ∀ C' : Cx, Jl P r C' n ops (Post n ms o i (puts vals ++ env0) Φ acc J C') [o] (puts vals ++ env0) R Φ) {K : Act → World → Prop}
    (hK : ∀ a'' W' vals' acc' R' Φ', RT P C n ops ms env0 (fun j => listed j ∨ j = i) a0 a'' W' vals' acc' R' Φ' es pend → (∀ p ∈ acc', p ∈ acc) → (match o.dst with | some d => ∃ v, vals' = (i, d, v) :: vals | none => vals' = vals) → J (puts vals' ++ env0) R' Φ' acc' → K a'' W') : wpOpIn (Fz r) 0 P ops Q i K a' W := by
  have hi : i < ops.size := (Array.getElem?_eq_some_iff.1 ho).1
  obtain ⟨W0, hW0⟩ : ∃ W0, W0 = W := ⟨W, rfl⟩
  rw [← hW0] at h
  rw [← hW0]
  refine chain_step (C := ⟨fun b => C.X0 b ∨ b ∈ pend.map (·.2), ownL R, W0⟩) ok h.fr (fun x hx => hx) he hi hn hu h1 h2 ho hnd (S := fun a W => ∃ env' R' Φ' acc', Env n env' a ∧ Sat ⟨fun b => C.X0 b ∨ b ∈ pend.map (·.2), ownL R, W0⟩ R' Φ' W ∧ KeepL ms i R' acc acc' ∧ FExt Φ' Φ ∧ (match o.dst with | some d => ∃ v, env' = (d, v) :: (puts vals ++ env0) | none => env' = puts vals ++ env0) ∧ J env' R' Φ' acc') (hp _) h.sat.rebase (fun a W ⟨env', _, _, _, h1, _⟩ => by rw [h1.defers, he.defers]) ?_
  rintro v W' ⟨env', R', Φ', acc', g1, g2, g3, ⟨Φn, g5⟩, g6, g7⟩
  obtain ⟨k1, k2, k3⟩ := keep_spec g3
  have hpend : ∀ p ∈ pend, W'.heap[p.2]? = W0.heap[p.2]? := fun p hp => by
    obtain ⟨_, _, d, z, _, _, _, q6, _⟩ := h.pends p hp
    exact g2.ev.block _ (Array.getElem?_eq_some_iff.1 q6).1 fun hm => h.sat.sep.notX _ hm (.inr (List.mem_map.2 ⟨p, hp, rfl⟩))
  have hreads : ∀ x ∈ vals, ¬ (listed x.1 ∨ x.1 = i) → ∃ vs Rs1 Φ1, Seen ops ms vals vs x.1 ∧ Pure P n ops x.1 (puts vs ++ env0) Rs1 Φ1 x.2.2 ∧ (Rs1 = [] ∨ (x.1, Rs1) ∈ acc') ∧ ∃ Φn, Φ' = Φn ++ Φ1 := fun x hx hl => by
    obtain ⟨vs, Rs1, Φ1, q1, q2, q3, ⟨Φm, q4⟩⟩ := h.reads x hx fun hl' => hl (.inl hl')
    refine ⟨vs, Rs1, Φ1, q1, q2, q3.imp id fun q3 => (k1 _ q3).resolve_left fun ha => hl (.inl (hanc _ ha (hai _ q3))), ⟨Φn ++ Φm, by rw [g5, q4, List.append_assoc]⟩⟩
  cases hd : o.dst with
  | none =>
    rw [hd] at g6 hK
    have hdn : Dr.dstAt ops i = none := by simp [Dr.dstAt, ho, hd]
    refine hK _ W' vals acc' R' Φ' ⟨h.fr.ranN hn hdn, hreads, h.early, h.esN, h.pendN, fun p hp => ?_, h.sat.compose g2, k3⟩ k2 rfl (by rw [← g6]; exact g7)
    obtain ⟨q1, q2, d, z, q3, q4, q5, q6, q7, q8⟩ := h.pends p hp
    exact ⟨.inl q1, q2, d, z, q3, q4, q5, (hpend p hp).trans q6, q7, q8⟩
  | some d =>
    rw [hd] at g6 hK g1
    obtain ⟨u, g6⟩ := g6
    have hdd : Dr.dstAt ops i = some d := by simp [Dr.dstAt, ho, hd]
    have hdi := ok.dst i hi d hdd
    have huv : u = v := by
      have := g1.at_ d u (by rw [g6]; simp [elook])
      rw [Dr.put_at _ _ _ (by rw [vact_size]; exact hdi.1)] at this
      exact (Option.some.inj this).symm
    subst huv
    refine hK _ W' ((i, d, u) :: vals) acc' R' Φ' ⟨(h.fr.ran ok hi hn hdd fun x hx e => absurd (List.mem_map.2 ⟨x, hx, e⟩) hni).know hi hdd hni fun _ => Dr.put_at _ _ _ (by rw [h.fr.size]; exact hdi.1), fun x hx hl => ?_, fun e he => ?_, h.esN, h.pendN, fun p hp => ?_, h.sat.compose g2, k3⟩ k2 ⟨_, rfl⟩ (by rw [g6] at g7; exact g7)
    · rcases List.mem_cons.1 hx with rfl | hx
      · exact absurd (.inr rfl) hl
      · obtain ⟨vs, Rs1, Φ1, q1, q2, q3⟩ := hreads x hx hl
        exact ⟨vs, Rs1, Φ1, q1.more _, q2, q3⟩
    · obtain ⟨vs, q1, q2⟩ := h.early e he
      exact ⟨vs, q1.more _, q2⟩
    · obtain ⟨q1, q2, d', z, q3, q4, q5, q6, q7, q8⟩ := h.pends p hp
      have hpi : p.1 ≠ i := fun e => hu (by rw [← e]; exact q1)
      refine ⟨.inl q1, fun x hx => ?_, d', z, q3, q4, ?_, (hpend p hp).trans q6, q7, q8⟩
      · rcases List.mem_cons.1 hx with rfl | hx
        · exact fun e => hpi e.symm
        · exact q2 x hx
      · have hne : d ≠ d' := fun e => hpi (hdi.2 p.1 (by
          rcases Nat.lt_or_ge p.1 ops.size with h | h
          · exact h
          · simp [Dr.dstAt, Array.getElem?_eq_none h] at q3) (by rw [q3, e]))
        rw [Dr.put_ne _ _ _ _ (by simpa using hne)]
        exact q5
/-- A call of yield is run: nothing else is under way. -/
theorem RT.chainY (ok : Ok ops ms fin segs a0.tmps.size) (he : Env n env0 a0) (h : RT P C n ops ms env0 listed a0 a' W vals acc R Φ es pend) {i : Nat} {o : Oper} (ho : ops[i]? = some o) (hnd : ∀ c, o.op ≠ .defer c) (hu : ¬ listed i) (hn : ∀ j ∈ nd ops i, listed j)
    (h1 : ∀ j < ops.size, A ms i j = true → ∀ d, Dr.dstAt ops j = some d → ∃ v, (j, d, v) ∈ vals) (h2 : ∀ x ∈ vals, A ms x.1 i = false) (hni : i ∉ vals.map (·.1)) {J : List (Nat × Value) → List Res → List Fact → List (Nat × List Res) → Prop} (hanc : ∀ j, A ms i j = true → j < ops.size → listed j) (hsolo : solo ops ms i = true)
    (hp : Jl P r C n ops (PostY C n o (puts vals ++ env0) J) [o] (puts vals ++ env0) R Φ) {K : Act → World → Prop}
    (hK : ∀ a'' W' vals' acc' R' Φ', RT P C n ops ms env0 (fun j => listed j ∨ j = i) a0 a'' W' vals' acc' R' Φ' es pend → (∀ p ∈ acc', p ∈ acc) → (match o.dst with | some d => ∃ v, vals' = (i, d, v) :: vals | none => vals' = vals) → J (puts vals' ++ env0) R' Φ' acc' → K a'' W') : wpOpIn (Fz r) 0 P ops Q i K a' W := by
  have hi : i < ops.size := (Array.getElem?_eq_some_iff.1 ho).1
  have hs : ∀ j < ops.size, j = i ∨ A ms i j = true ∨ A ms j i = true := fun j hj => by
    have := List.all_eq_true.1 hsolo j (List.mem_range.2 hj)
    simpa [or_assoc] using this
  have hpn : pend = [] := by
    cases hpe : pend with
    | nil => rfl
    | cons p ps =>
      exfalso
      obtain ⟨q1, q2, d, z, q3, _⟩ := h.pends p (by rw [hpe]; simp)
      have hpi : p.1 < ops.size := by
        rcases Nat.lt_or_ge p.1 ops.size with h | h
        · exact h
        · simp [Dr.dstAt, Array.getElem?_eq_none h] at q3
      rcases hs p.1 hpi with e | e | e
      · exact hu (by rw [← e]; exact q1)
      · obtain ⟨v, hv⟩ := h1 _ hpi e _ q3
        exact q2 _ hv rfl
      · exact hu (anc_listed ok.lt ok.anc h.fr.closed p.1 hpi (h.fr.closed p.1 hpi q1) i hi e)
  subst hpn
  refine chain_step (C := C) ok h.fr (fun x hx => hx) he hi hn hu h1 h2 ho hnd (S := fun a W => ∃ env' R' Φ', Env n env' a ∧ Sat C R' Φ' W ∧ (match o.dst with | some d => ∃ v, env' = (d, v) :: (puts vals ++ env0) | none => env' = puts vals ++ env0) ∧ J env' R' Φ' []) hp (h.sat.x0le' fun b hb => .inl hb) (fun a W ⟨env', _, _, h1, _⟩ => by rw [h1.defers, he.defers]) ?_
  rintro v W' ⟨env', R', Φ', g1, g2, g6, g7⟩
  have hreads : ∀ x ∈ vals, ¬ (listed x.1 ∨ x.1 = i) → False := fun x hx hl => by
    rcases hs x.1 (h.fr.idx x hx).1 with e | e | e
    · exact hl (.inr e)
    · exact hl (.inl (hanc _ e (h.fr.idx x hx).1))
    · rw [h2 x hx] at e; cases e
  have hsat : Sat ⟨fun b => C.X0 b ∨ b ∈ ([] : List (Nat × Nat)).map (·.2), C.M0, C.W0⟩ R' Φ' W' := g2.x0le' fun b hb => hb.elim id fun h => by simp at h
  cases hd : o.dst with
  | none =>
    rw [hd] at g6 hK
    have hdn : Dr.dstAt ops i = none := by simp [Dr.dstAt, ho, hd]
    exact hK _ W' vals [] R' Φ' ⟨h.fr.ranN hn hdn, fun x hx hl => (hreads x hx hl).elim, h.early, h.esN, h.pendN, fun p hp => by simp at hp, hsat, fun p hp => by simp at hp⟩ (fun p hp => by simp at hp) rfl (by rw [← g6]; exact g7)
  | some d =>
    rw [hd] at g6 hK g1
    obtain ⟨u, g6⟩ := g6
    have hdd : Dr.dstAt ops i = some d := by simp [Dr.dstAt, ho, hd]
    have hdi := ok.dst i hi d hdd
    have huv : u = v := by
      have := g1.at_ d u (by rw [g6]; simp [elook])
      rw [Dr.put_at _ _ _ (by rw [vact_size]; exact hdi.1)] at this
      exact (Option.some.inj this).symm
    subst huv
    refine hK _ W' ((i, d, u) :: vals) [] R' Φ' ⟨(h.fr.ran ok hi hn hdd fun x hx e => absurd (List.mem_map.2 ⟨x, hx, e⟩) hni).know hi hdd hni fun _ => Dr.put_at _ _ _ (by rw [h.fr.size]; exact hdi.1), fun x hx hl => ?_, fun e he => ?_, h.esN, h.pendN, fun p hp => by simp at hp, hsat, fun p hp => by simp at hp⟩ (fun p hp => by simp at hp) ⟨_, rfl⟩ (by rw [g6] at g7; exact g7)
    · rcases List.mem_cons.1 hx with rfl | hx
      · exact absurd (.inr rfl) hl
      · exact (hreads x hx hl).elim
    · obtain ⟨vs, q1, q2⟩ := h.early e he
      exact ⟨vs, q1.more _, q2⟩
end
/-- The part of the canonical order that is known, and the rest. -/
structure ST (ops : Array Oper) (ms : List Nat) (all dn rem : List (Nat × Nat)) (listed : Nat → Prop) (vals : List (Nat × Nat × Value)) (es : List (Nat × Al)) (pend : List (Nat × Nat)) : Prop where
  whole : all = dn ++ rem
  known : ∀ p ∈ dn, p.2 ≠ 1 → ∀ d, Dr.dstAt ops p.1 = some d → ∃ v, (p.1, d, v) ∈ vals
  pures : ∀ p ∈ dn, p.2 = 0 → ∃ x ∈ vals, x.1 = p.1
  vin : ∀ x ∈ vals, ∃ k, k ≠ 1 ∧ (x.1, k) ∈ dn
  told : ∀ p ∈ dn, p.2 = 1 → ∃ z, (p.1, z) ∈ es
  tin : ∀ e ∈ es, (e.1, 1) ∈ dn
  done : ∀ p ∈ dn, p.2 = 2 ∨ p.2 = 3 → listed p.1
  undone : ∀ p ∈ rem, p.2 ≠ 2 → ¬ listed p.1
  pendIn : ∀ i, (i, 1) ∈ dn → (i, 2) ∈ rem → listed i → i ∈ pend.map (·.1)
  anc : ∀ x ∈ vals, ∀ j < ops.size, A ms x.1 j = true → ∃ k, k ≠ 1 ∧ (j, k) ∈ dn
  anc1 : ∀ e ∈ es, ∀ j < ops.size, A ms e.1 j = true → ∃ k, k ≠ 1 ∧ (j, k) ∈ dn
  seen : ∃ sn, seenOk ms ops.size rem sn = true ∧ ∀ j ∈ sn, ∃ k, k ≠ 1 ∧ (j, k) ∈ dn
theorem kinds_cases {l : List (Nat × Nat)} {i : Nat} (h : kinds l i = true) :
    ((i, 0) ∈ l ∧ (i, 1) ∉ l ∧ (i, 2) ∉ l ∧ (i, 3) ∉ l) ∨ ((i, 0) ∉ l ∧ (i, 1) ∈ l ∧ (i, 2) ∈ l ∧ (i, 3) ∉ l) ∨ ((i, 0) ∉ l ∧ (i, 1) ∉ l ∧ (i, 2) ∉ l ∧ (i, 3) ∈ l) := by
  simp only [kinds, Bool.or_eq_true, Bool.and_eq_true, Bool.not_eq_true', List.contains_eq_mem, decide_eq_true_eq, decide_eq_false_iff_not] at h
  rcases h with (⟨⟨⟨h1, h2⟩, h3⟩, h4⟩ | ⟨⟨⟨h1, h2⟩, h3⟩, h4⟩) | ⟨⟨⟨h1, h2⟩, h3⟩, h4⟩
  · exact .inl ⟨h1, h2, h3, h4⟩
  · exact .inr (.inl ⟨h1, h2, h3, h4⟩)
  · exact .inr (.inr ⟨h1, h2, h3, h4⟩)
theorem nodesP_kind : ∀ {ps : List (Nat × Bool)} {p : Nat × Nat}, p ∈ nodesP ps → p.2 = 0 ∨ p.2 = 1
  | [], _, h => by simp [nodesP] at h
  | (i, b) :: ps, p, h => by
    rcases List.mem_cons.1 h with rfl | h
    · cases b <;> simp
    · exact nodesP_kind h
theorem nodes_kind {fin : List (Nat × Bool) × List Nat} : ∀ {segs : List Sg} {p : Nat × Nat}, p ∈ nodes fin segs → p.2 = 0 ∨ p.2 = 1 ∨ p.2 = 2 ∨ p.2 = 3
  | [], p, h => by
    rcases List.mem_append.1 h with h | h
    · rcases nodesP_kind h with h | h <;> simp [h]
    · obtain ⟨i, _, rfl⟩ := List.mem_map.1 h; simp
  | s :: segs, p, h => by
    rcases List.mem_append.1 h with h | h
    · rcases List.mem_append.1 h with h | h
      · rcases nodesP_kind h with h | h <;> simp [h]
      · obtain ⟨i, _, rfl⟩ := List.mem_map.1 h; simp
    · rcases List.mem_cons.1 h with rfl | h
      · simp
      · exact nodes_kind h
def psOf (fin : List (Nat × Bool) × List Nat) : List Sg → List (Nat × Bool)
  | [] => fin.1
  | s :: _ => s.ps
def remOf (fin : List (Nat × Bool) × List Nat) : List Sg → List (Nat × Nat)
  | [] => fin.2.map fun i => (i, 2)
  | s :: segs => (s.ls.map fun i => (i, 2)) ++ (s.e, 3) :: nodes fin segs
theorem nodes_eq (fin : List (Nat × Bool) × List Nat) : ∀ segs, nodes fin segs = nodesP (psOf fin segs) ++ remOf fin segs
  | [] => rfl
  | s :: segs => by simp [nodes, psOf, remOf]
theorem nodesP_mem : ∀ {ps : List (Nat × Bool)} {p : Nat × Nat}, p ∈ nodesP ps → ∃ q ∈ ps, q.1 = p.1
  | [], _, h => by simp [nodesP] at h
  | (i, b) :: ps, p, h => by
    rcases List.mem_cons.1 h with rfl | h
    · exact ⟨_, List.mem_cons_self .., rfl⟩
    · obtain ⟨q, h1, h2⟩ := nodesP_mem h
      exact ⟨q, List.mem_cons_of_mem _ h1, h2⟩
/-- What comes behind one of the chain waits for one of the chain. -/
theorem ord_anc {ms : List Nat} {fin : List (Nat × Bool) × List Nat} : ∀ {segs : List Sg} {e : Nat}, ordOk ms fin (some e) segs = true → ∀ p ∈ nodes fin segs, p.2 ≠ 2 → ∃ e', A ms p.1 e' = true ∧ (e' = e ∨ (e', 3) ∈ nodes fin segs)
  | [], e, h, p, hp, hk => by
    rcases List.mem_append.1 hp with hp | hp
    · obtain ⟨q, h1, h2⟩ := nodesP_mem hp
      simp only [ordOk] at h
      exact ⟨e, by rw [← h2]; exact List.all_eq_true.1 h q h1, .inl rfl⟩
    · obtain ⟨i, _, rfl⟩ := List.mem_map.1 hp
      exact absurd rfl hk
  | s :: segs, e, h, p, hp, hk => by
    simp only [ordOk, Bool.and_eq_true] at h
    obtain ⟨⟨⟨h1, h2⟩, h3⟩, h4⟩ := h
    rcases List.mem_append.1 hp with hp | hp
    · rcases List.mem_append.1 hp with hp | hp
      · obtain ⟨q, g1, g2⟩ := nodesP_mem hp
        exact ⟨e, by rw [← g2]; exact List.all_eq_true.1 h1 q g1, .inl rfl⟩
      · obtain ⟨i, _, rfl⟩ := List.mem_map.1 hp
        exact absurd rfl hk
    · rcases List.mem_cons.1 hp with rfl | hp
      · exact ⟨e, h3, .inl rfl⟩
      · obtain ⟨e', g1, g2⟩ := ord_anc h4 p hp hk
        refine ⟨e', g1, .inr (List.mem_append_right _ ?_)⟩
        rcases g2 with rfl | g2
        · exact List.mem_cons_self ..
        · exact List.mem_cons_of_mem _ g2
section
variable {P : Program} {r : Option Nat} {C : Cx} {n : Nat × List Nat} {ops : Array Oper} {Q : Exit → Act → World → Prop} {ms : List Nat} {env0 : List (Nat × Value)} {fin : List (Nat × Bool) × List Nat} {segs : List Sg} {listed : Nat → Prop} {a0 a' : Act} {W : World}
  {vals : List (Nat × Nat × Value)} {acc : List (Nat × List Res)} {R : List Res} {Φ : List Fact} {es : List (Nat × Al)} {pend : List (Nat × Nat)} {dn rem : List (Nat × Nat)}
theorem ST.nodup (ok : Ok ops ms fin segs a0.tmps.size) (st : ST ops ms (nodes fin segs) dn rem listed vals es pend) {p : Nat × Nat} (h1 : p ∈ dn) (h2 : p ∈ rem) : False := by
  have := ok.nodup
  rw [st.whole] at this
  exact (List.nodup_append.1 this).2.2 p h1 p h2 rfl
theorem kind_of (ok : Ok ops ms fin segs a0.tmps.size) {p q : Nat × Nat} (hp : p ∈ nodes fin segs) (hq : q ∈ nodes fin segs) (e : p.1 = q.1) (h2 : p.2 ≠ 2) (h2' : q.2 ≠ 2) : p = q := by
  have hk := kinds_cases (ok.kind p.1 (ok.idx p hp))
  have k1 := nodes_kind hp
  have k2 := nodes_kind hq
  obtain ⟨i, k⟩ := p
  obtain ⟨j, l⟩ := q
  simp only at e h2 h2' k1 k2 hk
  subst e
  have : k = l := by
    rcases k1 with rfl | rfl | rfl | rfl <;> rcases k2 with rfl | rfl | rfl | rfl <;> rcases hk with h | h | h <;> simp_all
  rw [this]
theorem late_of (ok : Ok ops ms fin segs a0.tmps.size) {i : Nat} (h : (i, 2) ∈ nodes fin segs) : (i, 0) ∉ nodes fin segs ∧ (i, 1) ∈ nodes fin segs ∧ (i, 3) ∉ nodes fin segs := by
  have hk := kinds_cases (ok.kind i (ok.idx _ h))
  rcases hk with h' | h' | h'
  · exact absurd h h'.2.2.1
  · exact ⟨h'.1, h'.2.1, h'.2.2.2⟩
  · exact absurd h h'.2.2.1
/-- A node is known. -/
theorem ST.move {q : Nat × Nat} (ok : Ok ops ms fin segs a0.tmps.size) (st : ST ops ms (nodes fin segs) dn (q :: rem) listed vals es pend) {listed' : Nat → Prop} {vals' : List (Nat × Nat × Value)} {es' : List (Nat × Al)} {pend' : List (Nat × Nat)}
    (hl : ∀ j, listed j → listed' j) (hl' : ∀ j, listed' j → listed j ∨ (j = q.1 ∧ q.2 = 3)) (hv : (q.2 = 1 ∧ vals' = vals) ∨ (q.2 ≠ 1 ∧ ((∃ d v, Dr.dstAt ops q.1 = some d ∧ vals' = (q.1, d, v) :: vals) ∨ (Dr.dstAt ops q.1 = none ∧ vals' = vals ∧ q.2 = 3))))
    (he : (q.2 = 1 ∧ ∃ z, es' = (q.1, z) :: es) ∨ (q.2 ≠ 1 ∧ es' = es)) (hq : q.2 = 2 ∨ q.2 = 3 → listed' q.1) (hp : ∀ i ∈ pend.map (·.1), (i = q.1 ∧ q.2 = 2) ∨ i ∈ pend'.map (·.1)) (hE : q.2 = 2 → ∃ z, (q.1, z) ∈ es) :
    ST ops ms (nodes fin segs) (dn ++ [q]) rem listed' vals' es' pend' := by
  have hw : nodes fin segs = (dn ++ [q]) ++ rem := by rw [st.whole]; simp
  have hqn : q ∈ nodes fin segs := by rw [hw]; simp
  have hrn : ∀ p ∈ rem, p ∈ nodes fin segs := fun p hp => by rw [hw]; simp [hp]
  have hnd : ∀ p, p ∈ dn ++ [q] → p ∈ rem → False := fun p h1 h2 => by
    have := ok.nodup
    rw [hw] at this
    exact (List.nodup_append.1 this).2.2 p h1 p h2 rfl
  have hqd : q ∈ dn ++ [q] := by simp
  have hsub : ∀ x ∈ vals, x ∈ vals' := fun x hx => by
    rcases hv with ⟨_, rfl⟩ | ⟨_, ⟨d, v, _, rfl⟩ | ⟨_, rfl, _⟩⟩
    · exact hx
    · exact List.mem_cons_of_mem _ hx
    · exact hx
  have hes : ∀ x ∈ es, x ∈ es' := fun x hx => by
    rcases he with ⟨_, z, rfl⟩ | ⟨_, rfl⟩
    · exact List.mem_cons_of_mem _ hx
    · exact hx
  obtain ⟨sn, hs1, hs2⟩ := st.seen
  obtain ⟨qi, qk⟩ := q
  simp only [seenOk, Bool.and_eq_true, Bool.or_eq_true, beq_iff_eq] at hs1
  obtain ⟨hs0, hs1⟩ := hs1
  have hanc : qk ≠ 2 → ∀ j < ops.size, A ms qi j = true → ∃ k, k ≠ 1 ∧ (j, k) ∈ dn := fun hk j hj ha => by
    have := List.all_eq_true.1 (hs0.resolve_left hk) j (List.mem_range.2 hj)
    simp only [ha, Bool.not_true, Bool.false_or, List.contains_eq_mem, decide_eq_true_eq] at this
    exact hs2 j this
  have up : ∀ {j : Nat}, (∃ k, k ≠ 1 ∧ (j, k) ∈ dn) → ∃ k, k ≠ 1 ∧ (j, k) ∈ dn ++ [(qi, qk)] := fun ⟨k, h1, h2⟩ => ⟨k, h1, List.mem_append_left _ h2⟩
  refine ⟨hw, fun p hp hk d hd => ?_, fun p hp hk => ?_, fun x hx => ?_, fun p hp hk => ?_, fun e hee => ?_, fun p hp hk => ?_, fun p hp hk hl2 => ?_, fun i h1 h2 h3 => ?_, fun x hx j hj ha => ?_, fun e hee j hj ha => ?_, ?_⟩
  · rcases List.mem_append.1 hp with hp | hp
    · obtain ⟨v, hv⟩ := st.known p hp hk d hd
      exact ⟨v, hsub _ hv⟩
    · obtain rfl : p = (qi, qk) := by simpa using hp
      rcases hv with ⟨h, _⟩ | ⟨_, ⟨d', v, h1, rfl⟩ | ⟨h1, _, _⟩⟩
      · exact absurd h hk
      · rw [hd] at h1; cases h1; exact ⟨v, List.mem_cons_self ..⟩
      · rw [hd] at h1; cases h1
  · rcases List.mem_append.1 hp with hp | hp
    · obtain ⟨x, hx, e⟩ := st.pures p hp hk
      exact ⟨x, hsub _ hx, e⟩
    · obtain rfl : p = (qi, qk) := by simpa using hp
      simp only at hk; subst hk
      rcases hv with ⟨h, _⟩ | ⟨_, ⟨d', v, h1, rfl⟩ | ⟨h1, _, h2⟩⟩
      · cases h
      · exact ⟨_, List.mem_cons_self .., rfl⟩
      · cases h2
  · rcases hv with ⟨_, rfl⟩ | ⟨h0, ⟨d', v, h1, rfl⟩ | ⟨_, rfl, _⟩⟩
    · exact up (st.vin x hx)
    · rcases List.mem_cons.1 hx with rfl | hx
      · exact ⟨qk, h0, hqd⟩
      · exact up (st.vin x hx)
    · exact up (st.vin x hx)
  · rcases List.mem_append.1 hp with hp | hp
    · obtain ⟨z, h⟩ := st.told p hp hk
      exact ⟨z, hes _ h⟩
    · obtain rfl : p = (qi, qk) := by simpa using hp
      rcases he with ⟨_, z, rfl⟩ | ⟨h, _⟩
      · exact ⟨z, List.mem_cons_self ..⟩
      · exact absurd hk h
  · rcases he with ⟨h0, z, rfl⟩ | ⟨_, rfl⟩
    · rcases List.mem_cons.1 hee with rfl | hee
      · simp only at h0; subst h0; exact hqd
      · exact List.mem_append_left _ (st.tin e hee)
    · exact List.mem_append_left _ (st.tin e hee)
  · rcases List.mem_append.1 hp with hp | hp
    · exact hl _ (st.done p hp hk)
    · obtain rfl : p = (qi, qk) := by simpa using hp
      exact hq hk
  · rcases hl' _ hl2 with h | ⟨h1, h3⟩
    · exact st.undone p (List.mem_cons_of_mem _ hp) hk h
    · have := kind_of ok (hrn p hp) hqn h1 hk (by simp only at h3 ⊢; omega)
      rw [this] at hp
      exact hnd _ hqd hp
  · rcases List.mem_append.1 h1 with h1 | h1
    · rcases hl' _ h3 with h | ⟨h4, h5⟩
      · rcases hp _ (st.pendIn i h1 (List.mem_cons_of_mem _ h2) h) with ⟨h4, h5⟩ | h4
        · simp only at h4 h5
          subst h4 h5
          exact (hnd _ hqd h2).elim
        · exact h4
      · simp only at h4 h5
        subst h4 h5
        exact absurd (hqn) (late_of ok (hrn _ h2)).2.2
    · obtain ⟨rfl, rfl⟩ : i = qi ∧ 1 = qk := by simpa using h1
      rcases hl' _ h3 with h | ⟨_, h5⟩
      · exact absurd h (st.undone _ (List.mem_cons_self ..) (by simp))
      · cases h5
  · have old : x ∈ vals → ∃ k, k ≠ 1 ∧ (j, k) ∈ dn ++ [(qi, qk)] := fun hx => up (st.anc x hx j hj ha)
    rcases hv with ⟨_, rfl⟩ | ⟨h0, ⟨d', v, h1, rfl⟩ | ⟨_, rfl, _⟩⟩
    · exact old hx
    · rcases List.mem_cons.1 hx with rfl | hx
      · by_cases h2 : qk = 2
        · obtain ⟨z, h⟩ := hE h2
          exact up (st.anc1 _ h j hj ha)
        · exact up (hanc h2 j hj ha)
      · exact old hx
    · exact old hx
  · rcases he with ⟨h0, z, rfl⟩ | ⟨_, rfl⟩
    · rcases List.mem_cons.1 hee with rfl | hee
      · simp only at h0
        exact up (hanc (by omega) j hj ha)
      · exact up (st.anc1 e hee j hj ha)
    · exact up (st.anc1 e hee j hj ha)
  · refine ⟨_, hs1, fun j hj => ?_⟩
    split at hj
    · exact up (hs2 j hj)
    · rename_i hk
      rcases List.mem_cons.1 hj with rfl | hj
      · exact ⟨qk, by simpa using hk, hqd⟩
      · exact up (hs2 j hj)
/-- An operation ran. -/
theorem ST.list (ok : Ok ops ms fin segs a0.tmps.size) (st : ST ops ms (nodes fin segs) dn rem listed vals es pend) {i : Nat} (hk : (i, 0) ∈ dn ∨ (i, 1) ∈ dn) {pend' : List (Nat × Nat)} (hp : ∀ j ∈ pend.map (·.1), j ∈ pend'.map (·.1)) (hi : (i, 1) ∈ dn → i ∈ pend'.map (·.1)) :
    ST ops ms (nodes fin segs) dn rem (fun j => listed j ∨ j = i) vals es pend' := by
  have hdn : ∀ p ∈ dn, p ∈ nodes fin segs := fun p hp => by rw [st.whole]; simp [hp]
  have hrn : ∀ p ∈ rem, p ∈ nodes fin segs := fun p hp => by rw [st.whole]; simp [hp]
  refine ⟨st.whole, st.known, st.pures, st.vin, st.told, st.tin, fun p hp hk => .inl (st.done p hp hk), fun p hp h2 hl => ?_, fun j h1 h2 h3 => ?_, st.anc, st.anc1, st.seen⟩
  · rcases hl with hl | hl
    · exact st.undone p hp h2 hl
    · rcases hk with hk | hk
      · have := kind_of ok (hrn p hp) (hdn _ hk) hl h2 (by simp)
        rw [this] at hp
        exact st.nodup ok hk hp
      · have := kind_of ok (hrn p hp) (hdn _ hk) hl h2 (by simp)
        rw [this] at hp
        exact st.nodup ok hk hp
  · rcases h3 with h3 | rfl
    · exact hp _ (st.pendIn j h1 h2 h3)
    · exact hi h1
/-- The next block is known. -/
theorem absorb (ok : Ok ops ms fin segs a0.tmps.size) {k : List (Nat × Value) → List (Nat × Al) → List (Nat × List Res) → List Fact → Prop} : ∀ {ps : List (Nat × Bool)} {vals : List (Nat × Nat × Value)} {es : List (Nat × Al)} {acc : List (Nat × List Res)} {Φ : List Fact} {dn : List (Nat × Nat)}, (∀ p ∈ acc, p.1 < ops.size) → RT P C n ops ms env0 listed a0 a' W vals acc R Φ es pend →
    ST ops ms (nodes fin segs) dn (nodesP ps ++ rem) listed vals es pend → JB P n ops R k ps (puts vals ++ env0) es acc Φ →
    ∃ vals' es' dn' acc' Φ', RT P C n ops ms env0 listed a0 a' W vals' acc' R Φ' es' pend ∧ ST ops ms (nodes fin segs) dn' rem listed vals' es' pend ∧ (∀ p ∈ acc', p.1 < ops.size) ∧ k (puts vals' ++ env0) es' acc' Φ'
  | [], vals, es, acc, Φ, dn, hai, rt, st, h => ⟨vals, es, dn, acc, Φ, rt, st, hai, h⟩
  | (i, false) :: ps, vals, es, acc, Φ, dn, hai, rt, st, h => by
    obtain ⟨v, d, Ri, acc', Φ', hd, hp, hacc, hΦ, h⟩ := h
    have hq : (i, 0) ∈ nodesP ((i, false) :: ps) ++ rem := by simp [nodesP]
    have hqn : (i, 0) ∈ nodes fin segs := by rw [st.whole]; exact List.mem_append_right _ hq
    have hi := ok.idx _ hqn
    have hu : ¬ listed i := st.undone _ hq (by simp)
    have hni : i ∉ vals.map (·.1) := fun hm => by
      obtain ⟨x, hx, rfl⟩ := List.mem_map.1 hm
      obtain ⟨k, hk, hin⟩ := st.vin x hx
      have hk2 : k ≠ 2 := fun e => by
        subst e
        exact (late_of ok (by rw [st.whole]; exact List.mem_append_left _ hin)).1 hqn
      have := kind_of ok (p := (x.1, k)) (q := (x.1, 0)) (by rw [st.whole]; exact List.mem_append_left _ hin) hqn rfl hk2 (by simp)
      cases this
      exact st.nodup ok hin hq
    obtain ⟨sn, hs1, hs2⟩ := st.seen
    have hs0 : ∀ j < ops.size, A ms i j = true → j ∈ sn := fun j hj ha => by
      have h0 : seenOk ms ops.size ((i, 0) :: (nodesP ps ++ rem)) sn = true := hs1
      simp only [seenOk, Bool.and_eq_true, Bool.or_eq_true, beq_iff_eq] at h0
      have := List.all_eq_true.1 (h0.1.resolve_left (by decide)) j (List.mem_range.2 hj)
      simpa [ha] using this
    have rt' := rt.know (i := i) (d := d) (v := v) hi hd hni hu hp hacc hΦ (fun j hj ha d hd => by
      obtain ⟨k, hk, hin⟩ := hs2 j (hs0 j hj ha)
      exact st.known _ hin hk d hd) (fun x hx => by
      cases ha : A ms x.1 i with
      | false => rfl
      | true =>
        obtain ⟨k, hk, hin⟩ := st.anc x hx i hi ha
        have hk2 : k ≠ 2 := fun e => by
          subst e
          exact (late_of ok (by rw [st.whole]; exact List.mem_append_left _ hin)).1 hqn
        have := kind_of ok (p := (i, k)) (q := (i, 0)) (by rw [st.whole]; exact List.mem_append_left _ hin) hqn rfl hk2 (by simp)
        cases this
        exact (st.nodup ok hin hq).elim)
    have st' : ST ops ms (nodes fin segs) (dn ++ [(i, 0)]) (nodesP ps ++ rem) listed ((i, d, v) :: vals) es pend :=
      ST.move (q := (i, 0)) ok st (fun _ h => h) (fun _ h => .inl h) (.inr ⟨by simp, .inl ⟨d, v, hd, rfl⟩⟩) (.inr ⟨by simp, rfl⟩) (fun h => by simp at h) (fun _ h => .inr h) (fun h => by simp at h)
    refine absorb ok (fun p hp => ?_) rt' st' h
    rcases hacc with ⟨_, rfl⟩ | ⟨rfl, _⟩
    · exact hai p hp
    · rcases List.mem_cons.1 hp with rfl | hp
      · exact hi
      · exact hai p hp
  | (i, true) :: ps, vals, es, acc, Φ, dn, hai, rt, st, h => by
    obtain ⟨z, hp, h⟩ := h
    have hq : (i, 1) ∈ nodesP ((i, true) :: ps) ++ rem := by simp [nodesP]
    have hqn : (i, 1) ∈ nodes fin segs := by rw [st.whole]; exact List.mem_append_right _ hq
    have hi := ok.idx _ hqn
    have hu : ¬ listed i := st.undone _ hq (by simp)
    have hni : i ∉ es.map (·.1) := fun hm => by
      obtain ⟨x, hx, rfl⟩ := List.mem_map.1 hm
      exact st.nodup ok (st.tin x hx) hq
    obtain ⟨sn, hs1, hs2⟩ := st.seen
    have hs0 : ∀ j < ops.size, A ms i j = true → j ∈ sn := fun j hj ha => by
      have h0 : seenOk ms ops.size ((i, 1) :: (nodesP ps ++ rem)) sn = true := hs1
      simp only [seenOk, Bool.and_eq_true, Bool.or_eq_true, beq_iff_eq] at h0
      have := List.all_eq_true.1 (h0.1.resolve_left (by decide)) j (List.mem_range.2 hj)
      simpa [ha] using this
    have rt' := rt.tell (i := i) hni hp (fun j hj ha d hd => by
      obtain ⟨k, hk, hin⟩ := hs2 j (hs0 j hj ha)
      exact st.known _ hin hk d hd) (fun x hx => by
      cases ha : A ms x.1 i with
      | false => rfl
      | true =>
        obtain ⟨k, hk, hin⟩ := st.anc x hx i hi ha
        by_cases hk2 : k = 2
        · subst hk2; exact absurd (st.done _ hin (.inl rfl)) hu
        · have := kind_of ok (p := (i, k)) (q := (i, 1)) (by rw [st.whole]; exact List.mem_append_left _ hin) hqn rfl hk2 (by simp)
          cases this
          exact absurd rfl hk)
    have st' : ST ops ms (nodes fin segs) (dn ++ [(i, 1)]) (nodesP ps ++ rem) listed vals ((i, z) :: es) pend :=
      ST.move (q := (i, 1)) ok st (fun _ h => h) (fun _ h => .inl h) (.inl ⟨rfl, rfl⟩) (.inl ⟨rfl, z, rfl⟩) (fun h => by simp at h) (fun _ h => .inr h) (fun h => by simp at h)
    exact absorb ok hai rt' st' h
/-- The late allocations are known. -/
theorem lates (ok : Ok ops ms fin segs a0.tmps.size) {k : List (Nat × Value) → List Res → Prop} : ∀ {ls : List Nat} {vals : List (Nat × Nat × Value)} {R : List Res} {dn pend : List (Nat × Nat)}, RT P C n ops ms env0 listed a0 a' W vals acc R Φ es pend →
    ST ops ms (nodes fin segs) dn ((ls.map fun i => (i, 2)) ++ rem) listed vals es pend → (∀ i ∈ ls, listed i) → JL ops es k ls (puts vals ++ env0) R →
    ∃ vals' R' dn' pend', RT P C n ops ms env0 listed a0 a' W vals' acc R' Φ es pend' ∧ ST ops ms (nodes fin segs) dn' rem listed vals' es pend' ∧ k (puts vals' ++ env0) R'
  | [], vals, R, dn, pend, rt, st, _, h => ⟨vals, R, dn, pend, rt, st, h⟩
  | i :: ls, vals, R, dn, pend, rt, st, hl, h => by
    obtain ⟨d, z, hd, hx, h⟩ := h
    have hq : (i, 2) ∈ ((i :: ls).map fun i => (i, 2)) ++ rem := by simp
    have hqn : (i, 2) ∈ nodes fin segs := by rw [st.whole]; exact List.mem_append_right _ hq
    have hi := ok.idx _ hqn
    have hli := hl i (List.mem_cons_self ..)
    obtain ⟨b, rt'⟩ := rt.late ok (i := i) (d := d) hi hd hx (st.pendIn i (st.tin _ hx) hq hli)
    have st' : ST ops ms (nodes fin segs) (dn ++ [(i, 2)]) ((ls.map fun i => (i, 2)) ++ rem) listed ((i, d, bval z.1 b) :: vals) es (pend.filter fun p => p.1 != i) :=
      ST.move (q := (i, 2)) ok st (fun _ h => h) (fun _ h => .inl h) (.inr ⟨by simp, .inl ⟨d, _, hd, rfl⟩⟩) (.inr ⟨by simp, rfl⟩) (fun _ => hli) (fun j hj => by
        by_cases e : j = i
        · exact .inl ⟨e, rfl⟩
        · obtain ⟨p, hp, rfl⟩ := List.mem_map.1 hj
          exact .inr (List.mem_map.2 ⟨p, List.mem_filter.2 ⟨hp, by simpa using e⟩, rfl⟩)) (fun _ => ⟨z, hx⟩)
    exact lates ok rt' st' (fun j hj => hl j (List.mem_cons_of_mem _ hj)) (h b)
end
section
variable {P : Program} {r : Option Nat} {C : Cx} {n : Nat × List Nat} {ops : Array Oper} {Q : Exit → Act → World → Prop} {ms : List Nat} {env0 : List (Nat × Value)} {fin : List (Nat × Bool) × List Nat} {segs0 : List Sg} {a0 : Act}
/-- The rest of the region, its next block known. -/
def AT (P : Program) (r : Option Nat) (C : Cx) (n : Nat × List Nat) (ops : Array Oper) (Q : Exit → Act → World → Prop) (ms : List Nat) (fin : List (Nat × Bool) × List Nat) (R : List Res) : List Sg → List (Nat × Value) → List (Nat × Al) → List (Nat × List Res) → List Fact → Prop
  | [], env, es, _, Φ => JL ops es (fun env R => Jq C n Q .normal env R Φ) fin.2 env R
  | s :: segs, env, es, acc, Φ => JL ops es (JE P r C n ops ms s.e Φ acc (fun env R Φ acc => JH P r C n ops Q ms fin segs env R Φ es acc)) s.ls env R
theorem jh_at (segs : List Sg) (env : List (Nat × Value)) (R : List Res) (Φ : List Fact) (es : List (Nat × Al)) (acc : List (Nat × List Res)) (h : JH P r C n ops Q ms fin segs env R Φ es acc) : JB P n ops R (AT P r C n ops Q ms fin R segs) (psOf fin segs) env es acc Φ := by
  cases segs <;> exact h
/-- All is run. -/
theorem at_end (ok : Ok ops ms fin segs0 a0.tmps.size) (he : Env n env0 a0) {listed : Nat → Prop} {a' : Act} {W : World} {segs : List Sg} {vals : List (Nat × Nat × Value)} {acc : List (Nat × List Res)} {R : List Res} {Φ : List Fact} {es : List (Nat × Al)} {pend dn : List (Nat × Nat)}
    (rt : RT P C n ops ms env0 listed a0 a' W vals acc R Φ es pend) (st : ST ops ms (nodes fin segs0) dn (remOf fin segs) listed vals es pend) (hall : ∀ j < ops.size, listed j) (h : AT P r C n ops Q ms fin R segs (puts vals ++ env0) es acc Φ) : Q .normal a' W := by
  cases segs with
  | cons s segs =>
    have hm : (s.e, 3) ∈ remOf fin (s :: segs) := by simp [remOf]
    exact absurd (hall _ (ok.idx _ (by rw [st.whole]; exact List.mem_append_right _ hm))) (st.undone _ hm (by simp))
  | nil =>
    have hlf : ∀ i ∈ fin.2, listed i := fun i hi => hall _ (ok.idx (i, 2) (by rw [st.whole]; exact List.mem_append_right _ (List.mem_map.2 ⟨i, hi, rfl⟩)))
    obtain ⟨vals', R', dn', pend', rt', st', hq⟩ := lates (rem := []) ok rt (by simpa [remOf] using st) hlf h
    have hag : ∀ t, a'.tmps[t]? = (vact a0 vals').tmps[t]? := fun t => by
      by_cases hex : ∃ j, j < ops.size ∧ Dr.dstAt ops j = some t
      · obtain ⟨j, hj, hd⟩ := hex
        have huq := (ok.dst j hj t hd).2
        have hin : ∃ k, k ≠ 1 ∧ (j, k) ∈ dn' := by
          have hw : nodes fin segs0 = dn' := by rw [st'.whole, List.append_nil]
          rcases kinds_cases (ok.kind j hj) with h | h | h
          · exact ⟨0, by simp, hw ▸ h.1⟩
          · exact ⟨2, by simp, hw ▸ h.2.2.1⟩
          · exact ⟨3, by simp, hw ▸ h.2.2.2⟩
        obtain ⟨k, hk, hin⟩ := hin
        obtain ⟨v, hv⟩ := st'.known _ hin hk t hd
        rw [rt'.fr.put _ hv (hall j hj)]
        refine (vact_some a0 j t v (ok.dst j hj t hd).1 vals' hv fun x hx hxt => ?_).symm
        have hxi := rt'.fr.idx x hx
        rw [hxt] at hxi
        exact vals_inj rt'.fr.nodup hx hv (huq _ hxi.1 hxi.2)
      · rw [rt'.fr.old t fun k hk hkd => absurd ⟨k, hk, hkd⟩ hex]
        refine (vact_none a0 t vals' fun x hx hxt => ?_).symm
        have hxi := rt'.fr.idx x hx
        rw [hxt] at hxi
        exact hex ⟨_, hxi.1, hxi.2⟩
    have henv := fr_env ok rt'.fr (fun x hx => hx) he
    exact hq a' W ⟨by rw [rt'.fr.defers]; exact he.defers, by rw [rt'.fr.size]; exact he.size, fun t v ht => by rw [hag]; exact henv.at_ t v ht⟩ (rt'.sat.x0le' fun b hb => .inl hb)
theorem run_any (ok : Ok ops ms fin segs0 a0.tmps.size) (he : Env n env0 a0) : ∀ (fuel : Nat) (L : Array Bool) (a' : Act) (W : World) (un : List Nat) (segs : List Sg) (vals : List (Nat × Nat × Value)) (acc : List (Nat × List Res)) (R : List Res) (Φ : List Fact) (es : List (Nat × Al)) (pend dn : List (Nat × Nat)),
    (∀ p ∈ acc, p.1 < ops.size) → L.size = ops.size → un.length = fuel → (∀ j < ops.size, L.getD j false = false ↔ j ∈ un) → (∀ j ∈ un, j < ops.size) → un.Nodup → RT P C n ops ms env0 (fun j => L.getD j false = true) a0 a' W vals acc R Φ es pend → ST ops ms (nodes fin segs0) dn (remOf fin segs) (fun j => L.getD j false = true) vals es pend → (∃ prev, ordOk ms fin prev segs = true) → AT P r C n ops Q ms fin R segs (puts vals ++ env0) es acc Φ →
    wpAnyIn (Fz r) 0 P .any ops Q fuel L a' W := by
  intro fuel
  induction fuel with
  | zero =>
    intro L a' W un segs vals acc R Φ es pend dn hai hsz hun hu hlt hnd rt st _ h
    have hnil : un = [] := List.eq_nil_of_length_eq_zero hun
    subst hnil
    have hall : ∀ j < ops.size, L.getD j false = true := fun j hj => by
      cases hl : L.getD j false
      · exact absurd ((hu j hj).1 hl) (by simp)
      · rfl
    refine ⟨?_, at_end ok he rt st hall h⟩
    rw [List.eq_nil_iff_forall_not_mem]
    intro j hj
    obtain ⟨h1, o, ho, _⟩ := Dr.ready_iff.1 hj
    have := hall j (Array.getElem?_eq_some_iff.1 ho).1
    rw [Dr.getD_ft h1] at this
    cases this
  | succ fuel ih =>
    intro L a' W un segs vals acc R Φ es pend dn hai hsz hun hu hlt hnd rt st hord h
    refine ⟨fun hnil => ?_, fun i hi => ?_⟩
    · exfalso
      have hne : un ≠ [] := fun e => by rw [e] at hun; simp at hun
      obtain ⟨j, hj, hmin⟩ := Dr.exists_least un hne
      have hjn := hlt j hj
      have : j ∈ Region.ready .any ops L := Dr.ready_iff.2 ⟨Dr.getD_tf (by rw [hsz]; exact hjn) ((hu j hjn).2 hj), ops[j], Array.getElem?_eq_getElem hjn, fun k hk => by
        have hkj := ok.lt j hjn k (by simpa [nd, Array.getElem?_eq_getElem hjn] using hk)
        cases hl : L.getD k false
        · exact absurd (hmin k ((hu k (by omega)).1 hl)) (by omega)
        · rfl⟩
      rw [hnil] at this
      cases this
    · obtain ⟨h1, o, ho, hn⟩ := Dr.ready_iff.1 hi
      have hil : i < ops.size := (Array.getElem?_eq_some_iff.1 ho).1
      have hnot : ¬ L.getD i false = true := by rw [Dr.getD_ft h1]; simp
      have hnd' : ∀ j ∈ nd ops i, L.getD j false = true := fun j hj => hn j (by simpa [nd, ho] using hj)
      have hanc : ∀ j < ops.size, A ms i j = true → L.getD j false = true := anc_listed ok.lt ok.anc rt.fr.closed i hil hnd'
      have hset : (fun j => (L.setIfInBounds i true).getD j false = true) = (fun j => L.getD j false = true ∨ j = i) := funext fun j => propext (by
        by_cases e : j = i
        · subst e; simp [Dr.getD_setT (show j < L.size by omega)]
        · rw [Dr.getD_setN false (Ne.symm e)]; simp [e])
      have him : i ∈ un := (hu i hil).1 (Dr.getD_ft h1)
      have hsz' : (L.setIfInBounds i true).size = ops.size := by simp [hsz]
      have hun' : (un.erase i).length = fuel := by rw [List.length_erase_of_mem him, hun]; rfl
      have hu' : ∀ j < ops.size, (L.setIfInBounds i true).getD j false = false ↔ j ∈ un.erase i := fun j hj => by
        rw [hnd.mem_erase_iff, ← hu j hj]
        by_cases e : j = i
        · subst e; simp [Dr.getD_setT (show j < L.size by omega)]
        · rw [Dr.getD_setN false (Ne.symm e)]; simp [e]
      have hlt' : ∀ j ∈ un.erase i, j < ops.size := fun j hj => hlt j (List.mem_of_mem_erase hj)
      have hnd2 : (un.erase i).Nodup := hnd.erase i
      have go : ∀ a'' W', (RT P C n ops ms env0 (fun j => L.getD j false = true ∨ j = i) a0 a'' W' vals acc R Φ es pend ∧ ST ops ms (nodes fin segs0) dn (remOf fin segs) (fun j => L.getD j false = true ∨ j = i) vals es pend) → wpAnyIn (Fz r) 0 P .any ops Q fuel (L.setIfInBounds i true) a'' W' := fun a'' W' ⟨rt', st'⟩ =>
        ih _ a'' W' _ segs vals acc R Φ es pend dn hai hsz' hun' hu' hlt' hnd2 (by rw [hset]; exact rt') (by rw [hset]; exact st') hord h
      -- nothing that stands in the rest is ready, but the chain's next
      have hrest : ∀ k, k ≠ 2 → (i, k) ∈ remOf fin segs → ∃ s segs', segs = s :: segs' ∧ k = 3 ∧ i = s.e := fun k hk hm => by
        cases segs with
        | nil =>
          obtain ⟨_, _, e⟩ := List.mem_map.1 hm
          cases e; exact absurd rfl hk
        | cons s segs' =>
          rcases List.mem_append.1 hm with hm | hm
          · obtain ⟨_, _, e⟩ := List.mem_map.1 hm
            cases e; exact absurd rfl hk
          · rcases List.mem_cons.1 hm with hm | hm
            · cases hm; exact ⟨s, segs', rfl, rfl, rfl⟩
            · exfalso
              obtain ⟨prev, hord⟩ := hord
              simp only [ordOk, Bool.and_eq_true] at hord
              obtain ⟨e', g1, g2⟩ := ord_anc hord.2 _ hm hk
              have he3 : (e', 3) ∈ remOf fin (s :: segs') := by
                refine List.mem_append_right _ ?_
                rcases g2 with rfl | g2
                · exact List.mem_cons_self ..
                · exact List.mem_cons_of_mem _ g2
              exact st.undone _ he3 (by simp) (hanc e' (ok.idx (e', 3) (by rw [st.whole]; exact List.mem_append_right _ he3)) g1)
      have hsplit : ∀ k, (i, k) ∈ nodes fin segs0 → (i, k) ∈ dn ∨ (i, k) ∈ remOf fin segs := fun k hk => by rw [st.whole] at hk; exact List.mem_append.1 hk
      rcases kinds_cases (ok.kind i hil) with hk | hk | hk
      · rcases hsplit 0 hk.1 with hm | hm
        · obtain ⟨x, hx, rfl⟩ := st.pures _ hm rfl
          exact rt.pure ok he hx hnot hnd' fun rt' => go _ _ ⟨rt', st.list ok (.inl hm) (fun _ h => h) fun h1 => absurd (by rw [st.whole]; exact List.mem_append_left _ h1) hk.2.1⟩
        · obtain ⟨_, _, _, h, _⟩ := hrest 0 (by simp) hm
          cases h
      · rcases hsplit 1 hk.2.1 with hm | hm
        · obtain ⟨z, hx⟩ := st.told _ hm rfl
          obtain ⟨vs, _, o', d, ho', hd', _⟩ := rt.early _ hx
          have hd : Dr.dstAt ops i = some d := by simp [Dr.dstAt, ho', hd']
          have hv : ∀ x ∈ vals, x.1 ≠ i := fun x hx e => by
            obtain ⟨k, hk1, hin⟩ := st.vin x hx
            rw [e] at hin
            have : k = 2 := by
              have hn' : (i, k) ∈ nodes fin segs0 := by rw [st.whole]; exact List.mem_append_left _ hin
              have hkk : k = 0 ∨ k = 1 ∨ k = 2 ∨ k = 3 := nodes_kind hn'
              rcases hkk with rfl | rfl | rfl | rfl
              · exact absurd hn' hk.1
              · exact absurd rfl hk1
              · rfl
              · exact absurd hn' hk.2.2.2
            subst this
            exact hnot (st.done _ hin (.inl rfl))
          exact rt.alloc ok he hil hd hx hv hnot hnd' fun rt' => ih _ _ _ _ segs vals acc R Φ es _ dn hai hsz' hun' hu' hlt' hnd2 (by rw [hset]; exact rt') (by rw [hset]; exact st.list ok (.inr hm) (fun j hj => by rw [List.map_cons]; exact List.mem_cons_of_mem _ hj) fun _ => by simp) hord h
        · obtain ⟨_, _, _, h, _⟩ := hrest 1 (by simp) hm
          cases h
      · rcases hsplit 3 hk.2.2.2 with hm | hm
        · exact absurd (st.done _ hm (.inr rfl)) hnot
        · obtain ⟨s, segs', rfl, _, rfl⟩ := hrest 3 (by simp) hm
          obtain ⟨prev, hord⟩ := hord
          simp only [ordOk, Bool.and_eq_true] at hord
          obtain ⟨⟨⟨_, g2⟩, _⟩, g4⟩ := hord
          have hls : ∀ j ∈ s.ls, L.getD j false = true := fun j hj => hanc j (ok.idx (j, 2) (by rw [st.whole]; exact List.mem_append_right _ (List.mem_append_left _ (List.mem_map.2 ⟨j, hj, rfl⟩)))) (List.all_eq_true.1 g2 j hj)
          obtain ⟨vals', R', dn', pend', rt', st', o', ho', hndf, hJ⟩ := lates ok rt st hls h
          have hq : (s.e, 3) ∈ (s.e, 3) :: nodes fin segs' := List.mem_cons_self ..
          have hni : s.e ∉ vals'.map (·.1) := fun hm => by
            obtain ⟨x, hx, e⟩ := List.mem_map.1 hm
            obtain ⟨k, hk1, hin⟩ := st'.vin x hx
            rw [e] at hin
            have hn' : (s.e, k) ∈ nodes fin segs0 := by rw [st'.whole]; exact List.mem_append_left _ hin
            have hkk : k = 0 ∨ k = 1 ∨ k = 2 ∨ k = 3 := nodes_kind hn'
            rcases hkk with rfl | rfl | rfl | rfl
            · exact hk.1 hn'
            · exact hk1 rfl
            · exact hk.2.2.1 hn'
            · exact st'.nodup ok hin hq
          obtain ⟨sn, hs1, hs2⟩ := st'.seen
          have g1 : ∀ j < ops.size, A ms s.e j = true → ∀ d, Dr.dstAt ops j = some d → ∃ v, (j, d, v) ∈ vals' := by
            intro j hj ha d hd
            simp only [seenOk, Bool.and_eq_true, Bool.or_eq_true, beq_iff_eq] at hs1
            have := List.all_eq_true.1 (hs1.1.resolve_left (by decide)) j (List.mem_range.2 hj)
            obtain ⟨k, hk1, hin⟩ := hs2 j (by simpa [ha] using this)
            exact st'.known _ hin hk1 d hd
          have g2' : ∀ x ∈ vals', A ms x.1 s.e = false := by
            intro x hx
            cases ha : A ms x.1 s.e with
            | false => rfl
            | true =>
              obtain ⟨k, hk1, hin⟩ := st'.anc x hx _ hil ha
              have hn' : (s.e, k) ∈ nodes fin segs0 := by rw [st'.whole]; exact List.mem_append_left _ hin
              have hkk : k = 0 ∨ k = 1 ∨ k = 2 ∨ k = 3 := nodes_kind hn'
              rcases hkk with rfl | rfl | rfl | rfl
              · exact absurd hn' hk.1
              · exact absurd rfl hk1
              · exact absurd hn' hk.2.2.1
              · exact (st'.nodup ok hin hq).elim
          have g3 : ∀ a'' W' vals'' acc'' R'' Φ'', RT P C n ops ms env0 (fun j => L.getD j false = true ∨ j = s.e) a0 a'' W' vals'' acc'' R'' Φ'' es pend' → (∀ p ∈ acc'', p ∈ acc) → (match o'.dst with | some d => ∃ v, vals'' = (s.e, d, v) :: vals' | none => vals'' = vals') → JH P r C n ops Q ms fin segs' (puts vals'' ++ env0) R'' Φ'' es acc'' → wpAnyIn (Fz r) 0 P .any ops Q fuel (L.setIfInBounds s.e true) a'' W' := by
            intro a'' W' vals'' acc'' R'' Φ'' rt'' hsub hvv hJ'
            have st'' : ST ops ms (nodes fin segs0) (dn' ++ [(s.e, 3)]) (nodes fin segs') (fun j => L.getD j false = true ∨ j = s.e) vals'' es pend' :=
              ST.move (q := (s.e, 3)) ok st' (fun _ h => .inl h) (fun _ h => h.imp id fun h => ⟨h, rfl⟩) (.inr ⟨by simp, by
                cases hd : o'.dst with
                | none => rw [hd] at hvv; exact .inr ⟨by simp [Dr.dstAt, ho', hd], hvv, rfl⟩
                | some d =>
                  rw [hd] at hvv
                  obtain ⟨v, hv⟩ := hvv
                  exact .inl ⟨d, v, by simp [Dr.dstAt, ho', hd], hv⟩⟩) (.inr ⟨by simp, rfl⟩) (fun _ => .inr rfl) (fun _ h => .inr h) (fun h => by simp at h)
            rw [nodes_eq fin segs'] at st''
            obtain ⟨vals3, es3, dn3, acc3, Φ3, rt3, st3, hai3, h3⟩ := absorb ok (fun p hp => hai p (hsub p hp)) rt'' st'' (jh_at _ _ _ _ _ _ hJ')
            exact ih _ a'' W' _ segs' vals3 acc3 R'' Φ3 es3 pend' dn3 hai3 hsz' hun' hu' hlt' hnd2 (by rw [hset]; exact rt3) (by rw [hset]; exact st3) ⟨_, g4⟩ h3
          rcases hJ with hJ | ⟨hso, hJ⟩
          · exact rt'.chain ok he ho' hndf hnot hnd' g1 g2' hni (J := fun env' R' Φ' acc' => JH P r C n ops Q ms fin segs' env' R' Φ' es acc') (fun j ha hj => hanc j hj ha) hai hJ g3
          · exact rt'.chainY ok he ho' hndf hnot hnd' g1 g2' hni (J := fun env' R' Φ' acc' => JH P r C n ops Q ms fin segs' env' R' Φ' es acc') (fun j ha hj => hanc j hj ha) hso hJ g3
end
/-- A REGION THAT DRAWS ITS ORDER, in a canonical order. ms: for each operation the mask of those that it waits for, near or far. -/
theorem _root_.Go.Proofs.YtcppphgpbaablaaGreatDoor.Jc.drawn {P : Program} {r : Option Nat} {C : Cx} {n : Nat × List Nat} {Q : Exit → Act → World → Prop} {env : List (Nat × Value)} {R : List Res} {Φ : List Fact} {id : Nat} {l : List Oper} (ms : List Nat) (fin : List (Nat × Bool) × List Nat) (segs : List Sg) (hm : P.follows .mixedOrders = true)
    (hok : okB l.toArray ms fin segs n.1 = true) (h : JH P r C n l.toArray Q ms fin segs env R Φ [] []) : Jc P r C n Q (.region id l.toArray true) env R Φ := fun a W he hs => by
  refine wpIn_region_any hm ?_
  rw [← he.size] at hok
  have ok := okB_spec hok
  have hf : ∀ j, (Array.replicate l.toArray.size false).getD j false = false := fun j => getD_replicate_false _ _
  have hl0 : ∀ {p : Prop} {j : Nat}, (Array.replicate l.toArray.size false).getD j false = true → p := fun h => by rw [hf] at h; cases h
  have hgrow : Sat C R Φ { W with drawn := W.drawn + 1 } := hs.grow ⟨rfl, rfl, rfl, Nat.le_refl _, fun _ _ _ => rfl⟩
  have rt0 : RT P C n l.toArray ms env (fun j => (Array.replicate l.toArray.size false).getD j false = true) a a { W with drawn := W.drawn + 1 } [] [] R Φ [] [] :=
    ⟨⟨fun i _ h => hl0 h, rfl, rfl, fun x hx => (by simp at hx), by simp, fun x hx => (by simp at hx), fun _ _ => rfl⟩, fun x hx => (by simp at hx), fun e he => (by simp at he), by simp, by simp, fun p hp => (by simp at hp), hgrow.x0le' fun b hb => by simpa using hb, fun p hp => (by simp at hp)⟩
  have st0 : ST l.toArray ms (nodes fin segs) [] (nodesP (psOf fin segs) ++ remOf fin segs) (fun j => (Array.replicate l.toArray.size false).getD j false = true) [] [] [] :=
    ⟨by rw [nodes_eq]; rfl, fun p hp => (by simp at hp), fun p hp => (by simp at hp), fun x hx => (by simp at hx), fun p hp => (by simp at hp), fun x hx => (by simp at hx), fun p hp => (by simp at hp), fun p _ _ h => hl0 h, fun i h => (by simp at h), fun x hx => (by simp at hx), fun x hx => (by simp at hx), ⟨[], by rw [← nodes_eq]; exact ok.seen, fun j hj => (by simp at hj)⟩⟩
  obtain ⟨vals, es, dn, acc, Φ', rt, st, hai, h⟩ := absorb ok (fun p hp => (by simp at hp)) rt0 st0 (jh_at _ _ _ _ _ _ h)
  exact run_any ok he _ _ a _ (List.range l.toArray.size) segs vals acc R Φ' es [] dn hai (by simp) (by simp) (fun j hj => by rw [hf]; simpa using hj) (fun j hj => List.mem_range.1 hj) List.nodup_range rt st ⟨_, ok.ord⟩ h
end Dh
end Go.Proofs.YtcppphgpbaablaaGreatDoor
