import Derived.OrdersIn
import Derived.Lib.AppendZerosOnto
import Derived.ChangeKeysEq
import Derived.Laws.StructEq
import Derived.Test.YtakbgccddokbbaaGreatDoorProg
import Derived.KernelRfl
import Derived.Maps.OwnOps
import Derived.Maps.OwnSet
import Derived.Test.YtakbgccddokbbaaGreatDoorK1
set_option linter.unusedVariables false
namespace Go.Proofs.YtakbgccddokbbaaGreatDoor
open Go.RowKit
namespace Dh
structure Sg where
 ps : List (Nat × Bool)
 ls : List Nat
 e : Nat
def nd (ops : Array Oper) (i : Nat) : List Nat := match ops[i]? with | some o => Dr.needs o | none => []
def A (ms : List Nat) (i j : Nat) : Bool := (ms.getD i 0).testBit j
theorem anc_listed {ops : Array Oper} {ms : List Nat} (h1 : ∀ i < ops.size, ∀ j ∈ nd ops i, j < i) (h2 : ∀ i < ops.size, ∀ j < ops.size, A ms i j = true → j ∈ nd ops i ∨ ∃ k ∈ nd ops i, A ms k j = true) {L : Nat → Prop}
    (hL : ∀ i < ops.size, L i → ∀ j ∈ nd ops i, L j) : ∀ i, i < ops.size → (∀ j ∈ nd ops i, L j) → ∀ j, j < ops.size → A ms i j = true → L j := by
  intro i
  induction i using Nat.strongRecOn with
  | _ i ih =>
    intro hi hn j hj ha
    rcases h2 i hi j hj ha with h | ⟨k, hk, hkj⟩
    · exact hn j h
    · have hki := h1 i hi k hk
      exact ih k hki (by omega) (hL k (by omega) (hn k hk)) j hj hkj
abbrev Al := Option Nat × TypeId × List Value
def bval : Option Nat → Nat → Value
 | none, b => .pointer (some ⟨b, 0, none⟩)
 | some m, b => .slice (some ⟨b, 0, none⟩) m m
section
variable (P : Program) (r : Option Nat) (C : Cx) (n : Nat × List Nat) (ops : Array Oper) (Q : Exit → Act → World → Prop)
def Early (i : Nat) (env : List (Nat × Value)) (z : Al) : Prop :=
 ∃ o d, ops[i]? = some o ∧ o.dst = some d ∧ d < n.1 ∧ (∀ c, o.op ≠ .defer c) ∧ ∀ a W, Env n env a → Region.wanted o (yielded ops a.tmps) = true ∧ (execOp a.eval o).run P W = .ok (.value (bval z.1 W.heap.size)) (W.alloc (.cells z.2.2.toArray z.2.1))
def Pure (i : Nat) (env : List (Nat × Value)) (Rs : List Res) (Φ : List Fact) (v : Value) : Prop :=
  ∃ o d, ops[i]? = some o ∧ o.dst = some d ∧ d < n.1 ∧ ∀ (C' : Cx) a W, Env n env a → Sat C' Rs Φ W →
    if Region.wanted o (yielded ops a.tmps) then (∀ c, o.op ≠ .defer c) ∧ (execOp a.eval o).run P W = .ok (.value v) W else v = undef
def FExt (Φ' Φ : List Fact) : Prop := ∃ Φn, Φ' = Φn ++ Φ
def FMore (Φ' Φ : List Fact) : Prop := ∃ Φn, Φ' = Φn ++ Φ ∧ ∀ X W, (∀ φ ∈ Φ, φ.p X W) → ∀ φ ∈ Φn, φ.p X W
def JB (R : List Res) (k : List (Nat × Value) → List (Nat × Al) → List (Nat × List Res) → List Fact → Prop) : List (Nat × Bool) → List (Nat × Value) → List (Nat × Al) → List (Nat × List Res) → List Fact → Prop
 | [], env, es, acc, Φ => k env es acc Φ
 | (i, false) :: ps, env, es, acc, Φ => ∃ v d Ri acc' Φ', ((ops[i]?).bind (·.dst)) = some d ∧ Pure P n ops i env Ri Φ v ∧ ((Ri = [] ∧ acc' = acc) ∨ (acc' = (i, Ri) :: acc ∧ ∃ R0, Take Ri R R0)) ∧ FMore Φ' Φ ∧ JB R k ps ((d, v) :: env) es acc' Φ'
 | (i, true) :: ps, env, es, acc, Φ => ∃ z, Early P n ops i env z ∧ JB R k ps env ((i, z) :: es) acc Φ
def JL (es : List (Nat × Al)) (k : List (Nat × Value) → List Res → Prop) : List Nat → List (Nat × Value) → List Res → Prop
 | [], env, R => k env R
 | i :: ls, env, R => ∃ d z, ((ops[i]?).bind (·.dst)) = some d ∧ (i, z) ∈ es ∧ ∀ b : Nat, JL es k ls ((d, bval z.1 b) :: env) (.blk b z.2.1 z.2.2 :: R)
def KeepL (ms : List Nat) (e : Nat) (R' : List Res) : List (Nat × List Res) → List (Nat × List Res) → Prop
 | [], acc' => acc' = []
 | (i, Ri) :: acc, acc' => (A ms e i = true ∧ KeepL ms e R' acc acc') ∨ ∃ acc'', acc' = (i, Ri) :: acc'' ∧ (∃ R0, Take Ri R' R0) ∧ KeepL ms e R' acc acc''
def Post (ms : List Nat) (o : Oper) (e : Nat) (env : List (Nat × Value)) (Φ : List Fact) (acc : List (Nat × List Res)) (J : List (Nat × Value) → List Res → List Fact → List (Nat × List Res) → Prop) (C' : Cx) (x : Exit) (a : Act) (W : World) : Prop :=
 x = .normal ∧ ∃ env' R' Φ' acc', Env n env' a ∧ Sat C' R' Φ' W ∧ KeepL ms e R' acc acc' ∧ FExt Φ' Φ ∧ (match o.dst with | some d => ∃ v, env' = (d, v) :: env | none => env' = env) ∧ J env' R' Φ' acc'
def solo (ms : List Nat) (e : Nat) : Bool := (List.range ops.size).all fun j => j == e || A ms e j || A ms j e
def PostY (o : Oper) (env : List (Nat × Value)) (J : List (Nat × Value) → List Res → List Fact → List (Nat × List Res) → Prop) (x : Exit) (a : Act) (W : World) : Prop :=
 x = .normal ∧ ∃ env' R' Φ', Env n env' a ∧ Sat C R' Φ' W ∧ (match o.dst with | some d => ∃ v, env' = (d, v) :: env | none => env' = env) ∧ J env' R' Φ' []
def JE (ms : List Nat) (e : Nat) (Φ : List Fact) (acc : List (Nat × List Res)) (J : List (Nat × Value) → List Res → List Fact → List (Nat × List Res) → Prop) (env : List (Nat × Value)) (R : List Res) : Prop :=
 ∃ o, ops[e]? = some o ∧ (∀ c, o.op ≠ .defer c) ∧ ((∀ C' : Cx, Jl P r C' n ops (Post n ms o e env Φ acc J C') [o] env R Φ) ∨ (solo ops ms e = true ∧ Jl P r C n ops (PostY C n o env J) [o] env R Φ))
def JH (ms : List Nat) (fin : List (Nat × Bool) × List Nat) : List Sg → List (Nat × Value) → List Res → List Fact → List (Nat × Al) → List (Nat × List Res) → Prop
 | [], env, R, Φ, es, acc => JB P n ops R (fun env es _ Φ => JL ops es (fun env R => Jq C n Q .normal env R Φ) fin.2 env R) fin.1 env es acc Φ
 | s :: segs, env, R, Φ, es, acc => JB P n ops R (fun env es acc Φ => JL ops es (JE P r C n ops ms s.e Φ acc (fun env R Φ acc => JH ms fin segs env R Φ es acc)) s.ls env R) s.ps env es acc Φ
end
def nodesP : List (Nat × Bool) → List (Nat × Nat)
 | [] => []
 | (i, b) :: ps => (i, if b then 1 else 0) :: nodesP ps
def nodes (fin : List (Nat × Bool) × List Nat) : List Sg → List (Nat × Nat)
 | [] => nodesP fin.1 ++ fin.2.map fun i => (i, 2)
 | s :: segs => nodesP s.ps ++ (s.ls.map fun i => (i, 2)) ++ (s.e, 3) :: nodes fin segs
def ordOk (ms : List Nat) (fin : List (Nat × Bool) × List Nat) : Option Nat → List Sg → Bool
 | prev, [] => fin.1.all fun p => match prev with | none => true | some e => A ms p.1 e
 | prev, s :: segs => (s.ps.all fun p => match prev with | none => true | some e => A ms p.1 e) && (s.ls.all fun i => A ms s.e i) && (match prev with | none => true | some e => A ms s.e e) && ordOk ms fin (some s.e) segs
def kinds (l : List (Nat × Nat)) (i : Nat) : Bool :=
 (l.contains (i, 0) && !l.contains (i, 1) && !l.contains (i, 2) && !l.contains (i, 3)) || (!l.contains (i, 0) && l.contains (i, 1) && l.contains (i, 2) && !l.contains (i, 3)) ||
  (!l.contains (i, 0) && !l.contains (i, 1) && !l.contains (i, 2) && l.contains (i, 3))
def seenOk (ms : List Nat) (N : Nat) : List (Nat × Nat) → List Nat → Bool
 | [], _ => true
 | (i, k) :: l, seen => (k == 2 || (List.range N).all fun j => !A ms i j || seen.contains j) && seenOk ms N l (if k == 1 then seen else i :: seen)
def okB (ops : Array Oper) (ms : List Nat) (fin : List (Nat × Bool) × List Nat) (segs : List Sg) (size : Nat) : Bool :=
 Region.noSelect ops &&
 ((List.range ops.size).all fun i => (nd ops i).all (· < i) && (List.range ops.size).all fun j => !A ms i j || (nd ops i).contains j || (nd ops i).any fun k => A ms k j) &&
 decide (nodes fin segs).Nodup && ((nodes fin segs).all fun p => decide (p.1 < ops.size)) && ((List.range ops.size).all fun i => kinds (nodes fin segs) i) && ordOk ms fin none segs &&
 ((List.range ops.size).all fun i => match Dr.dstAt ops i with | none => true | some d => decide (d < size) && (List.range ops.size).all fun j => j == i || Dr.dstAt ops j != some d) &&
 ((List.range ops.size).all fun i => match ops[i]? with | none => true | some o => (o.looksAt ops).all fun t => (List.range ops.size).all fun j => Dr.dstAt ops j != some t || A ms i j || A ms j i) &&
 seenOk ms ops.size (nodes fin segs) []
structure Ok (ops : Array Oper) (ms : List Nat) (fin : List (Nat × Bool) × List Nat) (segs : List Sg) (size : Nat) : Prop where
 sel : Region.noSelect ops = true
 lt : ∀ i < ops.size, ∀ j ∈ nd ops i, j < i
 anc : ∀ i < ops.size, ∀ j < ops.size, A ms i j = true → j ∈ nd ops i ∨ ∃ k ∈ nd ops i, A ms k j = true
 nodup : (nodes fin segs).Nodup
 idx : ∀ p ∈ nodes fin segs, p.1 < ops.size
 kind : ∀ i < ops.size, kinds (nodes fin segs) i = true
 ord : ordOk ms fin none segs = true
 dst : ∀ i < ops.size, ∀ d, Dr.dstAt ops i = some d → d < size ∧ ∀ j < ops.size, Dr.dstAt ops j = some d → j = i
 looks : ∀ i < ops.size, ∀ o, ops[i]? = some o → ∀ t ∈ o.looksAt ops, ∀ j < ops.size, Dr.dstAt ops j = some t → A ms i j = true ∨ A ms j i = true
 seen : seenOk ms ops.size (nodes fin segs) [] = true
theorem okB_spec {ops : Array Oper} {ms : List Nat} {fin : List (Nat × Bool) × List Nat} {segs : List Sg} {size : Nat} (h : okB ops ms fin segs size = true) : Ok ops ms fin segs size := by
 simp only [okB, Bool.and_eq_true, decide_eq_true_eq] at h
 obtain ⟨⟨⟨⟨⟨⟨⟨⟨h1, h2⟩, h3⟩, h4⟩, h5⟩, h6⟩, h7⟩, h8⟩, h9⟩ := h
 refine ⟨h1, fun i hi j hj => ?_, fun i hi j hj ha => ?_, h3, fun p hp => ?_, fun i hi => List.all_eq_true.1 h5 i (List.mem_range.2 hi), h6, fun i hi d hd => ?_, fun i hi o ho t ht j hj hd => ?_, h9⟩
 · have := List.all_eq_true.1 h2 i (List.mem_range.2 hi)
   simp only [Bool.and_eq_true] at this
   simpa using List.all_eq_true.1 this.1 j hj
 · have := List.all_eq_true.1 h2 i (List.mem_range.2 hi)
   simp only [Bool.and_eq_true] at this
   have := List.all_eq_true.1 this.2 j (List.mem_range.2 hj)
   simp only [ha, Bool.not_true, Bool.false_or, Bool.or_eq_true, List.contains_iff_mem] at this
   exact this.imp id fun h => by simpa using List.any_eq_true.1 h
 · simpa using List.all_eq_true.1 h4 p hp
 · have := List.all_eq_true.1 h7 i (List.mem_range.2 hi)
   rw [hd] at this
   simp only [Bool.and_eq_true, decide_eq_true_eq] at this
   refine ⟨this.1, fun j hj hdj => ?_⟩
   have := List.all_eq_true.1 this.2 j (List.mem_range.2 hj)
   simpa [hdj] using this
 · have := List.all_eq_true.1 h8 i (List.mem_range.2 hi)
   rw [ho] at this
   have := List.all_eq_true.1 (List.all_eq_true.1 this t ht) j (List.mem_range.2 hj)
   simpa [hd] using this
def vact (a : Act) : List (Nat × Nat × Value) → Act
 | [] => a
 | (_, d, v) :: vs => (vact a vs).put (some d) v
def puts (vs : List (Nat × Nat × Value)) : List (Nat × Value) := vs.map fun x => (x.2.1, x.2.2)
theorem vact_size (a : Act) : ∀ vs, (vact a vs).tmps.size = a.tmps.size
 | [] => rfl
 | (_, d, v) :: vs => by rw [vact, Dr.put_size]; exact vact_size a vs
theorem vact_defers (a : Act) : ∀ vs, (vact a vs).defers = a.defers
 | [] => rfl
 | (_, d, v) :: vs => by rw [vact, Dr.put_defers']; exact vact_defers a vs
theorem vact_none (a : Act) (t : Nat) : ∀ vs : List (Nat × Nat × Value), (∀ x ∈ vs, x.2.1 ≠ t) → (vact a vs).tmps[t]? = a.tmps[t]?
  | [], _ => rfl
  | (j, d, v) :: vs, h => by
    rw [vact, Dr.put_ne _ _ _ _ (by simpa using h (j, d, v) List.mem_cons_self)]
    exact vact_none a t vs fun x hx => h x (by simp [hx])
theorem vact_some (a : Act) (i t : Nat) (v : Value) (ht : t < a.tmps.size) : ∀ vs : List (Nat × Nat × Value), (i, t, v) ∈ vs → (∀ x ∈ vs, x.2.1 = t → x = (i, t, v)) → (vact a vs).tmps[t]? = some v
  | [], h, _ => by simp at h
  | (j, d, u) :: vs, h, hu => by
    by_cases e : d = t
    · have := hu (j, d, u) (by simp) e
      cases this
      exact Dr.put_at _ _ _ (by rw [vact_size]; exact ht)
    · rw [vact, Dr.put_ne _ _ _ _ (by simpa using e)]
      refine vact_some a i t v ht vs ?_ fun x hx => hu x (by simp [hx])
      rcases List.mem_cons.1 h with h | h
      · cases h; exact absurd rfl e
      · exact h
theorem vact_env {n : Nat × List Nat} {env : List (Nat × Value)} {a : Act} (he : Env n env a) : ∀ vs : List (Nat × Nat × Value), (∀ x ∈ vs, x.2.1 < n.1) → Env n (puts vs ++ env) (vact a vs)
 | [], _ => he
 | (_, d, v) :: vs, h => (vact_env he vs fun x hx => h x (List.mem_cons_of_mem _ hx)).put (h _ List.mem_cons_self) v
structure Fr (ops : Array Oper) (listed : Nat → Prop) (a0 a' : Act) (vals : List (Nat × Nat × Value)) : Prop where
 closed : ∀ i < ops.size, listed i → ∀ j ∈ nd ops i, listed j
 size : a'.tmps.size = a0.tmps.size
 defers : a'.defers = a0.defers
 idx : ∀ x ∈ vals, x.1 < ops.size ∧ Dr.dstAt ops x.1 = some x.2.1
 nodup : (vals.map (·.1)).Nodup
 put : ∀ x ∈ vals, listed x.1 → a'.tmps[x.2.1]? = some x.2.2
 old : ∀ t, (∀ j < ops.size, Dr.dstAt ops j = some t → ¬ listed j) → a'.tmps[t]? = a0.tmps[t]?
theorem vals_inj {vals : List (Nat × Nat × Value)} (h : (vals.map (·.1)).Nodup) : ∀ {x y : Nat × Nat × Value}, x ∈ vals → y ∈ vals → x.1 = y.1 → x = y := by
  induction vals with
  | nil => intro x y hx; simp at hx
  | cons z vs ih =>
    intro x y hx hy e
    simp only [List.map_cons, List.nodup_cons] at h
    rcases List.mem_cons.1 hx with h1 | h1 <;> rcases List.mem_cons.1 hy with h2 | h2
    · rw [h1, h2]
    · exact (h.1 (List.mem_map.2 ⟨y, h2, by rw [← e, h1]⟩)).elim
    · exact (h.1 (List.mem_map.2 ⟨x, h1, by rw [e, h2]⟩)).elim
    · exact ih h.2 h1 h2 e
theorem agree {ops : Array Oper} {ms : List Nat} {fin : List (Nat × Bool) × List Nat} {segs : List Sg} {listed : Nat → Prop} {a0 a' : Act} {vals vs : List (Nat × Nat × Value)} (ok : Ok ops ms fin segs a0.tmps.size) (fr : Fr ops listed a0 a' vals)
 (hsub : ∀ x ∈ vs, x ∈ vals) {i : Nat} {o : Oper} (hi : i < ops.size) (ho : ops[i]? = some o) (hn : ∀ j ∈ nd ops i, listed j) (hu : ¬ listed i)
 (h1 : ∀ j < ops.size, A ms i j = true → ∀ d, Dr.dstAt ops j = some d → ∃ v, (j, d, v) ∈ vs) (h2 : ∀ x ∈ vs, A ms x.1 i = false) : ∀ t ∈ o.looksAt ops, a'.tmps[t]? = (vact a0 vs).tmps[t]? := by
 intro t ht
 by_cases hex : ∃ j, j < ops.size ∧ Dr.dstAt ops j = some t
 · obtain ⟨j, hj, hd⟩ := hex
   have huq := (ok.dst j hj t hd).2
   rcases ok.looks i hi o ho t ht j hj hd with h | h
   · have hlj := anc_listed ok.lt ok.anc fr.closed i hi hn j hj h
     obtain ⟨v, hv⟩ := h1 j hj h t hd
     rw [fr.put _ (hsub _ hv) hlj]
     refine (vact_some a0 j t v (ok.dst j hj t hd).1 vs hv fun x hx hxt => ?_).symm
     have hxi := fr.idx x (hsub x hx)
     rw [hxt] at hxi
     exact vals_inj fr.nodup (hsub x hx) (hsub _ hv) (huq _ hxi.1 hxi.2)
   · have hnl : ¬ listed j := fun hl => hu (anc_listed ok.lt ok.anc fr.closed j hj (fr.closed j hj hl) i hi h)
     rw [fr.old t fun k hk hkd => by rw [huq k hk hkd]; exact hnl]
     refine (vact_none a0 t vs fun x hx hxt => ?_).symm
     have hxi := fr.idx x (hsub x hx)
     rw [hxt] at hxi
     have hxj := huq _ hxi.1 hxi.2
     have h3 := h2 x hx
     rw [hxj, h] at h3
     cases h3
 · rw [fr.old t fun k hk hkd => absurd ⟨k, hk, hkd⟩ hex]
   refine (vact_none a0 t vs fun x hx hxt => ?_).symm
   have hxi := fr.idx x (hsub x hx)
   rw [hxt] at hxi
   exact hex ⟨_, hxi.1, hxi.2⟩
theorem fr_env {ops : Array Oper} {ms : List Nat} {fin : List (Nat × Bool) × List Nat} {segs : List Sg} {listed : Nat → Prop} {a0 a' : Act} {vals vs : List (Nat × Nat × Value)} {n : Nat × List Nat} {env : List (Nat × Value)} (ok : Ok ops ms fin segs a0.tmps.size) (fr : Fr ops listed a0 a' vals)
 (hsub : ∀ x ∈ vs, x ∈ vals) (he : Env n env a0) : Env n (puts vs ++ env) (vact a0 vs) :=
 vact_env he vs fun x hx => by
  have hi := fr.idx x (hsub x hx)
  have := (ok.dst _ hi.1 _ hi.2).1
  rwa [he.size] at this
theorem pure_step {P : Program} {r : Option Nat} {Q : Exit → Act → World → Prop} {ops : Array Oper} {ms : List Nat} {fin : List (Nat × Bool) × List Nat} {segs : List Sg} {listed : Nat → Prop} {a0 a' : Act} {vals vs : List (Nat × Nat × Value)} {n : Nat × List Nat} {env : List (Nat × Value)}
 {C : Cx} {Rs : List Res} {Φ : List Fact} {W : World} {v : Value} {K : Act → World → Prop} {d : Nat}
 (ok : Ok ops ms fin segs a0.tmps.size) (fr : Fr ops listed a0 a' vals) (hsub : ∀ x ∈ vs, x ∈ vals) (he : Env n env a0) {i : Nat} (hi : i < ops.size) (hn : ∀ j ∈ nd ops i, listed j) (hu : ¬ listed i)
 (h1 : ∀ j < ops.size, A ms i j = true → ∀ d, Dr.dstAt ops j = some d → ∃ v, (j, d, v) ∈ vs) (h2 : ∀ x ∈ vs, A ms x.1 i = false) (hp : Pure P n ops i (puts vs ++ env) Rs Φ v) (hs : Sat C Rs Φ W)
 (hd : Dr.dstAt ops i = some d) (hK : K (a'.put (some d) v) W) : wpOpIn (Fz r) 0 P ops Q i K a' W := by
 obtain ⟨o, d', ho, hod, hlt, h⟩ := hp
 have hag := agree ok fr hsub hi ho hn hu h1 h2
 have hdd : d = d' := by simp [Dr.dstAt, ho, hod] at hd; exact hd.symm
 subst hdd
 have hr := h C (vact a0 vs) W (fr_env ok fr hsub he) hs
 have hw := Dr.wanted_slots (ops := ops) hag
 have hev := Dr.eval_slots (ops := ops) hag
 unfold wpOpIn
 simp only [ho]
 rw [hw]
 split
 · rename_i hwant
   rw [if_pos hwant] at hr
   refine oper_plain hr.1 ?_
   rw [execOp_congr o (Region.noSelect_spec ok.sel i o · · ho) hev, hr.2]
   rw [Oper.uponIn_value, hod]; exact hK
 · rename_i hwant
   rw [if_neg hwant] at hr
   subst hr
   exact ⟨fz_about P r o a' W, by rw [hod]; exact hK⟩
theorem alloc_step {P : Program} {r : Option Nat} {Q : Exit → Act → World → Prop} {ops : Array Oper} {ms : List Nat} {fin : List (Nat × Bool) × List Nat} {segs : List Sg} {listed : Nat → Prop} {a0 a' : Act} {vals vs : List (Nat × Nat × Value)} {n : Nat × List Nat} {env : List (Nat × Value)}
 {W : World} {z : Al} {K : Act → World → Prop} {d : Nat}
 (ok : Ok ops ms fin segs a0.tmps.size) (fr : Fr ops listed a0 a' vals) (hsub : ∀ x ∈ vs, x ∈ vals) (he : Env n env a0) {i : Nat} (hi : i < ops.size) (hn : ∀ j ∈ nd ops i, listed j) (hu : ¬ listed i)
 (h1 : ∀ j < ops.size, A ms i j = true → ∀ d, Dr.dstAt ops j = some d → ∃ v, (j, d, v) ∈ vs) (h2 : ∀ x ∈ vs, A ms x.1 i = false) (hp : Early P n ops i (puts vs ++ env) z)
 (hd : Dr.dstAt ops i = some d) (hK : K (a'.put (some d) (bval z.1 W.heap.size)) (W.alloc (.cells z.2.2.toArray z.2.1))) : wpOpIn (Fz r) 0 P ops Q i K a' W := by
 obtain ⟨o, d', ho, hod, hlt, hnd, h⟩ := hp
 have hag := agree ok fr hsub hi ho hn hu h1 h2
 have hdd : d = d' := by simp [Dr.dstAt, ho, hod] at hd; exact hd.symm
 subst hdd
 have hr := h (vact a0 vs) W (fr_env ok fr hsub he)
 have hw := Dr.wanted_slots (ops := ops) hag
 have hev := Dr.eval_slots (ops := ops) hag
 unfold wpOpIn
 simp only [ho]
 rw [hw, if_pos hr.1]
 refine oper_plain hnd ?_
 rw [execOp_congr o (Region.noSelect_spec ok.sel i o · · ho) hev, hr.2]
 rw [Oper.uponIn_value, hod]; exact hK
theorem upon_carry {F : Fence} {m : Nat} {P : Program} {o : Oper} {a b : Act} {S next : Act → World → Prop} {Q Q1 : Exit → Act → World → Prop} {res : Result Next} (hQ : ∀ e a W, Q1 e a W → e = .normal) (hSd : ∀ a' W, S a' W → a'.defers = a.defers) (h : o.uponIn F m P a S Q1 res)
    (hK : ∀ v w, S (a.put o.dst v) w → next (b.put o.dst v) w) : o.uponIn F m P b next Q res := by
  cases res with
  | ok nx w =>
    cases nx with
    | value v => exact hK _ _ h
    | skip => exact hK _ _ h
    | defer d =>
      have := hSd _ _ h
      rw [Dr.put_defers'] at this
      exact absurd this (by simp)
    | enter f args => exact ⟨h.1, h.2.mono fun e w' he => by
        cases e with
        | returned v => exact hK _ _ he
        | panicked c => exact absurd (hQ _ _ _ he) (by simp)
        | outgrown => obtain ⟨_, _, he⟩ := he; exact absurd (hQ _ _ _ he) (by simp)⟩
    | row row args => exact ⟨h.1, h.2.mono fun v w' he => hK _ _ he⟩
    | round l f tmps assign body => exact ⟨h.1, h.2.mono fun e w' he => by
        cases e with
        | returned v => exact hK _ _ he
        | panicked c => exact absurd (hQ _ _ _ he) (by simp)
        | outgrown => obtain ⟨_, _, he⟩ := he; exact absurd (hQ _ _ _ he) (by simp)⟩
    | _ => exact h.elim
  | halt x w =>
    cases x with
    | panic v => exact absurd (hQ _ _ _ h) (by simp)
    | _ => exact h.elim
theorem chain_step {P : Program} {r : Option Nat} {Q : Exit → Act → World → Prop} {ops : Array Oper} {ms : List Nat} {fin : List (Nat × Bool) × List Nat} {segs : List Sg} {listed : Nat → Prop} {a0 a' : Act} {vals vs : List (Nat × Nat × Value)} {n : Nat × List Nat} {env : List (Nat × Value)}
 {C : Cx} {R : List Res} {Φ : List Fact} {W : World} {K S : Act → World → Prop} {o : Oper}
 (ok : Ok ops ms fin segs a0.tmps.size) (fr : Fr ops listed a0 a' vals) (hsub : ∀ x ∈ vs, x ∈ vals) (he : Env n env a0) {i : Nat} (hi : i < ops.size) (hn : ∀ j ∈ nd ops i, listed j) (hu : ¬ listed i)
 (h1 : ∀ j < ops.size, A ms i j = true → ∀ d, Dr.dstAt ops j = some d → ∃ v, (j, d, v) ∈ vs) (h2 : ∀ x ∈ vs, A ms x.1 i = false) (ho : ops[i]? = some o) (hnd : ∀ c, o.op ≠ .defer c)
 (hp : Jl P r C n ops (fun e a W => e = .normal ∧ S a W) [o] (puts vs ++ env) R Φ) (hs : Sat C R Φ W) (hSd : ∀ a W, S a W → a.defers = a0.defers) (hK : ∀ v W', S ((vact a0 vs).put o.dst v) W' → K (a'.put o.dst v) W') : wpOpIn (Fz r) 0 P ops Q i K a' W := by
 have hag := agree ok fr hsub hi ho hn hu h1 h2
 have hr := hp (vact a0 vs) W (fr_env ok fr hsub he) hs
 have hw := Dr.wanted_slots (ops := ops) hag
 have hev := Dr.eval_slots (ops := ops) hag
 unfold wpOpIn
 simp only [ho]
 rw [hw]
 unfold wpListIn at hr
 split
 · rename_i hwant
   rw [if_pos hwant] at hr
   refine oper_plain hnd ?_
   rw [execOp_congr o (Region.noSelect_spec ok.sel i o · · ho) hev]
   have hr2 := hr.2
   rw [sem_plain r _ o hnd] at hr2
   exact upon_carry (S := wpListIn (Fz r) 0 P ops (fun e a W => e = .normal ∧ S a W) []) (fun e a W h => h.1) (fun a' W h => by rw [vact_defers]; exact hSd a' W h.2) hr2 fun v w h => hK v w h.2
 · rename_i hwant
   rw [if_neg hwant] at hr
   exact ⟨fz_about P r o a' W, hK _ _ hr.2.2⟩
theorem Fr.ran {ops : Array Oper} {ms : List Nat} {fin : List (Nat × Bool) × List Nat} {segs : List Sg} {listed : Nat → Prop} {a0 a' : Act} {vals : List (Nat × Nat × Value)} (ok : Ok ops ms fin segs a0.tmps.size) (fr : Fr ops listed a0 a' vals) {i d : Nat} {v : Value}
 (hi : i < ops.size) (hn : ∀ j ∈ nd ops i, listed j) (hd : Dr.dstAt ops i = some d) (hv : ∀ x ∈ vals, x.1 = i → x.2.2 = v) : Fr ops (fun j => listed j ∨ j = i) a0 (a'.put (some d) v) vals := by
 have hdi := ok.dst i hi d hd
 refine ⟨fun j hj hl k hk => ?_, by rw [Dr.put_size]; exact fr.size, by rw [Dr.put_defers']; exact fr.defers, fr.idx, fr.nodup, fun x hx hl => ?_, fun t ht => ?_⟩
 · rcases hl with hl | rfl
   · exact .inl (fr.closed j hj hl k hk)
   · exact .inl (hn k hk)
 · have hxi := fr.idx x hx
   by_cases e : x.1 = i
   · have hdx : x.2.1 = d := by
      have h2 := hxi.2
      rw [e, hd] at h2
      exact (Option.some.inj h2).symm
     rw [hdx, hv x hx e]
     exact Dr.put_at _ _ _ (by rw [fr.size]; exact hdi.1)
   · have hne : d ≠ x.2.1 := fun h => e (hdi.2 _ hxi.1 (by rw [h]; exact hxi.2))
     rw [Dr.put_ne _ _ _ _ (by simpa using hne)]
     exact fr.put x hx (hl.resolve_right e)
 · have hne : d ≠ t := fun h => ht i hi (by rw [← h]; exact hd) (.inr rfl)
   rw [Dr.put_ne _ _ _ _ (by simpa using hne)]
   exact fr.old t fun j hj hjd hl => ht j hj hjd (.inl hl)
theorem Fr.ranN {ops : Array Oper} {listed : Nat → Prop} {a0 a' : Act} {vals : List (Nat × Nat × Value)} (fr : Fr ops listed a0 a' vals) {i : Nat} {v : Value} (hn : ∀ j ∈ nd ops i, listed j) (hd : Dr.dstAt ops i = none) : Fr ops (fun j => listed j ∨ j = i) a0 (a'.put none v) vals := by
 refine ⟨fun j hj hl k hk => ?_, fr.size, fr.defers, fr.idx, fr.nodup, fun x hx hl => ?_, fun t ht => fr.old t fun j hj hjd hl => ht j hj hjd (.inl hl)⟩
 · rcases hl with hl | rfl
   · exact .inl (fr.closed j hj hl k hk)
   · exact .inl (hn k hk)
 · rcases hl with hl | e
   · exact fr.put x hx hl
   · have := (fr.idx x hx).2
     rw [e, hd] at this
     cases this
theorem Fr.know {ops : Array Oper} {listed : Nat → Prop} {a0 a' : Act} {vals : List (Nat × Nat × Value)} (fr : Fr ops listed a0 a' vals) {i d : Nat} {v : Value} (hi : i < ops.size) (hd : Dr.dstAt ops i = some d) (hn : i ∉ vals.map (·.1)) (hl : listed i → a'.tmps[d]? = some v) :
 Fr ops listed a0 a' ((i, d, v) :: vals) :=
 ⟨fr.closed, fr.size, fr.defers, fun x hx => by
  rcases List.mem_cons.1 hx with rfl | hx
  · exact ⟨hi, hd⟩
  · exact fr.idx x hx, List.nodup_cons.2 ⟨hn, fr.nodup⟩, fun x hx => by
  rcases List.mem_cons.1 hx with rfl | hx
  · exact hl
  · exact fr.put x hx, fr.old⟩
theorem pend_new {C : Cx} {X : Nat → Prop} {R : List Res} {Φ : List Fact} {W : World} (o : Obj) (h : Sat ⟨fun b => C.X0 b ∨ X b, C.M0, C.W0⟩ R Φ W) (h2 : ∀ b, X b → C.M0 b ∨ C.W0.heap.size ≤ b) : Sat ⟨fun b => C.X0 b ∨ (X b ∨ b = W.heap.size), C.M0, C.W0⟩ R Φ (W.alloc o) :=
 frame (X' := fun b => X b ∨ b = W.heap.size) h h2 (Foreign.alloc _ W o) fun b hb => hb.imp id fun e => by subst e; exact ⟨Nat.le_refl _, by simp⟩
theorem pend_take {C : Cx} {X : Nat → Prop} {R : List Res} {Φ : List Fact} {W : World} {b : Nat} {T : TypeId} {cs : List Value} (h : Sat ⟨fun b => C.X0 b ∨ X b, C.M0, C.W0⟩ R Φ W) (hX : X b) (hb : W.heap[b]? = some (.cells cs.toArray T)) (hn : ¬ C.X0 b) (hsz : C.W0.heap.size ≤ b) :
 Sat ⟨fun x => C.X0 x ∨ (X x ∧ x ≠ b), C.M0, C.W0⟩ (.blk b T cs :: R) Φ W := by
 refine ⟨h.ev, ⟨hb, fun x hx => ?_, h.sep.less fun x hx => hx.imp id fun h => h.1⟩, fun x hx => ?_, fun x hx => h.x0 x (hx.imp id fun h => h.1), fun φ hφ => φ.fr _ _ W W (h.facts φ hφ) (Foreign.refl _ _) fun x hx => .inl ?_⟩
 · have : x = b := hx
   subst this
   exact ⟨fun h' => h'.elim hn fun h' => h'.2 rfl, fun ho => h.sep.notX x ho (.inr hX)⟩
 · rcases hx with hx | hx
   · have : x = b := hx
     subst this
     exact .inr hsz
   · exact h.ours x hx
 · rcases hx with (hx | hx) | hx | hx
   · exact .inl (.inl hx)
   · exact .inl (.inr hx.1)
   · have : x = b := hx
     subst this
     exact .inl (.inr hX)
   · exact .inr hx
section
variable (P : Program) (r : Option Nat) (C : Cx) (n : Nat × List Nat) (ops : Array Oper) (Q : Exit → Act → World → Prop) (ms : List Nat) (env0 : List (Nat × Value))
def Seen (vals vs : List (Nat × Nat × Value)) (i : Nat) : Prop :=
 (∃ vn, vals = vn ++ vs) ∧ (∀ j < ops.size, A ms i j = true → ∀ d, Dr.dstAt ops j = some d → ∃ v, (j, d, v) ∈ vs) ∧ ∀ x ∈ vs, A ms x.1 i = false
structure RT (listed : Nat → Prop) (a0 a' : Act) (W : World) (vals : List (Nat × Nat × Value)) (acc : List (Nat × List Res)) (R : List Res) (Φ : List Fact) (es : List (Nat × Al)) (pend : List (Nat × Nat)) : Prop where
 fr : Fr ops listed a0 a' vals
 reads : ∀ x ∈ vals, ¬ listed x.1 → ∃ vs Rs1 Φ1, Seen ops ms vals vs x.1 ∧ Pure P n ops x.1 (puts vs ++ env0) Rs1 Φ1 x.2.2 ∧ (Rs1 = [] ∨ (x.1, Rs1) ∈ acc) ∧ ∃ Φn, Φ = Φn ++ Φ1
 early : ∀ e ∈ es, ∃ vs, Seen ops ms vals vs e.1 ∧ Early P n ops e.1 (puts vs ++ env0) e.2
 esN : (es.map (·.1)).Nodup
 pendN : (pend.map (·.2)).Nodup ∧ (pend.map (·.1)).Nodup
 pends : ∀ p ∈ pend, listed p.1 ∧ (∀ x ∈ vals, x.1 ≠ p.1) ∧ ∃ d z, Dr.dstAt ops p.1 = some d ∧ (p.1, z) ∈ es ∧ a'.tmps[d]? = some (bval z.1 p.2) ∧ W.heap[p.2]? = some (.cells z.2.2.toArray z.2.1) ∧ C.W0.heap.size ≤ p.2 ∧ ¬ C.X0 p.2
 sat : Sat ⟨fun b => C.X0 b ∨ b ∈ pend.map (·.2), C.M0, C.W0⟩ R Φ W
 take : ∀ p ∈ acc, ∃ R0, Take p.2 R R0
end
theorem _root_.Go.Proofs.YtakbgccddokbbaaGreatDoor.Sat.x0le' {X X' M : Nat → Prop} {W0 : World} {R : List Res} {Φ : List Fact} {W : World} (h : Sat ⟨X, M, W0⟩ R Φ W) (hX : ∀ b, X' b → X b) : Sat ⟨X', M, W0⟩ R Φ W :=
 ⟨h.ev, h.sep.less hX, h.ours, fun b hb => h.x0 b (hX b hb), fun φ hφ => φ.fr _ _ W W (h.facts φ hφ) (Foreign.refl _ _) fun b hb => .inl (hb.imp (hX b) id)⟩
theorem Seen.more {ops : Array Oper} {ms : List Nat} {vals vs : List (Nat × Nat × Value)} {i : Nat} (h : Seen ops ms vals vs i) (x : Nat × Nat × Value) : Seen ops ms (x :: vals) vs i := by
 obtain ⟨⟨vn, hv⟩, h1, h2⟩ := h
 exact ⟨⟨x :: vn, by rw [hv]; rfl⟩, h1, h2⟩
theorem Seen.sub {ops : Array Oper} {ms : List Nat} {vals vs : List (Nat × Nat × Value)} {i : Nat} (h : Seen ops ms vals vs i) : ∀ x ∈ vs, x ∈ vals := by
 obtain ⟨⟨vn, hv⟩, _⟩ := h
 intro x hx
 rw [hv]; exact List.mem_append_right _ hx
theorem sat_part {C : Cx} {R Rs R0 : List Res} {Φ Φ1 Φn : List Fact} {W : World} (h : Sat C R Φ W) (ht : Take Rs R R0) (hf : Φ = Φn ++ Φ1) : Sat C Rs Φ1 W := by
 obtain ⟨q1, q2⟩ := ht.sep h.sep
 exact ⟨h.ev, q1.less fun b hb => .inl hb, fun b hb => h.ours b ((ht.own b).2 (.inl hb)), h.x0, fun φ hφ => φ.fr _ _ W W (h.facts φ (by rw [hf]; exact List.mem_append_right _ hφ)) (Foreign.refl _ _) fun b hb => .inl (hb.imp id fun h => (ht.own b).2 (.inl h))⟩
section
variable {P : Program} {r : Option Nat} {C : Cx} {n : Nat × List Nat} {ops : Array Oper} {Q : Exit → Act → World → Prop} {ms : List Nat} {env0 : List (Nat × Value)} {fin : List (Nat × Bool) × List Nat} {segs : List Sg} {listed : Nat → Prop} {a0 a' : Act} {W : World}
  {vals : List (Nat × Nat × Value)} {acc : List (Nat × List Res)} {R : List Res} {Φ : List Fact} {es : List (Nat × Al)} {pend : List (Nat × Nat)}
theorem RT.pure (ok : Ok ops ms fin segs a0.tmps.size) (he : Env n env0 a0) (h : RT P C n ops ms env0 listed a0 a' W vals acc R Φ es pend) {x : Nat × Nat × Value} (hx : x ∈ vals) (hu : ¬ listed x.1) (hn : ∀ j ∈ nd ops x.1, listed j) {K : Act → World → Prop}
 (hK : RT P C n ops ms env0 (fun j => listed j ∨ j = x.1) a0 (a'.put (some x.2.1) x.2.2) W vals acc R Φ es pend → K (a'.put (some x.2.1) x.2.2) W) : wpOpIn (Fz r) 0 P ops Q x.1 K a' W := by
 obtain ⟨vs, Rs1, Φ1, hseen, hp, hRn, ⟨Φn, hΦ⟩⟩ := h.reads x hx hu
 have hR : ∃ R0, Take Rs1 R R0 := by
  rcases hRn with rfl | hRn
  · exact ⟨R, Take.nil⟩
  · exact h.take _ hRn
 obtain ⟨R0, hR0⟩ := hR
 have hxi := h.fr.idx x hx
 have hs := sat_part h.sat hR0 hΦ
 refine pure_step ok h.fr hseen.sub he hxi.1 hn hu hseen.2.1 hseen.2.2 hp hs hxi.2 (hK ⟨h.fr.ran ok hxi.1 hn hxi.2 fun y hy e => by rw [vals_inj h.fr.nodup hy hx e], fun y hy hl => h.reads y hy fun hl' => hl (.inl hl'), h.early, h.esN, h.pendN, fun p hp => ?_, h.sat, h.take⟩)
 obtain ⟨q1, q2, d, z, q3, q4, q5, q6, q7, q8⟩ := h.pends p hp
 refine ⟨.inl q1, q2, d, z, q3, q4, ?_, q6, q7, q8⟩
 have hne : x.2.1 ≠ d := fun e => q2 x hx ((ok.dst _ hxi.1 _ hxi.2).2 p.1 (by
  rcases Nat.lt_or_ge p.1 ops.size with h | h
  · exact h
  · simp [Dr.dstAt, Array.getElem?_eq_none h] at q3) (by rw [q3, e])).symm
 rw [Dr.put_ne _ _ _ _ (by simpa using hne)]
 exact q5
theorem RT.alloc (ok : Ok ops ms fin segs a0.tmps.size) (he : Env n env0 a0) (h : RT P C n ops ms env0 listed a0 a' W vals acc R Φ es pend) {i d : Nat} {z : Al} (hi : i < ops.size) (hd : Dr.dstAt ops i = some d) (hx : (i, z) ∈ es) (hv : ∀ x ∈ vals, x.1 ≠ i) (hu : ¬ listed i)
 (hn : ∀ j ∈ nd ops i, listed j) {K : Act → World → Prop}
 (hK : RT P C n ops ms env0 (fun j => listed j ∨ j = i) a0 (a'.put (some d) (bval z.1 W.heap.size)) (W.alloc (.cells z.2.2.toArray z.2.1)) vals acc R Φ es ((i, W.heap.size) :: pend) →
  K (a'.put (some d) (bval z.1 W.heap.size)) (W.alloc (.cells z.2.2.toArray z.2.1))) : wpOpIn (Fz r) 0 P ops Q i K a' W := by
 obtain ⟨vs, hseen, hp⟩ := h.early _ hx
 have hlt : ∀ p ∈ pend, p.2 < W.heap.size := fun p hp => by
  obtain ⟨_, _, d, z, _, _, _, q6, _⟩ := h.pends p hp
  exact (Array.getElem?_eq_some_iff.1 q6).1
 have hdi := ok.dst i hi d hd
 refine alloc_step ok h.fr hseen.sub he hi hn hu hseen.2.1 hseen.2.2 hp hd (hK ⟨h.fr.ran ok hi hn hd fun y hy e => absurd e (hv y hy), fun y hy hl => h.reads y hy fun hl' => hl (.inl hl'), h.early, h.esN,
  ⟨List.nodup_cons.2 ⟨fun hm => ?_, h.pendN.1⟩, List.nodup_cons.2 ⟨fun hm => ?_, h.pendN.2⟩⟩, fun p hp => ?_, ?_, h.take⟩)
 · obtain ⟨p, hp, e⟩ := List.mem_map.1 hm
   have := hlt p hp
   rw [show p.2 = W.heap.size from e] at this
   exact absurd this (Nat.lt_irrefl _)
 · obtain ⟨p, hp, e⟩ := List.mem_map.1 hm
   have := (h.pends p hp).1
   rw [e] at this
   exact hu this
 · rcases List.mem_cons.1 hp with rfl | hp
   · refine ⟨.inr rfl, hv, d, z, hd, hx, Dr.put_at _ _ _ (by rw [h.fr.size]; exact hdi.1), World.alloc_heap_new W _, h.sat.ev.size, fun hX => absurd (h.sat.x0 _ (.inl hX)) (Nat.lt_irrefl _)⟩
   · obtain ⟨q1, q2, d', z', q3, q4, q5, q6, q7, q8⟩ := h.pends p hp
     refine ⟨.inl q1, q2, d', z', q3, q4, ?_, (Below.heap_alloc W _ _ (hlt p hp)).trans q6, q7, q8⟩
     have hne : d ≠ d' := fun e => hu (by
      have : p.1 = i := hdi.2 p.1 (by
       rcases Nat.lt_or_ge p.1 ops.size with h | h
       · exact h
       · simp [Dr.dstAt, Array.getElem?_eq_none h] at q3) (by rw [q3, e])
      rw [← this]; exact q1)
     rw [Dr.put_ne _ _ _ _ (by simpa using hne)]
     exact q5
 · have := pend_new (X := fun b => b ∈ pend.map (·.2)) (.cells z.2.2.toArray z.2.1) h.sat fun b hb => by
    obtain ⟨p, hp, rfl⟩ := List.mem_map.1 hb
    obtain ⟨_, _, _, _, _, _, _, _, q7, _⟩ := h.pends p hp
    exact .inr q7
   refine this.x0le' fun b hb => ?_
   rcases hb with hb | hb
   · exact .inl hb
   · rw [List.map_cons] at hb
     rcases List.mem_cons.1 hb with hb | hb
     · exact .inr (.inr hb)
     · exact .inr (.inl hb)
theorem RT.know (h : RT P C n ops ms env0 listed a0 a' W vals acc R Φ es pend) {i d : Nat} {v : Value} (hi : i < ops.size) (hd : Dr.dstAt ops i = some d) (hni : i ∉ vals.map (·.1)) (hu : ¬ listed i) {Ri : List Res} {acc' : List (Nat × List Res)} (hp : Pure P n ops i (puts vals ++ env0) Ri Φ v) (hacc : (Ri = [] ∧ acc' = acc) ∨ (acc' = (i, Ri) :: acc ∧ ∃ R0, Take Ri R R0)) {Φ' : List Fact} (hΦ : FMore Φ' Φ)
 (h1 : ∀ j < ops.size, A ms i j = true → ∀ d, Dr.dstAt ops j = some d → ∃ v, (j, d, v) ∈ vals) (h2 : ∀ x ∈ vals, A ms x.1 i = false) : RT P C n ops ms env0 listed a0 a' W ((i, d, v) :: vals) acc' R Φ' es pend := by
 obtain ⟨Φn, rfl, hΦn⟩ := hΦ
 refine ⟨h.fr.know hi hd hni fun hl => absurd hl hu, fun x hx hl => ?_, fun e he => ?_, h.esN, h.pendN, fun p hp => ?_, ⟨h.sat.ev, h.sat.sep, h.sat.ours, h.sat.x0, fun φ hφ => (List.mem_append.1 hφ).elim (hΦn _ _ h.sat.facts φ) (h.sat.facts φ)⟩, fun p hp => ?_⟩
 · rcases List.mem_cons.1 hx with rfl | hx
   · refine ⟨vals, Ri, Φ, ⟨⟨[_], rfl⟩, h1, h2⟩, hp, ?_, ⟨Φn, rfl⟩⟩
     rcases hacc with ⟨h, _⟩ | ⟨rfl, _⟩
     · exact .inl h
     · exact .inr (List.mem_cons_self ..)
   · obtain ⟨vs, Rs1, Φ1, q1, q2, q3, ⟨Φm, q4⟩⟩ := h.reads x hx hl
     refine ⟨vs, Rs1, Φ1, q1.more _, q2, ?_, ⟨Φn ++ Φm, by rw [q4, List.append_assoc]⟩⟩
     rcases hacc with ⟨_, rfl⟩ | ⟨rfl, _⟩
     · exact q3
     · exact q3.imp id (List.mem_cons_of_mem _)
 · obtain ⟨vs, q1, q2⟩ := h.early e he
   exact ⟨vs, q1.more _, q2⟩
 · obtain ⟨q1, q2, q3⟩ := h.pends p hp
   refine ⟨q1, fun x hx => ?_, q3⟩
   rcases List.mem_cons.1 hx with rfl | hx
   · intro e
     exact hu (by rw [show i = p.1 from e]; exact q1)
   · exact q2 x hx
 · rcases hacc with ⟨_, rfl⟩ | ⟨rfl, ht⟩
   · exact h.take p hp
   · rcases List.mem_cons.1 hp with rfl | hp
     · exact ht
     · exact h.take p hp
theorem RT.tell (h : RT P C n ops ms env0 listed a0 a' W vals acc R Φ es pend) {i : Nat} {z : Al} (hni : i ∉ es.map (·.1)) (hp : Early P n ops i (puts vals ++ env0) z)
 (h1 : ∀ j < ops.size, A ms i j = true → ∀ d, Dr.dstAt ops j = some d → ∃ v, (j, d, v) ∈ vals) (h2 : ∀ x ∈ vals, A ms x.1 i = false) : RT P C n ops ms env0 listed a0 a' W vals acc R Φ ((i, z) :: es) pend := by
 refine ⟨h.fr, h.reads, fun e he => ?_, List.nodup_cons.2 ⟨hni, h.esN⟩, h.pendN, fun p hp => ?_, h.sat, h.take⟩
 · rcases List.mem_cons.1 he with rfl | he
   · exact ⟨vals, ⟨⟨[], rfl⟩, h1, h2⟩, hp⟩
   · exact h.early e he
 · obtain ⟨q1, q2, d, z', q3, q4, q5⟩ := h.pends p hp
   exact ⟨q1, q2, d, z', q3, List.mem_cons_of_mem _ q4, q5⟩
theorem RT.late (ok : Ok ops ms fin segs a0.tmps.size) (h : RT P C n ops ms env0 listed a0 a' W vals acc R Φ es pend) {i d : Nat} {z : Al} (hi : i < ops.size) (hd : Dr.dstAt ops i = some d) (hx : (i, z) ∈ es) (hp : i ∈ pend.map (·.1)) :
    ∃ b, RT P C n ops ms env0 listed a0 a' W ((i, d, bval z.1 b) :: vals) acc (.blk b z.2.1 z.2.2 :: R) Φ es (pend.filter fun p => p.1 != i) := by
  obtain ⟨p, hpm, rfl⟩ := List.mem_map.1 hp
  obtain ⟨q1, q2, d', z', q3, q4, q5, q6, q7, q8⟩ := h.pends p hpm
  have e1 : (p.1, z') = (p.1, z) := es_inj h.esN q4 hx rfl
  simp only [Prod.mk.injEq, true_and] at e1
  subst e1
  rw [hd] at q3; cases q3
  have hni : p.1 ∉ vals.map (·.1) := fun hm => by
    obtain ⟨x, hx, e⟩ := List.mem_map.1 hm
    exact q2 x hx e
  have h2eq : ∀ q ∈ pend, q.1 = p.1 → q = p := fun q hq e => pair_inj h.pendN.2 hq hpm e
  refine ⟨p.2, h.fr.know hi hd hni fun _ => q5, fun x hx hl => ?_, fun e he => ?_, h.esN, ⟨h.pendN.1.sublist ((List.filter_sublist).map _), h.pendN.2.sublist ((List.filter_sublist).map _)⟩, fun q hq => ?_, ?_, fun q hq => ?_⟩
  · rcases List.mem_cons.1 hx with rfl | hx
    · exact absurd q1 hl
    · obtain ⟨vs, Rs1, Φ1, q1, q2, q3, q4⟩ := h.reads x hx hl
      exact ⟨vs, Rs1, Φ1, q1.more _, q2, q3, q4⟩
  · obtain ⟨vs, q1, q2⟩ := h.early e he
    exact ⟨vs, q1.more _, q2⟩
  · obtain ⟨hq, hne⟩ := List.mem_filter.1 hq
    obtain ⟨r1, r2, r3⟩ := h.pends q hq
    refine ⟨r1, fun x hx => ?_, r3⟩
    rcases List.mem_cons.1 hx with rfl | hx
    · intro e
      simp only [bne_iff_ne, ne_eq] at hne
      exact hne e.symm
    · exact r2 x hx
  · refine (pend_take (X := fun b => b ∈ pend.map (·.2)) h.sat (List.mem_map.2 ⟨p, hpm, rfl⟩) q6 q8 q7).x0le' fun b hb => ?_
    rcases hb with hb | hb
    · exact .inl hb
    · obtain ⟨q, hq, rfl⟩ := List.mem_map.1 hb
      obtain ⟨hq, hne⟩ := List.mem_filter.1 hq
      refine .inr ⟨List.mem_map.2 ⟨q, hq, rfl⟩, fun e => ?_⟩
      have := pair_inj2 h.pendN.1 hq hpm e
      rw [this] at hne
      simp at hne
  · obtain ⟨R0, hR0⟩ := h.take q hq
    exact ⟨_, take_under hR0⟩
where
  es_inj {es : List (Nat × Al)} (h : (es.map (·.1)).Nodup) : ∀ {x y : Nat × Al}, x ∈ es → y ∈ es → x.1 = y.1 → x = y := by
    induction es with
    | nil => intro x y hx; simp at hx
    | cons z vs ih =>
      intro x y hx hy e
      simp only [List.map_cons, List.nodup_cons] at h
      rcases List.mem_cons.1 hx with h1 | h1 <;> rcases List.mem_cons.1 hy with h2 | h2
      · rw [h1, h2]
      · exact (h.1 (List.mem_map.2 ⟨y, h2, by rw [← e, h1]⟩)).elim
      · exact (h.1 (List.mem_map.2 ⟨x, h1, by rw [e, h2]⟩)).elim
      · exact ih h.2 h1 h2 e
  pair_inj {es : List (Nat × Nat)} (h : (es.map (·.1)).Nodup) : ∀ {x y : Nat × Nat}, x ∈ es → y ∈ es → x.1 = y.1 → x = y := by
    induction es with
    | nil => intro x y hx; simp at hx
    | cons z vs ih =>
      intro x y hx hy e
      simp only [List.map_cons, List.nodup_cons] at h
      rcases List.mem_cons.1 hx with h1 | h1 <;> rcases List.mem_cons.1 hy with h2 | h2
      · rw [h1, h2]
      · exact (h.1 (List.mem_map.2 ⟨y, h2, by rw [← e, h1]⟩)).elim
      · exact (h.1 (List.mem_map.2 ⟨x, h1, by rw [e, h2]⟩)).elim
      · exact ih h.2 h1 h2 e
  pair_inj2 {es : List (Nat × Nat)} (h : (es.map (·.2)).Nodup) : ∀ {x y : Nat × Nat}, x ∈ es → y ∈ es → x.2 = y.2 → x = y := by
    induction es with
    | nil => intro x y hx; simp at hx
    | cons z vs ih =>
      intro x y hx hy e
      simp only [List.map_cons, List.nodup_cons] at h
      rcases List.mem_cons.1 hx with h1 | h1 <;> rcases List.mem_cons.1 hy with h2 | h2
      · rw [h1, h2]
      · exact (h.1 (List.mem_map.2 ⟨y, h2, by rw [← e, h1]⟩)).elim
      · exact (h.1 (List.mem_map.2 ⟨x, h1, by rw [e, h2]⟩)).elim
      · exact ih h.2 h1 h2 e
  take_under {q : Res} : ∀ {rs R R' : List Res}, Take rs R R' → Take rs (q :: R) (q :: R')
    | [], R, R', h => by rw [show R = R' from h]; exact Take.nil
    | x :: rs, R, R', h => by
      obtain ⟨R1, h1, h2⟩ := h
      exact ⟨q :: R1, Del.there h1, take_under h2⟩
theorem keep_spec {e : Nat} {R' : List Res} : ∀ {acc acc' : List (Nat × List Res)}, KeepL ms e R' acc acc' → (∀ p ∈ acc, A ms e p.1 = true ∨ p ∈ acc') ∧ (∀ p ∈ acc', p ∈ acc) ∧ ∀ p ∈ acc', ∃ R0, Take p.2 R' R0
  | [], acc', h => by
    have : acc' = [] := h
    subst this
    simp
  | (i, Ri) :: acc, acc', h => by
    rcases h with ⟨ha, h⟩ | ⟨acc'', rfl, ht, h⟩
    · obtain ⟨h1, h2, h3⟩ := keep_spec h
      refine ⟨fun p hp => ?_, fun p hp => List.mem_cons_of_mem _ (h2 p hp), h3⟩
      rcases List.mem_cons.1 hp with rfl | hp
      · exact .inl ha
      · exact h1 p hp
    · obtain ⟨h1, h2, h3⟩ := keep_spec h
      refine ⟨fun p hp => ?_, fun p hp => ?_, fun p hp => ?_⟩
      · rcases List.mem_cons.1 hp with rfl | hp
        · exact .inr (List.mem_cons_self ..)
        · exact (h1 p hp).imp id (List.mem_cons_of_mem _)
      · rcases List.mem_cons.1 hp with rfl | hp
        · exact List.mem_cons_self ..
        · exact List.mem_cons_of_mem _ (h2 p hp)
      · rcases List.mem_cons.1 hp with rfl | hp
        · exact ht
        · exact h3 p hp
theorem RT.chain (ok : Ok ops ms fin segs a0.tmps.size) (he : Env n env0 a0) (h : RT P C n ops ms env0 listed a0 a' W vals acc R Φ es pend) {i : Nat} {o : Oper} (ho : ops[i]? = some o) (hnd : ∀ c, o.op ≠ .defer c) (hu : ¬ listed i) (hn : ∀ j ∈ nd ops i, listed j)
    (h1 : ∀ j < ops.size, A ms i j = true → ∀ d, Dr.dstAt ops j = some d → ∃ v, (j, d, v) ∈ vals) (h2 : ∀ x ∈ vals, A ms x.1 i = false) (hni : i ∉ vals.map (·.1)) {J : List (Nat × Value) → List Res → List Fact → List (Nat × List Res) → Prop} (hanc : ∀ j, A ms i j = true → j < ops.size → listed j) (hai : ∀ p ∈ acc, p.1 < ops.size)
    (hp : ∀ C' : Cx, Jl P r C' n ops (Post n ms o i (puts vals ++ env0) Φ acc J C') [o] (puts vals ++ env0) R Φ) {K : Act → World → Prop}
    (hK : ∀ a'' W' vals' acc' R' Φ', RT P C n ops ms env0 (fun j => listed j ∨ j = i) a0 a'' W' vals' acc' R' Φ' es pend → (∀ p ∈ acc', p ∈ acc) → (match o.dst with | some d => ∃ v, vals' = (i, d, v) :: vals | none => vals' = vals) → J (puts vals' ++ env0) R' Φ' acc' → K a'' W') : wpOpIn (Fz r) 0 P ops Q i K a' W := by
  have hi : i < ops.size := (Array.getElem?_eq_some_iff.1 ho).1
  obtain ⟨W0, hW0⟩ : ∃ W0, W0 = W := ⟨W, rfl⟩
  rw [← hW0] at h
  rw [← hW0]
  refine chain_step (C := ⟨fun b => C.X0 b ∨ b ∈ pend.map (·.2), ownL R, W0⟩) ok h.fr (fun x hx => hx) he hi hn hu h1 h2 ho hnd (S := fun a W => ∃ env' R' Φ' acc', Env n env' a ∧ Sat ⟨fun b => C.X0 b ∨ b ∈ pend.map (·.2), ownL R, W0⟩ R' Φ' W ∧ KeepL ms i R' acc acc' ∧ FExt Φ' Φ ∧ (match o.dst with | some d => ∃ v, env' = (d, v) :: (puts vals ++ env0) | none => env' = puts vals ++ env0) ∧ J env' R' Φ' acc') (hp _) h.sat.rebase (fun a W ⟨env', _, _, _, h1, _⟩ => by rw [h1.defers, he.defers]) ?_
  rintro v W' ⟨env', R', Φ', acc', g1, g2, g3, ⟨Φn, g5⟩, g6, g7⟩
  obtain ⟨k1, k2, k3⟩ := keep_spec g3
  have hpend : ∀ p ∈ pend, W'.heap[p.2]? = W0.heap[p.2]? := fun p hp => by
    obtain ⟨_, _, d, z, _, _, _, q6, _⟩ := h.pends p hp
    exact g2.ev.block _ (Array.getElem?_eq_some_iff.1 q6).1 fun hm => h.sat.sep.notX _ hm (.inr (List.mem_map.2 ⟨p, hp, rfl⟩))
  have hreads : ∀ x ∈ vals, ¬ (listed x.1 ∨ x.1 = i) → ∃ vs Rs1 Φ1, Seen ops ms vals vs x.1 ∧ Pure P n ops x.1 (puts vs ++ env0) Rs1 Φ1 x.2.2 ∧ (Rs1 = [] ∨ (x.1, Rs1) ∈ acc') ∧ ∃ Φn, Φ' = Φn ++ Φ1 := fun x hx hl => by
    obtain ⟨vs, Rs1, Φ1, q1, q2, q3, ⟨Φm, q4⟩⟩ := h.reads x hx fun hl' => hl (.inl hl')
    refine ⟨vs, Rs1, Φ1, q1, q2, q3.imp id fun q3 => (k1 _ q3).resolve_left fun ha => hl (.inl (hanc _ ha (hai _ q3))), ⟨Φn ++ Φm, by rw [g5, q4, List.append_assoc]⟩⟩
  cases hd : o.dst with
  | none =>
    rw [hd] at g6 hK
    have hdn : Dr.dstAt ops i = none := by simp [Dr.dstAt, ho, hd]
    refine hK _ W' vals acc' R' Φ' ⟨h.fr.ranN hn hdn, hreads, h.early, h.esN, h.pendN, fun p hp => ?_, h.sat.compose g2, k3⟩ k2 rfl (by rw [← g6]; exact g7)
    obtain ⟨q1, q2, d, z, q3, q4, q5, q6, q7, q8⟩ := h.pends p hp
    exact ⟨.inl q1, q2, d, z, q3, q4, q5, (hpend p hp).trans q6, q7, q8⟩
  | some d =>
    rw [hd] at g6 hK g1
    obtain ⟨u, g6⟩ := g6
    have hdd : Dr.dstAt ops i = some d := by simp [Dr.dstAt, ho, hd]
    have hdi := ok.dst i hi d hdd
    have huv : u = v := by
      have := g1.at_ d u (by rw [g6]; simp [elook])
      rw [Dr.put_at _ _ _ (by rw [vact_size]; exact hdi.1)] at this
      exact (Option.some.inj this).symm
    subst huv
    refine hK _ W' ((i, d, u) :: vals) acc' R' Φ' ⟨(h.fr.ran ok hi hn hdd fun x hx e => absurd (List.mem_map.2 ⟨x, hx, e⟩) hni).know hi hdd hni fun _ => Dr.put_at _ _ _ (by rw [h.fr.size]; exact hdi.1), fun x hx hl => ?_, fun e he => ?_, h.esN, h.pendN, fun p hp => ?_, h.sat.compose g2, k3⟩ k2 ⟨_, rfl⟩ (by rw [g6] at g7; exact g7)
    · rcases List.mem_cons.1 hx with rfl | hx
      · exact absurd (.inr rfl) hl
      · obtain ⟨vs, Rs1, Φ1, q1, q2, q3⟩ := hreads x hx hl
        exact ⟨vs, Rs1, Φ1, q1.more _, q2, q3⟩
    · obtain ⟨vs, q1, q2⟩ := h.early e he
      exact ⟨vs, q1.more _, q2⟩
    · obtain ⟨q1, q2, d', z, q3, q4, q5, q6, q7, q8⟩ := h.pends p hp
      have hpi : p.1 ≠ i := fun e => hu (by rw [← e]; exact q1)
      refine ⟨.inl q1, fun x hx => ?_, d', z, q3, q4, ?_, (hpend p hp).trans q6, q7, q8⟩
      · rcases List.mem_cons.1 hx with rfl | hx
        · exact fun e => hpi e.symm
        · exact q2 x hx
      · have hne : d ≠ d' := fun e => hpi (hdi.2 p.1 (by
          rcases Nat.lt_or_ge p.1 ops.size with h | h
          · exact h
          · simp [Dr.dstAt, Array.getElem?_eq_none h] at q3) (by rw [q3, e]))
        rw [Dr.put_ne _ _ _ _ (by simpa using hne)]
        exact q5
theorem RT.chainY (ok : Ok ops ms fin segs a0.tmps.size) (he : Env n env0 a0) (h : RT P C n ops ms env0 listed a0 a' W vals acc R Φ es pend) {i : Nat} {o : Oper} (ho : ops[i]? = some o) (hnd : ∀ c, o.op ≠ .defer c) (hu : ¬ listed i) (hn : ∀ j ∈ nd ops i, listed j)
    (h1 : ∀ j < ops.size, A ms i j = true → ∀ d, Dr.dstAt ops j = some d → ∃ v, (j, d, v) ∈ vals) (h2 : ∀ x ∈ vals, A ms x.1 i = false) (hni : i ∉ vals.map (·.1)) {J : List (Nat × Value) → List Res → List Fact → List (Nat × List Res) → Prop} (hanc : ∀ j, A ms i j = true → j < ops.size → listed j) (hsolo : solo ops ms i = true)
    (hp : Jl P r C n ops (PostY C n o (puts vals ++ env0) J) [o] (puts vals ++ env0) R Φ) {K : Act → World → Prop}
    (hK : ∀ a'' W' vals' acc' R' Φ', RT P C n ops ms env0 (fun j => listed j ∨ j = i) a0 a'' W' vals' acc' R' Φ' es pend → (∀ p ∈ acc', p ∈ acc) → (match o.dst with | some d => ∃ v, vals' = (i, d, v) :: vals | none => vals' = vals) → J (puts vals' ++ env0) R' Φ' acc' → K a'' W') : wpOpIn (Fz r) 0 P ops Q i K a' W := by
  have hi : i < ops.size := (Array.getElem?_eq_some_iff.1 ho).1
  have hs : ∀ j < ops.size, j = i ∨ A ms i j = true ∨ A ms j i = true := fun j hj => by
    have := List.all_eq_true.1 hsolo j (List.mem_range.2 hj)
    simpa [or_assoc] using this
  have hpn : pend = [] := by
    cases hpe : pend with
    | nil => rfl
    | cons p ps =>
      exfalso
      obtain ⟨q1, q2, d, z, q3, _⟩ := h.pends p (by rw [hpe]; simp)
      have hpi : p.1 < ops.size := by
        rcases Nat.lt_or_ge p.1 ops.size with h | h
        · exact h
        · simp [Dr.dstAt, Array.getElem?_eq_none h] at q3
      rcases hs p.1 hpi with e | e | e
      · exact hu (by rw [← e]; exact q1)
      · obtain ⟨v, hv⟩ := h1 _ hpi e _ q3
        exact q2 _ hv rfl
      · exact hu (anc_listed ok.lt ok.anc h.fr.closed p.1 hpi (h.fr.closed p.1 hpi q1) i hi e)
  subst hpn
  refine chain_step (C := C) ok h.fr (fun x hx => hx) he hi hn hu h1 h2 ho hnd (S := fun a W => ∃ env' R' Φ', Env n env' a ∧ Sat C R' Φ' W ∧ (match o.dst with | some d => ∃ v, env' = (d, v) :: (puts vals ++ env0) | none => env' = puts vals ++ env0) ∧ J env' R' Φ' []) hp (h.sat.x0le' fun b hb => .inl hb) (fun a W ⟨env', _, _, h1, _⟩ => by rw [h1.defers, he.defers]) ?_
  rintro v W' ⟨env', R', Φ', g1, g2, g6, g7⟩
  have hreads : ∀ x ∈ vals, ¬ (listed x.1 ∨ x.1 = i) → False := fun x hx hl => by
    rcases hs x.1 (h.fr.idx x hx).1 with e | e | e
    · exact hl (.inr e)
    · exact hl (.inl (hanc _ e (h.fr.idx x hx).1))
    · rw [h2 x hx] at e; cases e
  have hsat : Sat ⟨fun b => C.X0 b ∨ b ∈ ([] : List (Nat × Nat)).map (·.2), C.M0, C.W0⟩ R' Φ' W' := g2.x0le' fun b hb => hb.elim id fun h => by simp at h
  cases hd : o.dst with
  | none =>
    rw [hd] at g6 hK
    have hdn : Dr.dstAt ops i = none := by simp [Dr.dstAt, ho, hd]
    exact hK _ W' vals [] R' Φ' ⟨h.fr.ranN hn hdn, fun x hx hl => (hreads x hx hl).elim, h.early, h.esN, h.pendN, fun p hp => by simp at hp, hsat, fun p hp => by simp at hp⟩ (fun p hp => by simp at hp) rfl (by rw [← g6]; exact g7)
  | some d =>
    rw [hd] at g6 hK g1
    obtain ⟨u, g6⟩ := g6
    have hdd : Dr.dstAt ops i = some d := by simp [Dr.dstAt, ho, hd]
    have hdi := ok.dst i hi d hdd
    have huv : u = v := by
      have := g1.at_ d u (by rw [g6]; simp [elook])
      rw [Dr.put_at _ _ _ (by rw [vact_size]; exact hdi.1)] at this
      exact (Option.some.inj this).symm
    subst huv
    refine hK _ W' ((i, d, u) :: vals) [] R' Φ' ⟨(h.fr.ran ok hi hn hdd fun x hx e => absurd (List.mem_map.2 ⟨x, hx, e⟩) hni).know hi hdd hni fun _ => Dr.put_at _ _ _ (by rw [h.fr.size]; exact hdi.1), fun x hx hl => ?_, fun e he => ?_, h.esN, h.pendN, fun p hp => by simp at hp, hsat, fun p hp => by simp at hp⟩ (fun p hp => by simp at hp) ⟨_, rfl⟩ (by rw [g6] at g7; exact g7)
    · rcases List.mem_cons.1 hx with rfl | hx
      · exact absurd (.inr rfl) hl
      · exact (hreads x hx hl).elim
    · obtain ⟨vs, q1, q2⟩ := h.early e he
      exact ⟨vs, q1.more _, q2⟩
end
structure ST (ops : Array Oper) (ms : List Nat) (all dn rem : List (Nat × Nat)) (listed : Nat → Prop) (vals : List (Nat × Nat × Value)) (es : List (Nat × Al)) (pend : List (Nat × Nat)) : Prop where
 whole : all = dn ++ rem
 known : ∀ p ∈ dn, p.2 ≠ 1 → ∀ d, Dr.dstAt ops p.1 = some d → ∃ v, (p.1, d, v) ∈ vals
 pures : ∀ p ∈ dn, p.2 = 0 → ∃ x ∈ vals, x.1 = p.1
 vin : ∀ x ∈ vals, ∃ k, k ≠ 1 ∧ (x.1, k) ∈ dn
 told : ∀ p ∈ dn, p.2 = 1 → ∃ z, (p.1, z) ∈ es
 tin : ∀ e ∈ es, (e.1, 1) ∈ dn
 done : ∀ p ∈ dn, p.2 = 2 ∨ p.2 = 3 → listed p.1
 undone : ∀ p ∈ rem, p.2 ≠ 2 → ¬ listed p.1
 pendIn : ∀ i, (i, 1) ∈ dn → (i, 2) ∈ rem → listed i → i ∈ pend.map (·.1)
 anc : ∀ x ∈ vals, ∀ j < ops.size, A ms x.1 j = true → ∃ k, k ≠ 1 ∧ (j, k) ∈ dn
 anc1 : ∀ e ∈ es, ∀ j < ops.size, A ms e.1 j = true → ∃ k, k ≠ 1 ∧ (j, k) ∈ dn
 seen : ∃ sn, seenOk ms ops.size rem sn = true ∧ ∀ j ∈ sn, ∃ k, k ≠ 1 ∧ (j, k) ∈ dn
theorem kinds_cases {l : List (Nat × Nat)} {i : Nat} (h : kinds l i = true) :
 ((i, 0) ∈ l ∧ (i, 1) ∉ l ∧ (i, 2) ∉ l ∧ (i, 3) ∉ l) ∨ ((i, 0) ∉ l ∧ (i, 1) ∈ l ∧ (i, 2) ∈ l ∧ (i, 3) ∉ l) ∨ ((i, 0) ∉ l ∧ (i, 1) ∉ l ∧ (i, 2) ∉ l ∧ (i, 3) ∈ l) := by
 simp only [kinds, Bool.or_eq_true, Bool.and_eq_true, Bool.not_eq_true', List.contains_eq_mem, decide_eq_true_eq, decide_eq_false_iff_not] at h
 rcases h with (⟨⟨⟨h1, h2⟩, h3⟩, h4⟩ | ⟨⟨⟨h1, h2⟩, h3⟩, h4⟩) | ⟨⟨⟨h1, h2⟩, h3⟩, h4⟩
 · exact .inl ⟨h1, h2, h3, h4⟩
 · exact .inr (.inl ⟨h1, h2, h3, h4⟩)
 · exact .inr (.inr ⟨h1, h2, h3, h4⟩)
theorem nodesP_kind : ∀ {ps : List (Nat × Bool)} {p : Nat × Nat}, p ∈ nodesP ps → p.2 = 0 ∨ p.2 = 1
  | [], _, h => by simp [nodesP] at h
  | (i, b) :: ps, p, h => by
    rcases List.mem_cons.1 h with rfl | h
    · cases b <;> simp
    · exact nodesP_kind h
theorem nodes_kind {fin : List (Nat × Bool) × List Nat} : ∀ {segs : List Sg} {p : Nat × Nat}, p ∈ nodes fin segs → p.2 = 0 ∨ p.2 = 1 ∨ p.2 = 2 ∨ p.2 = 3
  | [], p, h => by
    rcases List.mem_append.1 h with h | h
    · rcases nodesP_kind h with h | h <;> simp [h]
    · obtain ⟨i, _, rfl⟩ := List.mem_map.1 h; simp
  | s :: segs, p, h => by
    rcases List.mem_append.1 h with h | h
    · rcases List.mem_append.1 h with h | h
      · rcases nodesP_kind h with h | h <;> simp [h]
      · obtain ⟨i, _, rfl⟩ := List.mem_map.1 h; simp
    · rcases List.mem_cons.1 h with rfl | h
      · simp
      · exact nodes_kind h
def psOf (fin : List (Nat × Bool) × List Nat) : List Sg → List (Nat × Bool)
 | [] => fin.1
 | s :: _ => s.ps
def remOf (fin : List (Nat × Bool) × List Nat) : List Sg → List (Nat × Nat)
 | [] => fin.2.map fun i => (i, 2)
 | s :: segs => (s.ls.map fun i => (i, 2)) ++ (s.e, 3) :: nodes fin segs
theorem nodes_eq (fin : List (Nat × Bool) × List Nat) : ∀ segs, nodes fin segs = nodesP (psOf fin segs) ++ remOf fin segs
 | [] => rfl
 | s :: segs => by simp [nodes, psOf, remOf]
theorem nodesP_mem : ∀ {ps : List (Nat × Bool)} {p : Nat × Nat}, p ∈ nodesP ps → ∃ q ∈ ps, q.1 = p.1
  | [], _, h => by simp [nodesP] at h
  | (i, b) :: ps, p, h => by
    rcases List.mem_cons.1 h with rfl | h
    · exact ⟨_, List.mem_cons_self .., rfl⟩
    · obtain ⟨q, h1, h2⟩ := nodesP_mem h
      exact ⟨q, List.mem_cons_of_mem _ h1, h2⟩
theorem ord_anc {ms : List Nat} {fin : List (Nat × Bool) × List Nat} : ∀ {segs : List Sg} {e : Nat}, ordOk ms fin (some e) segs = true → ∀ p ∈ nodes fin segs, p.2 ≠ 2 → ∃ e', A ms p.1 e' = true ∧ (e' = e ∨ (e', 3) ∈ nodes fin segs)
  | [], e, h, p, hp, hk => by
    rcases List.mem_append.1 hp with hp | hp
    · obtain ⟨q, h1, h2⟩ := nodesP_mem hp
      simp only [ordOk] at h
      exact ⟨e, by rw [← h2]; exact List.all_eq_true.1 h q h1, .inl rfl⟩
    · obtain ⟨i, _, rfl⟩ := List.mem_map.1 hp
      exact absurd rfl hk
  | s :: segs, e, h, p, hp, hk => by
    simp only [ordOk, Bool.and_eq_true] at h
    obtain ⟨⟨⟨h1, h2⟩, h3⟩, h4⟩ := h
    rcases List.mem_append.1 hp with hp | hp
    · rcases List.mem_append.1 hp with hp | hp
      · obtain ⟨q, g1, g2⟩ := nodesP_mem hp
        exact ⟨e, by rw [← g2]; exact List.all_eq_true.1 h1 q g1, .inl rfl⟩
      · obtain ⟨i, _, rfl⟩ := List.mem_map.1 hp
        exact absurd rfl hk
    · rcases List.mem_cons.1 hp with rfl | hp
      · exact ⟨e, h3, .inl rfl⟩
      · obtain ⟨e', g1, g2⟩ := ord_anc h4 p hp hk
        refine ⟨e', g1, .inr (List.mem_append_right _ ?_)⟩
        rcases g2 with rfl | g2
        · exact List.mem_cons_self ..
        · exact List.mem_cons_of_mem _ g2
section
variable {P : Program} {r : Option Nat} {C : Cx} {n : Nat × List Nat} {ops : Array Oper} {Q : Exit → Act → World → Prop} {ms : List Nat} {env0 : List (Nat × Value)} {fin : List (Nat × Bool) × List Nat} {segs : List Sg} {listed : Nat → Prop} {a0 a' : Act} {W : World}
  {vals : List (Nat × Nat × Value)} {acc : List (Nat × List Res)} {R : List Res} {Φ : List Fact} {es : List (Nat × Al)} {pend : List (Nat × Nat)} {dn rem : List (Nat × Nat)}
theorem ST.nodup (ok : Ok ops ms fin segs a0.tmps.size) (st : ST ops ms (nodes fin segs) dn rem listed vals es pend) {p : Nat × Nat} (h1 : p ∈ dn) (h2 : p ∈ rem) : False := by
 have := ok.nodup
 rw [st.whole] at this
 exact (List.nodup_append.1 this).2.2 p h1 p h2 rfl
theorem kind_of (ok : Ok ops ms fin segs a0.tmps.size) {p q : Nat × Nat} (hp : p ∈ nodes fin segs) (hq : q ∈ nodes fin segs) (e : p.1 = q.1) (h2 : p.2 ≠ 2) (h2' : q.2 ≠ 2) : p = q := by
 have hk := kinds_cases (ok.kind p.1 (ok.idx p hp))
 have k1 := nodes_kind hp
 have k2 := nodes_kind hq
 obtain ⟨i, k⟩ := p
 obtain ⟨j, l⟩ := q
 simp only at e h2 h2' k1 k2 hk
 subst e
 have : k = l := by
  rcases k1 with rfl | rfl | rfl | rfl <;> rcases k2 with rfl | rfl | rfl | rfl <;> rcases hk with h | h | h <;> simp_all
 rw [this]
theorem late_of (ok : Ok ops ms fin segs a0.tmps.size) {i : Nat} (h : (i, 2) ∈ nodes fin segs) : (i, 0) ∉ nodes fin segs ∧ (i, 1) ∈ nodes fin segs ∧ (i, 3) ∉ nodes fin segs := by
 have hk := kinds_cases (ok.kind i (ok.idx _ h))
 rcases hk with h' | h' | h'
 · exact absurd h h'.2.2.1
 · exact ⟨h'.1, h'.2.1, h'.2.2.2⟩
 · exact absurd h h'.2.2.1
theorem ST.move {q : Nat × Nat} (ok : Ok ops ms fin segs a0.tmps.size) (st : ST ops ms (nodes fin segs) dn (q :: rem) listed vals es pend) {listed' : Nat → Prop} {vals' : List (Nat × Nat × Value)} {es' : List (Nat × Al)} {pend' : List (Nat × Nat)}
 (hl : ∀ j, listed j → listed' j) (hl' : ∀ j, listed' j → listed j ∨ (j = q.1 ∧ q.2 = 3)) (hv : (q.2 = 1 ∧ vals' = vals) ∨ (q.2 ≠ 1 ∧ ((∃ d v, Dr.dstAt ops q.1 = some d ∧ vals' = (q.1, d, v) :: vals) ∨ (Dr.dstAt ops q.1 = none ∧ vals' = vals ∧ q.2 = 3))))
 (he : (q.2 = 1 ∧ ∃ z, es' = (q.1, z) :: es) ∨ (q.2 ≠ 1 ∧ es' = es)) (hq : q.2 = 2 ∨ q.2 = 3 → listed' q.1) (hp : ∀ i ∈ pend.map (·.1), (i = q.1 ∧ q.2 = 2) ∨ i ∈ pend'.map (·.1)) (hE : q.2 = 2 → ∃ z, (q.1, z) ∈ es) :
 ST ops ms (nodes fin segs) (dn ++ [q]) rem listed' vals' es' pend' := by
 have hw : nodes fin segs = (dn ++ [q]) ++ rem := by rw [st.whole]; simp
 have hqn : q ∈ nodes fin segs := by rw [hw]; simp
 have hrn : ∀ p ∈ rem, p ∈ nodes fin segs := fun p hp => by rw [hw]; simp [hp]
 have hnd : ∀ p, p ∈ dn ++ [q] → p ∈ rem → False := fun p h1 h2 => by
  have := ok.nodup
  rw [hw] at this
  exact (List.nodup_append.1 this).2.2 p h1 p h2 rfl
 have hqd : q ∈ dn ++ [q] := by simp
 have hsub : ∀ x ∈ vals, x ∈ vals' := fun x hx => by
  rcases hv with ⟨_, rfl⟩ | ⟨_, ⟨d, v, _, rfl⟩ | ⟨_, rfl, _⟩⟩
  · exact hx
  · exact List.mem_cons_of_mem _ hx
  · exact hx
 have hes : ∀ x ∈ es, x ∈ es' := fun x hx => by
  rcases he with ⟨_, z, rfl⟩ | ⟨_, rfl⟩
  · exact List.mem_cons_of_mem _ hx
  · exact hx
 obtain ⟨sn, hs1, hs2⟩ := st.seen
 obtain ⟨qi, qk⟩ := q
 simp only [seenOk, Bool.and_eq_true, Bool.or_eq_true, beq_iff_eq] at hs1
 obtain ⟨hs0, hs1⟩ := hs1
 have hanc : qk ≠ 2 → ∀ j < ops.size, A ms qi j = true → ∃ k, k ≠ 1 ∧ (j, k) ∈ dn := fun hk j hj ha => by
  have := List.all_eq_true.1 (hs0.resolve_left hk) j (List.mem_range.2 hj)
  simp only [ha, Bool.not_true, Bool.false_or, List.contains_eq_mem, decide_eq_true_eq] at this
  exact hs2 j this
 have up : ∀ {j : Nat}, (∃ k, k ≠ 1 ∧ (j, k) ∈ dn) → ∃ k, k ≠ 1 ∧ (j, k) ∈ dn ++ [(qi, qk)] := fun ⟨k, h1, h2⟩ => ⟨k, h1, List.mem_append_left _ h2⟩
 refine ⟨hw, fun p hp hk d hd => ?_, fun p hp hk => ?_, fun x hx => ?_, fun p hp hk => ?_, fun e hee => ?_, fun p hp hk => ?_, fun p hp hk hl2 => ?_, fun i h1 h2 h3 => ?_, fun x hx j hj ha => ?_, fun e hee j hj ha => ?_, ?_⟩
 · rcases List.mem_append.1 hp with hp | hp
   · obtain ⟨v, hv⟩ := st.known p hp hk d hd
     exact ⟨v, hsub _ hv⟩
   · obtain rfl : p = (qi, qk) := by simpa using hp
     rcases hv with ⟨h, _⟩ | ⟨_, ⟨d', v, h1, rfl⟩ | ⟨h1, _, _⟩⟩
     · exact absurd h hk
     · rw [hd] at h1; cases h1; exact ⟨v, List.mem_cons_self ..⟩
     · rw [hd] at h1; cases h1
 · rcases List.mem_append.1 hp with hp | hp
   · obtain ⟨x, hx, e⟩ := st.pures p hp hk
     exact ⟨x, hsub _ hx, e⟩
   · obtain rfl : p = (qi, qk) := by simpa using hp
     simp only at hk; subst hk
     rcases hv with ⟨h, _⟩ | ⟨_, ⟨d', v, h1, rfl⟩ | ⟨h1, _, h2⟩⟩
     · cases h
     · exact ⟨_, List.mem_cons_self .., rfl⟩
     · cases h2
 · rcases hv with ⟨_, rfl⟩ | ⟨h0, ⟨d', v, h1, rfl⟩ | ⟨_, rfl, _⟩⟩
   · exact up (st.vin x hx)
   · rcases List.mem_cons.1 hx with rfl | hx
     · exact ⟨qk, h0, hqd⟩
     · exact up (st.vin x hx)
   · exact up (st.vin x hx)
 · rcases List.mem_append.1 hp with hp | hp
   · obtain ⟨z, h⟩ := st.told p hp hk
     exact ⟨z, hes _ h⟩
   · obtain rfl : p = (qi, qk) := by simpa using hp
     rcases he with ⟨_, z, rfl⟩ | ⟨h, _⟩
     · exact ⟨z, List.mem_cons_self ..⟩
     · exact absurd hk h
 · rcases he with ⟨h0, z, rfl⟩ | ⟨_, rfl⟩
   · rcases List.mem_cons.1 hee with rfl | hee
     · simp only at h0; subst h0; exact hqd
     · exact List.mem_append_left _ (st.tin e hee)
   · exact List.mem_append_left _ (st.tin e hee)
 · rcases List.mem_append.1 hp with hp | hp
   · exact hl _ (st.done p hp hk)
   · obtain rfl : p = (qi, qk) := by simpa using hp
     exact hq hk
 · rcases hl' _ hl2 with h | ⟨h1, h3⟩
   · exact st.undone p (List.mem_cons_of_mem _ hp) hk h
   · have := kind_of ok (hrn p hp) hqn h1 hk (by simp only at h3 ⊢; omega)
     rw [this] at hp
     exact hnd _ hqd hp
 · rcases List.mem_append.1 h1 with h1 | h1
   · rcases hl' _ h3 with h | ⟨h4, h5⟩
     · rcases hp _ (st.pendIn i h1 (List.mem_cons_of_mem _ h2) h) with ⟨h4, h5⟩ | h4
       · simp only at h4 h5
         subst h4 h5
         exact (hnd _ hqd h2).elim
       · exact h4
     · simp only at h4 h5
       subst h4 h5
       exact absurd (hqn) (late_of ok (hrn _ h2)).2.2
   · obtain ⟨rfl, rfl⟩ : i = qi ∧ 1 = qk := by simpa using h1
     rcases hl' _ h3 with h | ⟨_, h5⟩
     · exact absurd h (st.undone _ (List.mem_cons_self ..) (by simp))
     · cases h5
 · have old : x ∈ vals → ∃ k, k ≠ 1 ∧ (j, k) ∈ dn ++ [(qi, qk)] := fun hx => up (st.anc x hx j hj ha)
   rcases hv with ⟨_, rfl⟩ | ⟨h0, ⟨d', v, h1, rfl⟩ | ⟨_, rfl, _⟩⟩
   · exact old hx
   · rcases List.mem_cons.1 hx with rfl | hx
     · by_cases h2 : qk = 2
       · obtain ⟨z, h⟩ := hE h2
         exact up (st.anc1 _ h j hj ha)
       · exact up (hanc h2 j hj ha)
     · exact old hx
   · exact old hx
 · rcases he with ⟨h0, z, rfl⟩ | ⟨_, rfl⟩
   · rcases List.mem_cons.1 hee with rfl | hee
     · simp only at h0
       exact up (hanc (by omega) j hj ha)
     · exact up (st.anc1 e hee j hj ha)
   · exact up (st.anc1 e hee j hj ha)
 · refine ⟨_, hs1, fun j hj => ?_⟩
   split at hj
   · exact up (hs2 j hj)
   · rename_i hk
     rcases List.mem_cons.1 hj with rfl | hj
     · exact ⟨qk, by simpa using hk, hqd⟩
     · exact up (hs2 j hj)
theorem ST.list (ok : Ok ops ms fin segs a0.tmps.size) (st : ST ops ms (nodes fin segs) dn rem listed vals es pend) {i : Nat} (hk : (i, 0) ∈ dn ∨ (i, 1) ∈ dn) {pend' : List (Nat × Nat)} (hp : ∀ j ∈ pend.map (·.1), j ∈ pend'.map (·.1)) (hi : (i, 1) ∈ dn → i ∈ pend'.map (·.1)) :
 ST ops ms (nodes fin segs) dn rem (fun j => listed j ∨ j = i) vals es pend' := by
 have hdn : ∀ p ∈ dn, p ∈ nodes fin segs := fun p hp => by rw [st.whole]; simp [hp]
 have hrn : ∀ p ∈ rem, p ∈ nodes fin segs := fun p hp => by rw [st.whole]; simp [hp]
 refine ⟨st.whole, st.known, st.pures, st.vin, st.told, st.tin, fun p hp hk => .inl (st.done p hp hk), fun p hp h2 hl => ?_, fun j h1 h2 h3 => ?_, st.anc, st.anc1, st.seen⟩
 · rcases hl with hl | hl
   · exact st.undone p hp h2 hl
   · rcases hk with hk | hk
     · have := kind_of ok (hrn p hp) (hdn _ hk) hl h2 (by simp)
       rw [this] at hp
       exact st.nodup ok hk hp
     · have := kind_of ok (hrn p hp) (hdn _ hk) hl h2 (by simp)
       rw [this] at hp
       exact st.nodup ok hk hp
 · rcases h3 with h3 | rfl
   · exact hp _ (st.pendIn j h1 h2 h3)
   · exact hi h1
theorem absorb (ok : Ok ops ms fin segs a0.tmps.size) {k : List (Nat × Value) → List (Nat × Al) → List (Nat × List Res) → List Fact → Prop} : ∀ {ps : List (Nat × Bool)} {vals : List (Nat × Nat × Value)} {es : List (Nat × Al)} {acc : List (Nat × List Res)} {Φ : List Fact} {dn : List (Nat × Nat)}, (∀ p ∈ acc, p.1 < ops.size) → RT P C n ops ms env0 listed a0 a' W vals acc R Φ es pend →
    ST ops ms (nodes fin segs) dn (nodesP ps ++ rem) listed vals es pend → JB P n ops R k ps (puts vals ++ env0) es acc Φ →
    ∃ vals' es' dn' acc' Φ', RT P C n ops ms env0 listed a0 a' W vals' acc' R Φ' es' pend ∧ ST ops ms (nodes fin segs) dn' rem listed vals' es' pend ∧ (∀ p ∈ acc', p.1 < ops.size) ∧ k (puts vals' ++ env0) es' acc' Φ'
  | [], vals, es, acc, Φ, dn, hai, rt, st, h => ⟨vals, es, dn, acc, Φ, rt, st, hai, h⟩
  | (i, false) :: ps, vals, es, acc, Φ, dn, hai, rt, st, h => by
    obtain ⟨v, d, Ri, acc', Φ', hd, hp, hacc, hΦ, h⟩ := h
    have hq : (i, 0) ∈ nodesP ((i, false) :: ps) ++ rem := by simp [nodesP]
    have hqn : (i, 0) ∈ nodes fin segs := by rw [st.whole]; exact List.mem_append_right _ hq
    have hi := ok.idx _ hqn
    have hu : ¬ listed i := st.undone _ hq (by simp)
    have hni : i ∉ vals.map (·.1) := fun hm => by
      obtain ⟨x, hx, rfl⟩ := List.mem_map.1 hm
      obtain ⟨k, hk, hin⟩ := st.vin x hx
      have hk2 : k ≠ 2 := fun e => by
        subst e
        exact (late_of ok (by rw [st.whole]; exact List.mem_append_left _ hin)).1 hqn
      have := kind_of ok (p := (x.1, k)) (q := (x.1, 0)) (by rw [st.whole]; exact List.mem_append_left _ hin) hqn rfl hk2 (by simp)
      cases this
      exact st.nodup ok hin hq
    obtain ⟨sn, hs1, hs2⟩ := st.seen
    have hs0 : ∀ j < ops.size, A ms i j = true → j ∈ sn := fun j hj ha => by
      have h0 : seenOk ms ops.size ((i, 0) :: (nodesP ps ++ rem)) sn = true := hs1
      simp only [seenOk, Bool.and_eq_true, Bool.or_eq_true, beq_iff_eq] at h0
      have := List.all_eq_true.1 (h0.1.resolve_left (by decide)) j (List.mem_range.2 hj)
      simpa [ha] using this
    have rt' := rt.know (i := i) (d := d) (v := v) hi hd hni hu hp hacc hΦ (fun j hj ha d hd => by
      obtain ⟨k, hk, hin⟩ := hs2 j (hs0 j hj ha)
      exact st.known _ hin hk d hd) (fun x hx => by
      cases ha : A ms x.1 i with
      | false => rfl
      | true =>
        obtain ⟨k, hk, hin⟩ := st.anc x hx i hi ha
        have hk2 : k ≠ 2 := fun e => by
          subst e
          exact (late_of ok (by rw [st.whole]; exact List.mem_append_left _ hin)).1 hqn
        have := kind_of ok (p := (i, k)) (q := (i, 0)) (by rw [st.whole]; exact List.mem_append_left _ hin) hqn rfl hk2 (by simp)
        cases this
        exact (st.nodup ok hin hq).elim)
    have st' : ST ops ms (nodes fin segs) (dn ++ [(i, 0)]) (nodesP ps ++ rem) listed ((i, d, v) :: vals) es pend :=
      ST.move (q := (i, 0)) ok st (fun _ h => h) (fun _ h => .inl h) (.inr ⟨by simp, .inl ⟨d, v, hd, rfl⟩⟩) (.inr ⟨by simp, rfl⟩) (fun h => by simp at h) (fun _ h => .inr h) (fun h => by simp at h)
    refine absorb ok (fun p hp => ?_) rt' st' h
    rcases hacc with ⟨_, rfl⟩ | ⟨rfl, _⟩
    · exact hai p hp
    · rcases List.mem_cons.1 hp with rfl | hp
      · exact hi
      · exact hai p hp
  | (i, true) :: ps, vals, es, acc, Φ, dn, hai, rt, st, h => by
    obtain ⟨z, hp, h⟩ := h
    have hq : (i, 1) ∈ nodesP ((i, true) :: ps) ++ rem := by simp [nodesP]
    have hqn : (i, 1) ∈ nodes fin segs := by rw [st.whole]; exact List.mem_append_right _ hq
    have hi := ok.idx _ hqn
    have hu : ¬ listed i := st.undone _ hq (by simp)
    have hni : i ∉ es.map (·.1) := fun hm => by
      obtain ⟨x, hx, rfl⟩ := List.mem_map.1 hm
      exact st.nodup ok (st.tin x hx) hq
    obtain ⟨sn, hs1, hs2⟩ := st.seen
    have hs0 : ∀ j < ops.size, A ms i j = true → j ∈ sn := fun j hj ha => by
      have h0 : seenOk ms ops.size ((i, 1) :: (nodesP ps ++ rem)) sn = true := hs1
      simp only [seenOk, Bool.and_eq_true, Bool.or_eq_true, beq_iff_eq] at h0
      have := List.all_eq_true.1 (h0.1.resolve_left (by decide)) j (List.mem_range.2 hj)
      simpa [ha] using this
    have rt' := rt.tell (i := i) hni hp (fun j hj ha d hd => by
      obtain ⟨k, hk, hin⟩ := hs2 j (hs0 j hj ha)
      exact st.known _ hin hk d hd) (fun x hx => by
      cases ha : A ms x.1 i with
      | false => rfl
      | true =>
        obtain ⟨k, hk, hin⟩ := st.anc x hx i hi ha
        by_cases hk2 : k = 2
        · subst hk2; exact absurd (st.done _ hin (.inl rfl)) hu
        · have := kind_of ok (p := (i, k)) (q := (i, 1)) (by rw [st.whole]; exact List.mem_append_left _ hin) hqn rfl hk2 (by simp)
          cases this
          exact absurd rfl hk)
    have st' : ST ops ms (nodes fin segs) (dn ++ [(i, 1)]) (nodesP ps ++ rem) listed vals ((i, z) :: es) pend :=
      ST.move (q := (i, 1)) ok st (fun _ h => h) (fun _ h => .inl h) (.inl ⟨rfl, rfl⟩) (.inl ⟨rfl, z, rfl⟩) (fun h => by simp at h) (fun _ h => .inr h) (fun h => by simp at h)
    exact absorb ok hai rt' st' h
theorem lates (ok : Ok ops ms fin segs a0.tmps.size) {k : List (Nat × Value) → List Res → Prop} : ∀ {ls : List Nat} {vals : List (Nat × Nat × Value)} {R : List Res} {dn pend : List (Nat × Nat)}, RT P C n ops ms env0 listed a0 a' W vals acc R Φ es pend →
    ST ops ms (nodes fin segs) dn ((ls.map fun i => (i, 2)) ++ rem) listed vals es pend → (∀ i ∈ ls, listed i) → JL ops es k ls (puts vals ++ env0) R →
    ∃ vals' R' dn' pend', RT P C n ops ms env0 listed a0 a' W vals' acc R' Φ es pend' ∧ ST ops ms (nodes fin segs) dn' rem listed vals' es pend' ∧ k (puts vals' ++ env0) R'
  | [], vals, R, dn, pend, rt, st, _, h => ⟨vals, R, dn, pend, rt, st, h⟩
  | i :: ls, vals, R, dn, pend, rt, st, hl, h => by
    obtain ⟨d, z, hd, hx, h⟩ := h
    have hq : (i, 2) ∈ ((i :: ls).map fun i => (i, 2)) ++ rem := by simp
    have hqn : (i, 2) ∈ nodes fin segs := by rw [st.whole]; exact List.mem_append_right _ hq
    have hi := ok.idx _ hqn
    have hli := hl i (List.mem_cons_self ..)
    obtain ⟨b, rt'⟩ := rt.late ok (i := i) (d := d) hi hd hx (st.pendIn i (st.tin _ hx) hq hli)
    have st' : ST ops ms (nodes fin segs) (dn ++ [(i, 2)]) ((ls.map fun i => (i, 2)) ++ rem) listed ((i, d, bval z.1 b) :: vals) es (pend.filter fun p => p.1 != i) :=
      ST.move (q := (i, 2)) ok st (fun _ h => h) (fun _ h => .inl h) (.inr ⟨by simp, .inl ⟨d, _, hd, rfl⟩⟩) (.inr ⟨by simp, rfl⟩) (fun _ => hli) (fun j hj => by
        by_cases e : j = i
        · exact .inl ⟨e, rfl⟩
        · obtain ⟨p, hp, rfl⟩ := List.mem_map.1 hj
          exact .inr (List.mem_map.2 ⟨p, List.mem_filter.2 ⟨hp, by simpa using e⟩, rfl⟩)) (fun _ => ⟨z, hx⟩)
    exact lates ok rt' st' (fun j hj => hl j (List.mem_cons_of_mem _ hj)) (h b)
end
section
variable {P : Program} {r : Option Nat} {C : Cx} {n : Nat × List Nat} {ops : Array Oper} {Q : Exit → Act → World → Prop} {ms : List Nat} {env0 : List (Nat × Value)} {fin : List (Nat × Bool) × List Nat} {segs0 : List Sg} {a0 : Act}
def AT (P : Program) (r : Option Nat) (C : Cx) (n : Nat × List Nat) (ops : Array Oper) (Q : Exit → Act → World → Prop) (ms : List Nat) (fin : List (Nat × Bool) × List Nat) (R : List Res) : List Sg → List (Nat × Value) → List (Nat × Al) → List (Nat × List Res) → List Fact → Prop
 | [], env, es, _, Φ => JL ops es (fun env R => Jq C n Q .normal env R Φ) fin.2 env R
 | s :: segs, env, es, acc, Φ => JL ops es (JE P r C n ops ms s.e Φ acc (fun env R Φ acc => JH P r C n ops Q ms fin segs env R Φ es acc)) s.ls env R
theorem jh_at (segs : List Sg) (env : List (Nat × Value)) (R : List Res) (Φ : List Fact) (es : List (Nat × Al)) (acc : List (Nat × List Res)) (h : JH P r C n ops Q ms fin segs env R Φ es acc) : JB P n ops R (AT P r C n ops Q ms fin R segs) (psOf fin segs) env es acc Φ := by
 cases segs <;> exact h
theorem at_end (ok : Ok ops ms fin segs0 a0.tmps.size) (he : Env n env0 a0) {listed : Nat → Prop} {a' : Act} {W : World} {segs : List Sg} {vals : List (Nat × Nat × Value)} {acc : List (Nat × List Res)} {R : List Res} {Φ : List Fact} {es : List (Nat × Al)} {pend dn : List (Nat × Nat)}
    (rt : RT P C n ops ms env0 listed a0 a' W vals acc R Φ es pend) (st : ST ops ms (nodes fin segs0) dn (remOf fin segs) listed vals es pend) (hall : ∀ j < ops.size, listed j) (h : AT P r C n ops Q ms fin R segs (puts vals ++ env0) es acc Φ) : Q .normal a' W := by
  cases segs with
  | cons s segs =>
    have hm : (s.e, 3) ∈ remOf fin (s :: segs) := by simp [remOf]
    exact absurd (hall _ (ok.idx _ (by rw [st.whole]; exact List.mem_append_right _ hm))) (st.undone _ hm (by simp))
  | nil =>
    have hlf : ∀ i ∈ fin.2, listed i := fun i hi => hall _ (ok.idx (i, 2) (by rw [st.whole]; exact List.mem_append_right _ (List.mem_map.2 ⟨i, hi, rfl⟩)))
    obtain ⟨vals', R', dn', pend', rt', st', hq⟩ := lates (rem := []) ok rt (by simpa [remOf] using st) hlf h
    have hag : ∀ t, a'.tmps[t]? = (vact a0 vals').tmps[t]? := fun t => by
      by_cases hex : ∃ j, j < ops.size ∧ Dr.dstAt ops j = some t
      · obtain ⟨j, hj, hd⟩ := hex
        have huq := (ok.dst j hj t hd).2
        have hin : ∃ k, k ≠ 1 ∧ (j, k) ∈ dn' := by
          have hw : nodes fin segs0 = dn' := by rw [st'.whole, List.append_nil]
          rcases kinds_cases (ok.kind j hj) with h | h | h
          · exact ⟨0, by simp, hw ▸ h.1⟩
          · exact ⟨2, by simp, hw ▸ h.2.2.1⟩
          · exact ⟨3, by simp, hw ▸ h.2.2.2⟩
        obtain ⟨k, hk, hin⟩ := hin
        obtain ⟨v, hv⟩ := st'.known _ hin hk t hd
        rw [rt'.fr.put _ hv (hall j hj)]
        refine (vact_some a0 j t v (ok.dst j hj t hd).1 vals' hv fun x hx hxt => ?_).symm
        have hxi := rt'.fr.idx x hx
        rw [hxt] at hxi
        exact vals_inj rt'.fr.nodup hx hv (huq _ hxi.1 hxi.2)
      · rw [rt'.fr.old t fun k hk hkd => absurd ⟨k, hk, hkd⟩ hex]
        refine (vact_none a0 t vals' fun x hx hxt => ?_).symm
        have hxi := rt'.fr.idx x hx
        rw [hxt] at hxi
        exact hex ⟨_, hxi.1, hxi.2⟩
    have henv := fr_env ok rt'.fr (fun x hx => hx) he
    exact hq a' W ⟨by rw [rt'.fr.defers]; exact he.defers, by rw [rt'.fr.size]; exact he.size, fun t v ht => by rw [hag]; exact henv.at_ t v ht⟩ (rt'.sat.x0le' fun b hb => .inl hb)
theorem run_any (ok : Ok ops ms fin segs0 a0.tmps.size) (he : Env n env0 a0) : ∀ (fuel : Nat) (L : Array Bool) (a' : Act) (W : World) (un : List Nat) (segs : List Sg) (vals : List (Nat × Nat × Value)) (acc : List (Nat × List Res)) (R : List Res) (Φ : List Fact) (es : List (Nat × Al)) (pend dn : List (Nat × Nat)),
    (∀ p ∈ acc, p.1 < ops.size) → L.size = ops.size → un.length = fuel → (∀ j < ops.size, L.getD j false = false ↔ j ∈ un) → (∀ j ∈ un, j < ops.size) → un.Nodup → RT P C n ops ms env0 (fun j => L.getD j false = true) a0 a' W vals acc R Φ es pend → ST ops ms (nodes fin segs0) dn (remOf fin segs) (fun j => L.getD j false = true) vals es pend → (∃ prev, ordOk ms fin prev segs = true) → AT P r C n ops Q ms fin R segs (puts vals ++ env0) es acc Φ →
    wpAnyIn (Fz r) 0 P .any ops Q fuel L a' W := by
  intro fuel
  induction fuel with
  | zero =>
    intro L a' W un segs vals acc R Φ es pend dn hai hsz hun hu hlt hnd rt st _ h
    have hnil : un = [] := List.eq_nil_of_length_eq_zero hun
    subst hnil
    have hall : ∀ j < ops.size, L.getD j false = true := fun j hj => by
      cases hl : L.getD j false
      · exact absurd ((hu j hj).1 hl) (by simp)
      · rfl
    refine ⟨?_, at_end ok he rt st hall h⟩
    rw [List.eq_nil_iff_forall_not_mem]
    intro j hj
    obtain ⟨h1, o, ho, _⟩ := Dr.ready_iff.1 hj
    have := hall j (Array.getElem?_eq_some_iff.1 ho).1
    rw [Dr.getD_ft h1] at this
    cases this
  | succ fuel ih =>
    intro L a' W un segs vals acc R Φ es pend dn hai hsz hun hu hlt hnd rt st hord h
    refine ⟨fun hnil => ?_, fun i hi => ?_⟩
    · exfalso
      have hne : un ≠ [] := fun e => by rw [e] at hun; simp at hun
      obtain ⟨j, hj, hmin⟩ := Dr.exists_least un hne
      have hjn := hlt j hj
      have : j ∈ Region.ready .any ops L := Dr.ready_iff.2 ⟨Dr.getD_tf (by rw [hsz]; exact hjn) ((hu j hjn).2 hj), ops[j], Array.getElem?_eq_getElem hjn, fun k hk => by
        have hkj := ok.lt j hjn k (by simpa [nd, Array.getElem?_eq_getElem hjn] using hk)
        cases hl : L.getD k false
        · exact absurd (hmin k ((hu k (by omega)).1 hl)) (by omega)
        · rfl⟩
      rw [hnil] at this
      cases this
    · obtain ⟨h1, o, ho, hn⟩ := Dr.ready_iff.1 hi
      have hil : i < ops.size := (Array.getElem?_eq_some_iff.1 ho).1
      have hnot : ¬ L.getD i false = true := by rw [Dr.getD_ft h1]; simp
      have hnd' : ∀ j ∈ nd ops i, L.getD j false = true := fun j hj => hn j (by simpa [nd, ho] using hj)
      have hanc : ∀ j < ops.size, A ms i j = true → L.getD j false = true := anc_listed ok.lt ok.anc rt.fr.closed i hil hnd'
      have hset : (fun j => (L.setIfInBounds i true).getD j false = true) = (fun j => L.getD j false = true ∨ j = i) := funext fun j => propext (by
        by_cases e : j = i
        · subst e; simp [Dr.getD_setT (show j < L.size by omega)]
        · rw [Dr.getD_setN false (Ne.symm e)]; simp [e])
      have him : i ∈ un := (hu i hil).1 (Dr.getD_ft h1)
      have hsz' : (L.setIfInBounds i true).size = ops.size := by simp [hsz]
      have hun' : (un.erase i).length = fuel := by rw [List.length_erase_of_mem him, hun]; rfl
      have hu' : ∀ j < ops.size, (L.setIfInBounds i true).getD j false = false ↔ j ∈ un.erase i := fun j hj => by
        rw [hnd.mem_erase_iff, ← hu j hj]
        by_cases e : j = i
        · subst e; simp [Dr.getD_setT (show j < L.size by omega)]
        · rw [Dr.getD_setN false (Ne.symm e)]; simp [e]
      have hlt' : ∀ j ∈ un.erase i, j < ops.size := fun j hj => hlt j (List.mem_of_mem_erase hj)
      have hnd2 : (un.erase i).Nodup := hnd.erase i
      have go : ∀ a'' W', (RT P C n ops ms env0 (fun j => L.getD j false = true ∨ j = i) a0 a'' W' vals acc R Φ es pend ∧ ST ops ms (nodes fin segs0) dn (remOf fin segs) (fun j => L.getD j false = true ∨ j = i) vals es pend) → wpAnyIn (Fz r) 0 P .any ops Q fuel (L.setIfInBounds i true) a'' W' := fun a'' W' ⟨rt', st'⟩ =>
        ih _ a'' W' _ segs vals acc R Φ es pend dn hai hsz' hun' hu' hlt' hnd2 (by rw [hset]; exact rt') (by rw [hset]; exact st') hord h
      -- nothing that stands in the rest is ready, but the chain's next
      have hrest : ∀ k, k ≠ 2 → (i, k) ∈ remOf fin segs → ∃ s segs', segs = s :: segs' ∧ k = 3 ∧ i = s.e := fun k hk hm => by
        cases segs with
        | nil =>
          obtain ⟨_, _, e⟩ := List.mem_map.1 hm
          cases e; exact absurd rfl hk
        | cons s segs' =>
          rcases List.mem_append.1 hm with hm | hm
          · obtain ⟨_, _, e⟩ := List.mem_map.1 hm
            cases e; exact absurd rfl hk
          · rcases List.mem_cons.1 hm with hm | hm
            · cases hm; exact ⟨s, segs', rfl, rfl, rfl⟩
            · exfalso
              obtain ⟨prev, hord⟩ := hord
              simp only [ordOk, Bool.and_eq_true] at hord
              obtain ⟨e', g1, g2⟩ := ord_anc hord.2 _ hm hk
              have he3 : (e', 3) ∈ remOf fin (s :: segs') := by
                refine List.mem_append_right _ ?_
                rcases g2 with rfl | g2
                · exact List.mem_cons_self ..
                · exact List.mem_cons_of_mem _ g2
              exact st.undone _ he3 (by simp) (hanc e' (ok.idx (e', 3) (by rw [st.whole]; exact List.mem_append_right _ he3)) g1)
      have hsplit : ∀ k, (i, k) ∈ nodes fin segs0 → (i, k) ∈ dn ∨ (i, k) ∈ remOf fin segs := fun k hk => by rw [st.whole] at hk; exact List.mem_append.1 hk
      rcases kinds_cases (ok.kind i hil) with hk | hk | hk
      · rcases hsplit 0 hk.1 with hm | hm
        · obtain ⟨x, hx, rfl⟩ := st.pures _ hm rfl
          exact rt.pure ok he hx hnot hnd' fun rt' => go _ _ ⟨rt', st.list ok (.inl hm) (fun _ h => h) fun h1 => absurd (by rw [st.whole]; exact List.mem_append_left _ h1) hk.2.1⟩
        · obtain ⟨_, _, _, h, _⟩ := hrest 0 (by simp) hm
          cases h
      · rcases hsplit 1 hk.2.1 with hm | hm
        · obtain ⟨z, hx⟩ := st.told _ hm rfl
          obtain ⟨vs, _, o', d, ho', hd', _⟩ := rt.early _ hx
          have hd : Dr.dstAt ops i = some d := by simp [Dr.dstAt, ho', hd']
          have hv : ∀ x ∈ vals, x.1 ≠ i := fun x hx e => by
            obtain ⟨k, hk1, hin⟩ := st.vin x hx
            rw [e] at hin
            have : k = 2 := by
              have hn' : (i, k) ∈ nodes fin segs0 := by rw [st.whole]; exact List.mem_append_left _ hin
              have hkk : k = 0 ∨ k = 1 ∨ k = 2 ∨ k = 3 := nodes_kind hn'
              rcases hkk with rfl | rfl | rfl | rfl
              · exact absurd hn' hk.1
              · exact absurd rfl hk1
              · rfl
              · exact absurd hn' hk.2.2.2
            subst this
            exact hnot (st.done _ hin (.inl rfl))
          exact rt.alloc ok he hil hd hx hv hnot hnd' fun rt' => ih _ _ _ _ segs vals acc R Φ es _ dn hai hsz' hun' hu' hlt' hnd2 (by rw [hset]; exact rt') (by rw [hset]; exact st.list ok (.inr hm) (fun j hj => by rw [List.map_cons]; exact List.mem_cons_of_mem _ hj) fun _ => by simp) hord h
        · obtain ⟨_, _, _, h, _⟩ := hrest 1 (by simp) hm
          cases h
      · rcases hsplit 3 hk.2.2.2 with hm | hm
        · exact absurd (st.done _ hm (.inr rfl)) hnot
        · obtain ⟨s, segs', rfl, _, rfl⟩ := hrest 3 (by simp) hm
          obtain ⟨prev, hord⟩ := hord
          simp only [ordOk, Bool.and_eq_true] at hord
          obtain ⟨⟨⟨_, g2⟩, _⟩, g4⟩ := hord
          have hls : ∀ j ∈ s.ls, L.getD j false = true := fun j hj => hanc j (ok.idx (j, 2) (by rw [st.whole]; exact List.mem_append_right _ (List.mem_append_left _ (List.mem_map.2 ⟨j, hj, rfl⟩)))) (List.all_eq_true.1 g2 j hj)
          obtain ⟨vals', R', dn', pend', rt', st', o', ho', hndf, hJ⟩ := lates ok rt st hls h
          have hq : (s.e, 3) ∈ (s.e, 3) :: nodes fin segs' := List.mem_cons_self ..
          have hni : s.e ∉ vals'.map (·.1) := fun hm => by
            obtain ⟨x, hx, e⟩ := List.mem_map.1 hm
            obtain ⟨k, hk1, hin⟩ := st'.vin x hx
            rw [e] at hin
            have hn' : (s.e, k) ∈ nodes fin segs0 := by rw [st'.whole]; exact List.mem_append_left _ hin
            have hkk : k = 0 ∨ k = 1 ∨ k = 2 ∨ k = 3 := nodes_kind hn'
            rcases hkk with rfl | rfl | rfl | rfl
            · exact hk.1 hn'
            · exact hk1 rfl
            · exact hk.2.2.1 hn'
            · exact st'.nodup ok hin hq
          obtain ⟨sn, hs1, hs2⟩ := st'.seen
          have g1 : ∀ j < ops.size, A ms s.e j = true → ∀ d, Dr.dstAt ops j = some d → ∃ v, (j, d, v) ∈ vals' := by
            intro j hj ha d hd
            simp only [seenOk, Bool.and_eq_true, Bool.or_eq_true, beq_iff_eq] at hs1
            have := List.all_eq_true.1 (hs1.1.resolve_left (by decide)) j (List.mem_range.2 hj)
            obtain ⟨k, hk1, hin⟩ := hs2 j (by simpa [ha] using this)
            exact st'.known _ hin hk1 d hd
          have g2' : ∀ x ∈ vals', A ms x.1 s.e = false := by
            intro x hx
            cases ha : A ms x.1 s.e with
            | false => rfl
            | true =>
              obtain ⟨k, hk1, hin⟩ := st'.anc x hx _ hil ha
              have hn' : (s.e, k) ∈ nodes fin segs0 := by rw [st'.whole]; exact List.mem_append_left _ hin
              have hkk : k = 0 ∨ k = 1 ∨ k = 2 ∨ k = 3 := nodes_kind hn'
              rcases hkk with rfl | rfl | rfl | rfl
              · exact absurd hn' hk.1
              · exact absurd rfl hk1
              · exact absurd hn' hk.2.2.1
              · exact (st'.nodup ok hin hq).elim
          have g3 : ∀ a'' W' vals'' acc'' R'' Φ'', RT P C n ops ms env0 (fun j => L.getD j false = true ∨ j = s.e) a0 a'' W' vals'' acc'' R'' Φ'' es pend' → (∀ p ∈ acc'', p ∈ acc) → (match o'.dst with | some d => ∃ v, vals'' = (s.e, d, v) :: vals' | none => vals'' = vals') → JH P r C n ops Q ms fin segs' (puts vals'' ++ env0) R'' Φ'' es acc'' → wpAnyIn (Fz r) 0 P .any ops Q fuel (L.setIfInBounds s.e true) a'' W' := by
            intro a'' W' vals'' acc'' R'' Φ'' rt'' hsub hvv hJ'
            have st'' : ST ops ms (nodes fin segs0) (dn' ++ [(s.e, 3)]) (nodes fin segs') (fun j => L.getD j false = true ∨ j = s.e) vals'' es pend' :=
              ST.move (q := (s.e, 3)) ok st' (fun _ h => .inl h) (fun _ h => h.imp id fun h => ⟨h, rfl⟩) (.inr ⟨by simp, by
                cases hd : o'.dst with
                | none => rw [hd] at hvv; exact .inr ⟨by simp [Dr.dstAt, ho', hd], hvv, rfl⟩
                | some d =>
                  rw [hd] at hvv
                  obtain ⟨v, hv⟩ := hvv
                  exact .inl ⟨d, v, by simp [Dr.dstAt, ho', hd], hv⟩⟩) (.inr ⟨by simp, rfl⟩) (fun _ => .inr rfl) (fun _ h => .inr h) (fun h => by simp at h)
            rw [nodes_eq fin segs'] at st''
            obtain ⟨vals3, es3, dn3, acc3, Φ3, rt3, st3, hai3, h3⟩ := absorb ok (fun p hp => hai p (hsub p hp)) rt'' st'' (jh_at _ _ _ _ _ _ hJ')
            exact ih _ a'' W' _ segs' vals3 acc3 R'' Φ3 es3 pend' dn3 hai3 hsz' hun' hu' hlt' hnd2 (by rw [hset]; exact rt3) (by rw [hset]; exact st3) ⟨_, g4⟩ h3
          rcases hJ with hJ | ⟨hso, hJ⟩
          · exact rt'.chain ok he ho' hndf hnot hnd' g1 g2' hni (J := fun env' R' Φ' acc' => JH P r C n ops Q ms fin segs' env' R' Φ' es acc') (fun j ha hj => hanc j hj ha) hai hJ g3
          · exact rt'.chainY ok he ho' hndf hnot hnd' g1 g2' hni (J := fun env' R' Φ' acc' => JH P r C n ops Q ms fin segs' env' R' Φ' es acc') (fun j ha hj => hanc j hj ha) hso hJ g3
end
theorem _root_.Go.Proofs.YtakbgccddokbbaaGreatDoor.Jc.drawn {P : Program} {r : Option Nat} {C : Cx} {n : Nat × List Nat} {Q : Exit → Act → World → Prop} {env : List (Nat × Value)} {R : List Res} {Φ : List Fact} {id : Nat} {l : List Oper} (ms : List Nat) (fin : List (Nat × Bool) × List Nat) (segs : List Sg) (hm : P.follows .mixedOrders = true)
 (hok : okB l.toArray ms fin segs n.1 = true) (h : JH P r C n l.toArray Q ms fin segs env R Φ [] []) : Jc P r C n Q (.region id l.toArray true) env R Φ := fun a W he hs => by
 refine wpIn_region_any hm ?_
 rw [← he.size] at hok
 have ok := okB_spec hok
 have hf : ∀ j, (Array.replicate l.toArray.size false).getD j false = false := fun j => getD_replicate_false _ _
 have hl0 : ∀ {p : Prop} {j : Nat}, (Array.replicate l.toArray.size false).getD j false = true → p := fun h => by rw [hf] at h; cases h
 have hgrow : Sat C R Φ { W with drawn := W.drawn + 1 } := hs.grow ⟨rfl, rfl, rfl, Nat.le_refl _, fun _ _ _ => rfl⟩
 have rt0 : RT P C n l.toArray ms env (fun j => (Array.replicate l.toArray.size false).getD j false = true) a a { W with drawn := W.drawn + 1 } [] [] R Φ [] [] :=
  ⟨⟨fun i _ h => hl0 h, rfl, rfl, fun x hx => (by simp at hx), by simp, fun x hx => (by simp at hx), fun _ _ => rfl⟩, fun x hx => (by simp at hx), fun e he => (by simp at he), by simp, by simp, fun p hp => (by simp at hp), hgrow.x0le' fun b hb => by simpa using hb, fun p hp => (by simp at hp)⟩
 have st0 : ST l.toArray ms (nodes fin segs) [] (nodesP (psOf fin segs) ++ remOf fin segs) (fun j => (Array.replicate l.toArray.size false).getD j false = true) [] [] [] :=
  ⟨by rw [nodes_eq]; rfl, fun p hp => (by simp at hp), fun p hp => (by simp at hp), fun x hx => (by simp at hx), fun p hp => (by simp at hp), fun x hx => (by simp at hx), fun p hp => (by simp at hp), fun p _ _ h => hl0 h, fun i h => (by simp at h), fun x hx => (by simp at hx), fun x hx => (by simp at hx), ⟨[], by rw [← nodes_eq]; exact ok.seen, fun j hj => (by simp at hj)⟩⟩
 obtain ⟨vals, es, dn, acc, Φ', rt, st, hai, h⟩ := absorb ok (fun p hp => (by simp at hp)) rt0 st0 (jh_at _ _ _ _ _ _ h)
 exact run_any ok he _ _ a _ (List.range l.toArray.size) segs vals acc R Φ' es [] dn hai (by simp) (by simp) (fun j hj => by rw [hf]; simpa using hj) (fun j hj => List.mem_range.1 hj) List.nodup_range rt st ⟨_, ok.ord⟩ h
end Dh
end Go.Proofs.YtakbgccddokbbaaGreatDoor
namespace Go.Proofs.YtakbgccddokbbaaGreatDoor
theorem zX {a b : List Fact} (h : Dh.FExt a b := by repeat (first | exact Dh.FExt.refl | apply Dh.FExt.cons | apply Dh.FExt.app)) : Dh.FExt a b := h
end Go.Proofs.YtakbgccddokbbaaGreatDoor
namespace Go.Proofs.YtakbgccddokbbaaGreatDoor
open Go.RowKit
namespace Dh
theorem FExt.refl {Φ : List Fact} : FExt Φ Φ := ⟨[], rfl⟩
theorem FExt.cons {φ : Fact} {Φ' Φ : List Fact} (h : FExt Φ' Φ) : FExt (φ :: Φ') Φ := by obtain ⟨Φn, rfl⟩ := h; exact ⟨φ :: Φn, rfl⟩
theorem FExt.app {Φ' Φ Ψ : List Fact} (h : FExt Φ' Φ) : FExt (Ψ ++ Φ') Φ := by obtain ⟨Φn, rfl⟩ := h; exact ⟨Ψ ++ Φn, by rw [List.append_assoc]⟩
theorem FMore.refl {Φ : List Fact} : FMore Φ Φ := ⟨[], rfl, fun _ _ _ φ h => by simp at h⟩
theorem FMore.one {φ ψ : Fact} {Φ : List Fact} (hm : Mem φ Φ) (h : ∀ X W, φ.p X W → ψ.p X W) : FMore (ψ :: Φ) Φ := ⟨[ψ], rfl, fun X W hf x hx => by
 obtain rfl : x = ψ := by simpa using hx
 exact h X W (hf _ hm.mem)⟩
theorem KeepL.nil {ms : List Nat} {e : Nat} {R' : List Res} : KeepL ms e R' [] [] := rfl
theorem KeepL.anc {ms : List Nat} {e i : Nat} {R' Ri : List Res} {acc acc' : List (Nat × List Res)} (h : A ms e i = true) (k : KeepL ms e R' acc acc') : KeepL ms e R' ((i, Ri) :: acc) acc' := .inl ⟨h, k⟩
theorem KeepL.keep {ms : List Nat} {e i : Nat} {R' Ri R0 : List Res} {acc acc' : List (Nat × List Res)} (h : Take Ri R' R0) (k : KeepL ms e R' acc acc') : KeepL ms e R' ((i, Ri) :: acc) ((i, Ri) :: acc') := .inr ⟨_, rfl, ⟨_, h⟩, k⟩
def OnG (ops : Array Oper) (env : List (Nat × Value)) : Option (Nat × Bool) → Prop
 | none => True
 | some (j, want) => ∃ t, (ops[j]?).bind (·.dst) = some t ∧ elook t env = some (.bool want)
def OffG (ops : Array Oper) (env : List (Nat × Value)) : Option (Nat × Bool) → Prop
 | none => False
 | some (j, want) => ∃ t, (ops[j]?).bind (·.dst) = some t ∧ (elook t env = some undef ∨ elook t env = some (.bool (!want)))
theorem onG {ops : Array Oper} {env : List (Nat × Value)} {n : Nat × List Nat} {o : Oper} {a : Act} (h : OnG ops env o.guard) (he : Env n env a) : Region.wanted o (yielded ops a.tmps) = true := by
  unfold Region.wanted
  cases hg : o.guard with
  | none => rfl
  | some gw =>
    obtain ⟨g, want⟩ := gw
    rw [hg] at h
    obtain ⟨t, h1, h2⟩ := h
    have := he.at_ t _ h2
    simp [yielded, h1, this]
theorem offG {ops : Array Oper} {env : List (Nat × Value)} {n : Nat × List Nat} {o : Oper} {a : Act} (h : OffG ops env o.guard) (he : Env n env a) : Region.wanted o (yielded ops a.tmps) = false := by
  unfold Region.wanted
  cases hg : o.guard with
  | none => rw [hg] at h; exact h.elim
  | some gw =>
    obtain ⟨g, want⟩ := gw
    rw [hg] at h
    obtain ⟨t, h1, h2 | h2⟩ := h
    · have := he.at_ t _ h2
      simp [yielded, h1, this, undef]
    · have := he.at_ t _ h2
      cases want <;> simp [yielded, h1, this]
section
variable {P : Program} {r : Option Nat} {C : Cx} {n : Nat × List Nat} {ops : Array Oper} {Q : Exit → Act → World → Prop} {ms : List Nat} {env env' : List (Nat × Value)} {R R0 R' : List Res} {Φ Φ' : List Fact} {ps : List (Nat × Bool)} {ls : List Nat} {e : Nat} {segs : List Sg} {fin : List (Nat × Bool) × List Nat} {es : List (Nat × Al)} {acc acc' : List (Nat × List Res)}
  {k : List (Nat × Value) → List (Nat × Al) → List (Nat × List Res) → List Fact → Prop} {kl : List (Nat × Value) → List Res → Prop} {i d : Nat} {op : Op} {T T' : TypeId} {pos : String} {af : Array Edge} {v : Value} {g : Option (Nat × Bool)} {x y : Operand}
theorem JH.cons (h : JB P n ops R (fun env es acc Φ => JL ops es (JE P r C n ops ms e Φ acc (fun env R Φ acc => JH P r C n ops Q ms fin segs env R Φ es acc)) ls env R) ps env es acc Φ) : JH P r C n ops Q ms fin (⟨ps, ls, e⟩ :: segs) env R Φ es acc := h
theorem JH.nil (h : JB P n ops R (fun env es _ Φ => JL ops es (fun env R => Jq C n Q .normal env R Φ) ls env R) ps env es acc Φ) : JH P r C n ops Q ms (ps, ls) [] env R Φ es acc := h
theorem JB.nil (h : k env es acc Φ) : JB P n ops R k [] env es acc Φ := h
theorem JL.nil (h : kl env R) : JL ops es kl [] env R := h
theorem pure_of {Ri : List Res} (ho : ops[i]? = some ⟨some d, op, T, pos, af, g⟩) (hg : OnG ops env g) (h : ∀ C', PR P C' n env Ri Φ op T v) (hd : Nat.blt d n.1 = true) : Pure P n ops i env Ri Φ v := by
 refine ⟨_, d, ho, rfl, Nat.le_of_ble_eq_true hd, fun C' a W he hs => ?_⟩
 rw [if_pos (onG hg he)]
 have hrun := h C' a W he hs (some d) pos af g
 exact ⟨fun c e => by simp only at e; subst e; exact defer_run hrun, hrun⟩
theorem JB.pv (ho : ops[i]? = some ⟨some d, op, T, pos, af, g⟩) (hg : OnG ops env g) (h : ∀ C', PR P C' n env [] Φ op T v) (k' : JB P n ops R k ps ((d, v) :: env) es acc Φ) (hd : Nat.blt d n.1 = true := by rfl) : JB P n ops R k ((i, false) :: ps) env es acc Φ :=
 ⟨v, d, [], acc, Φ, by rw [ho]; rfl, pure_of ho hg h hd, .inl ⟨rfl, rfl⟩, FMore.refl, k'⟩
theorem JB.rd (Ri : List Res) (ho : ops[i]? = some ⟨some d, op, T, pos, af, g⟩) (hg : OnG ops env g) (ht : Take Ri R R0) (h : ∀ C', PR P C' n env Ri Φ op T v) (k' : JB P n ops R k ps ((d, v) :: env) es ((i, Ri) :: acc) Φ) (hd : Nat.blt d n.1 = true := by rfl) : JB P n ops R k ((i, false) :: ps) env es acc Φ :=
 ⟨v, d, Ri, _, Φ, by rw [ho]; rfl, pure_of ho hg h hd, .inr ⟨rfl, _, ht⟩, FMore.refl, k'⟩
theorem JB.off (ho : ops[i]? = some ⟨some d, op, T, pos, af, g⟩) (hg : OffG ops env g) (k' : JB P n ops R k ps ((d, undef) :: env) es acc Φ) (hd : Nat.blt d n.1 = true := by rfl) : JB P n ops R k ((i, false) :: ps) env es acc Φ :=
 ⟨undef, d, [], acc, Φ, by rw [ho]; rfl, ⟨_, d, ho, rfl, Nat.le_of_ble_eq_true hd, fun C' a W he hs => by rw [if_neg (by rw [offG hg he]; simp)]⟩, .inl ⟨rfl, rfl⟩, FMore.refl, k'⟩
theorem JB.bsplit {b : Bool} (h1 : b = true → JB P n ops R k ps ((d, .bool true) :: env) es acc Φ) (h2 : b = false → JB P n ops R k ps ((d, .bool false) :: env) es acc Φ) : JB P n ops R k ps ((d, .bool b) :: env) es acc Φ := by
 cases b
 · exact h2 rfl
 · exact h1 rfl
theorem JB.as {u : Value} (u' : Value) (h : u = u') (k' : JB P n ops R k ps ((d, u') :: env) es acc Φ) : JB P n ops R k ps ((d, u) :: env) es acc Φ := by subst h; exact k'
theorem slice_run {A : Option Addr} {len cap s : Nat} {et : TypeId} {lo hi : Option Operand} {l h : Nat} {a : Act} {W : World} {o : Oper} (ho : o.op = .slice T' x lo hi none) (he : Env n env a)
    (hx : opv env x = some (.slice A len cap)) (hT : tslice P T' = some (et, s))
    (hlo : (match lo with | none => some (Value.int .i64 0) | some o => opv env o) = some (.int .i64 l)) (hhi : (match hi with | none => some (Value.int .i64 len) | some o => opv env o) = some (.int .i64 h))
    (h1 : l ≤ h) (h2 : h ≤ len) (h3 : len ≤ cap) : (execOp a.eval o).run P W = .ok (.value (.slice (if cap = l then A else A.map (·.add (l * s))) (h - l) (cap - l))) W := by
  obtain ⟨hu, inf, hi', hk⟩ := tslice_spec hT
  have e1 : (Instr.sliceBounds true len cap (lo.map a.eval) (hi.map a.eval) none).run P W = .ok (l, h, cap) W := by
    have h5 : (0 : Int) ≤ h ∧ (h : Int) ≤ cap := by omega
    have h6 : (0 : Int) ≤ l ∧ (l : Int) ≤ h := by omega
    have h5' : h ≤ cap := by omega
    cases lo with
    | none =>
      have hl0 : l = 0 := by simp at hlo; omega
      subst hl0
      cases hi with
      | none =>
        have : h = len := by simp at hhi; omega
        subst this
        simp [Instr.sliceBounds]
      | some o => simp [Instr.sliceBounds, he.eval hhi, Instr.sliceBound, asIntOf, h5']
    | some o' =>
      cases hi with
      | none =>
        have : h = len := by simp at hhi; omega
        subst this
        simp [Instr.sliceBounds, he.eval hlo, Instr.sliceBound, asIntOf, h1]
      | some o => simp [Instr.sliceBounds, he.eval hhi, he.eval hlo, Instr.sliceBound, asIntOf, h5', h1]
  simp [execOp, ho, he.eval hx, Instr.sliceAt, Instr.slice, run_underlying hu, e1, sizeOf, typeInfo, hi', hk]
theorem slice_rd {A : Option Addr} {len cap s l h : Nat} {xs : List Value} (h1 : l ≤ h) (h2 : h ≤ len) (h3 : len ≤ cap) (X : Nat → Prop) (W : World) (hp : (Fact.rd A xs).p X W) :
 (Fact.rd (if cap = l then A else A.map (·.add (l * s))) ((xs.drop (l * s)).take ((h - l) * s))).p X W := by
 intro j u hu'
 have hj : j < (h - l) * s := by
  have := (List.getElem?_eq_some_iff.1 hu').1
  simp at this
  omega
 rw [List.getElem?_take_of_lt hj, List.getElem?_drop] at hu'
 obtain ⟨ad, rfl, q1, q2, q3⟩ := hp (l * s + j) u hu'
 have hne : cap ≠ l := by
  intro e
  have : h - l = 0 := by omega
  rw [this] at hj; simp at hj
 rw [if_neg hne]
 exact ⟨ad.add (l * s), rfl, by rw [add_block]; exact q1, by rw [add_block]; exact q2, by rw [add_add]; exact q3⟩
theorem JB.slice {A : Option Addr} {len cap s : Nat} {et : TypeId} {xs : List Value} {lo hi : Option Operand} (l h m : Nat) (ys : List Value) (ho : ops[i]? = some ⟨some d, .slice T' x lo hi none, T, pos, af, g⟩) (hg : OnG ops env g)
 (hx : opv env x = some (.slice A len cap)) (hT : tslice P T' = some (et, s))
 (hlo : (match lo with | none => some (Value.int .i64 0) | some o => opv env o) = some (.int .i64 l)) (hhi : (match hi with | none => some (Value.int .i64 len) | some o => opv env o) = some (.int .i64 h))
 (hm : Mem (.rd A xs) Φ) (h1 : l ≤ h) (h2 : h ≤ len) (h3 : len ≤ cap) (hme : h - l = m) (hys : (xs.drop (l * s)).take (m * s) = ys)
 (k' : ∀ A' c', c' = cap - l → JB P n ops R k ps ((d, .slice A' m c') :: env) es acc (.rd A' ys :: Φ)) (hd : Nat.blt d n.1 = true := by rfl) : JB P n ops R k ((i, false) :: ps) env es acc Φ := by
 subst hme hys
 exact ⟨_, d, [], acc, _, by rw [ho]; rfl, ⟨_, d, ho, rfl, Nat.le_of_ble_eq_true hd, fun C' a W he hs => by
  rw [if_pos (onG hg he)]
  exact ⟨by simp, slice_run (n := n) rfl he hx hT hlo hhi h1 h2 h3⟩⟩, .inl ⟨rfl, rfl⟩, FMore.one hm (slice_rd (len := len) h1 h2 h3), k' _ _ rfl⟩
theorem JB.alloc {cs : List Value} (ho : ops[i]? = some ⟨some d, .alloc T', T, pos, af, g⟩) (hg : OnG ops env g) (hz : tzero P T' = some cs) (k' : JB P n ops R k ps env ((i, none, T', cs) :: es) acc Φ) (hd : Nat.blt d n.1 = true := by rfl) : JB P n ops R k ((i, true) :: ps) env es acc Φ :=
  ⟨(none, T', cs), ⟨_, d, ho, rfl, Nat.le_of_ble_eq_true hd, by simp, fun a W he => ⟨onG hg he, by
    obtain ⟨z, hz1, hz2⟩ := tzero_spec (w := W) hz
    simp [execOp, Instr.alloc, hz1, newVar, newRow, hz2, bval]⟩⟩, k'⟩
theorem JB.box {cs : List Value} (ho : ops[i]? = some ⟨some d, .box T' x, T, pos, af, g⟩) (hg : OnG ops env g) (hx : opv env x = some v) (hc : v.cells = cs.toArray) (k' : JB P n ops R k ps env ((i, none, T', cs) :: es) acc Φ) (hd : Nat.blt d n.1 = true := by rfl) : JB P n ops R k ((i, true) :: ps) env es acc Φ :=
  ⟨(none, T', cs), ⟨_, d, ho, rfl, Nat.le_of_ble_eq_true hd, by simp, fun a W he => ⟨onG hg he, by
    simp [execOp, he.eval hx, Instr.box, newVar, newRow, hc, bval]⟩⟩, k'⟩
theorem JB.buildSlice {m : Nat} {qs : Array (Nat × Operand)} {vs cs zs : List Value} {et : TypeId} {s : Nat} (ho : ops[i]? = some ⟨some d, .buildSlice T' m qs, T, pos, af, g⟩) (hg : OnG ops env g)
    (hv : opvs env (qs.toList.map (·.2)) = some vs) (hT : tslice P T' = some (et, s)) (hz : zrow P T' m = some zs)
    (hm : Nat.ble (m * s) 16777216 = true) (hf : fillL zs ((qs.toList.map fun p => (p.1 * s, s)).zip vs) = some cs) (k' : JB P n ops R k ps env ((i, some m, et, cs) :: es) acc Φ) (hd : Nat.blt d n.1 = true := by rfl) : JB P n ops R k ((i, true) :: ps) env es acc Φ :=
  ⟨(some m, et, cs), ⟨_, d, ho, rfl, Nat.le_of_ble_eq_true hd, by simp, fun a W he => ⟨onG hg he, by
    have e1 : qs.map (fun (i, x) => (i, a.eval x)) = ((qs.toList.map (·.1)).zip vs).toArray := by
      apply Array.toList_inj.1
      simp only [Array.toList_map, ← opvs_eval he hv]
      induction qs.toList with
      | nil => rfl
      | cons p l ih => simp [ih]
    have hb := run_buildSlice (P := P) (w := W) (is := qs.toList.map (·.1)) (vs := vs) hT hz (Nat.le_of_ble_eq_true hm) (by simpa [Function.comp_def] using hf)
    simp [execOp, e1, hb, bval]⟩⟩, k'⟩
theorem JL.ptr {cs : List Value} (hd : ((ops[i]?).bind (·.dst)) = some d) (hm : (i, none, T, cs) ∈ es) (k' : ∀ b : Nat, JL ops es kl ls ((d, .pointer (some ⟨b, 0, none⟩)) :: env) (.blk b T cs :: R)) : JL ops es kl (i :: ls) env R := ⟨d, _, hd, hm, k'⟩
theorem JL.sl {m : Nat} {cs : List Value} (hd : ((ops[i]?).bind (·.dst)) = some d) (hm : (i, some m, T, cs) ∈ es) (k' : ∀ b : Nat, JL ops es kl ls ((d, .slice (some ⟨b, 0, none⟩) m m) :: env) (.blk b T cs :: R)) : JL ops es kl (i :: ls) env R := ⟨d, _, hd, hm, k'⟩
theorem es_here {z : Al} : (i, z) ∈ (i, z) :: es := List.mem_cons_self ..
theorem es_there {p q : Nat × Al} (h : p ∈ es) : p ∈ q :: es := List.mem_cons_of_mem _ h
variable {J : List (Nat × Value) → List Res → List Fact → List (Nat × List Res) → Prop}
theorem JE.mk {o : Oper} (ho : ops[e]? = some o) (hnd : ∀ c, o.op ≠ .defer c) (h : ∀ C' : Cx, Jl P r C' n ops (Post n ms o e env Φ acc J C') [o] env R Φ) : JE P r C n ops ms e Φ acc J env R := ⟨o, ho, hnd, .inl h⟩
theorem Jq.segV {C' : Cx} {env0 : List (Nat × Value)} {Φ0 : List Fact} (hf : FExt Φ' Φ0) (h : J ((d, v) :: env0) R Φ' acc') (hk : KeepL ms e R acc acc') : Jq C' n (Post n ms ⟨some d, op, T, pos, af, g⟩ e env0 Φ0 acc J C') .normal ((d, v) :: env0) R Φ' :=
 fun a W he hs => ⟨rfl, _, _, _, _, he, hs, hk, hf, ⟨v, rfl⟩, h⟩
theorem Jq.segN {C' : Cx} {env0 : List (Nat × Value)} {Φ0 : List Fact} (hf : FExt Φ' Φ0) (h : J env0 R Φ' acc') (hk : KeepL ms e R acc acc') : Jq C' n (Post n ms ⟨none, op, T, pos, af, g⟩ e env0 Φ0 acc J C') .normal env0 R Φ' :=
 fun a W he hs => ⟨rfl, _, _, _, _, he, hs, hk, hf, rfl, h⟩
end
end Dh
end Go.Proofs.YtakbgccddokbbaaGreatDoor
namespace Go.Proofs.YtakbgccddokbbaaGreatDoor
theorem zK {ms : List Nat} {e : Nat} {R : List Res} {a b : List (Nat × List Res)} (h : Dh.KeepL ms e R a b := by repeat (first | exact Dh.KeepL.nil | apply Dh.KeepL.anc (by rfl) | apply Dh.KeepL.keep (by repeat (first | exact Take.nil | apply Take.cons (by repeat (first | exact Del.here | apply Del.there)))))) : Dh.KeepL ms e R a b := h
end Go.Proofs.YtakbgccddokbbaaGreatDoor
namespace Go.Proofs.YtakbgccddokbbaaGreatDoor
open Go.RowKit
section
variable {P : Program} {r : Option Nat} {C : Cx} {n : Nat × List Nat} {ops : Array Oper} {Q : Exit → Act → World → Prop} {rest : List Oper} {env : List (Nat × Value)} {R R' : List Res} {Φ : List Fact} {d : Nat} {T T' : TypeId} {x y : Operand} {v : Value} {pos : String} {af : Array Edge}
theorem PR.index1 {len : Nat} {et : TypeId} {kd : IntKind} {i : Int} {vs : List Value} (j : Nat) (hx : opv env x = some (.agg vs.toArray)) (hy : opv env y = some (.int kd i)) (hT : tarray P T' = some (len, et, 1)) (hs : tshape P et = some (false, 1)) (hi : i = j) (hj : j < len) (hv : vs[j]? = some v) :
 PR P C n env R Φ (.index T' x y) T v := fun a W he _ d pos af g => by
 subst hi
 obtain ⟨hu, inf, hin, hk⟩ := tarray_spec hT
 have h1 : (0 : Int) ≤ j ∧ (j : Int) < len := by omega
 simp [execOp, he.eval hx, he.eval hy, Instr.index, asIntOf, run_underlying hu, part, run_isAgg_ts hs, sizeOf, typeInfo, hin, hk, h1, hj, hv]
theorem PR.idxRA {ad : Addr} {len s : Nat} {et : TypeId} {kd : IntKind} {i : Int} (j : Nat) (hx : opv env x = some (.pointer (some ad))) (hy : opv env y = some (.int kd i)) (hT : tarray P T' = some (len, et, s)) (hi : i = j) (hj : j < len) :
 PR P C n env R Φ (.indexAddr T' x y) T (.pointer ((some ad : Option Addr).map (·.add (j * s)))) := fun a W he _ d pos af g => by
 subst hi
 obtain ⟨hu, inf, hin, hk⟩ := tarray_spec hT
 have h1 : (0 : Int) ≤ j ∧ (j : Int) < len := by omega
 simp [execOp, he.eval hx, he.eval hy, Instr.indexAt, asIntOf, run_underlying hu, Instr.sureAddr, sizeOf, typeInfo, hin, hk, h1, hj]
theorem PR.cap {A : Option Addr} {m c : Nat} {e : TypeId} {s : Nat} (hx : opv env x = some (.slice A m c)) (hT : tslice P T' = some (e, s))  : PR P C n env R Φ (.call { callee := .builtin .cap, args := #[x], argTypes := #[T'] }) T (.int .i64 c) := fun a W he _ d pos af g => (by
 simp [execOp, he.eval hx, resolve, invoke, builtin, Builtin.cap_, run_underlying (tslice_spec hT).1, goInt])
theorem zeroCells_size (z : Array Value) (k : Nat) : (Builtin.zeroCells z k).size = k * z.size := by simp [Builtin.zeroCells]
theorem Jl.growNil {mm : Nat} {tn e : TypeId} {s bytes : Nat} {zc : List Value} {kn kq : IntKind} (hx : opv env x = some (.slice none 0 0)) (hy : opv env y = some (.int kq (mm : Int))) (hT : tslice P T' = some (e, s)) (hn : P.underlying tn = some (.int kn)) (hz : tzero P e = some zc) (hzl : zc.length = s) (hs0 : 0 < s)
 (hb : P.bytesOf e = bytes) (h0 : 0 < mm) (h63 : mm ≤ 100000000) (hby : bytes ≤ 1000000) (k : ∀ A' c', mm ≤ c' → Jl P r C n ops Q rest ((d, .slice A' mm c') :: env) (.row e s (.slice A' 0 c') 0 [] :: R) Φ) (hd : Nat.blt d n.1 = true := by rfl) :
 Jl P r C n ops Q (⟨some d, .call { callee := .builtin .append, args := #[x, y], argTypes := #[T', tn] }, T, pos, af, none⟩ :: rest) env R Φ :=
 Jl.valx hd (by simp) fun a W he hs => by
  obtain ⟨hu, inf, hi, hk⟩ := tslice_spec hT
  have hzz : ∃ z, inf.zero = some z ∧ z.cells = zc.toArray := by
   unfold tzero at hz
   rw [hi] at hz
   cases h : inf.zero with
   | none => simp [h] at hz
   | some z => simp [h] at hz; exact ⟨z, rfl, by rw [← hz]⟩
  obtain ⟨z, hz1, hz2⟩ := hzz
  have hbb : inf.bytes = bytes := by simpa [Program.bytesOf, hi] using hb
  have hbnd : mm * bytes ≤ 140737488355328 := Nat.le_trans (Nat.mul_le_mul h63 hby) (by omega)
  have hfit : Builtin.nextslicecap mm 0 * bytes ≤ 281474976710656 := by
   refine Nat.le_trans (Nat.mul_le_mul_right _ (nextslicecap_le h0)) ?_
   rw [Nat.mul_assoc]; omega
  have hrun := Go.Lib.run_append_grow_zeros (P := P) W T' tn T e inf z kq kn hu hn hi hz1 none 0 0 [] (by exact run_firstCells_none _ _ _ _ _) mm h0 (by rw [hk]; exact hs0) (by omega) (by omega) (by rw [hbb]; omega) (by rw [hbb, Nat.zero_add]; exact hfit)
  have hge := grownCap_ge W (0 + mm) 0 e
  have hle := grownCap_le_maxLen W (0 + mm) 0 e (by unfold maxLen; omega)
  rw [Nat.zero_add] at hrun hge hle
  obtain ⟨cap, hcap⟩ : ∃ cap, grownCap W mm 0 e = cap := ⟨_, rfl⟩
  rw [hcap] at hrun hge hle
  refine ⟨_, W.drew.alloc (.cells (#[] ++ Builtin.zeroCells z.cells mm ++ Builtin.zeroCells z.cells (cap - mm)) e), .row e s (.slice (some ⟨W.heap.size, 0, none⟩) 0 cap) 0 [] :: R, Φ, ?_, ?_, k (some ⟨W.heap.size, 0, none⟩) cap hge⟩
  · simp only [execOp, resolve, invoke, builtin, Sem.run_bind, Sem.run_pure, Result.andThen_ok, List.map_toArray, List.map_cons, List.map_nil, he.eval hx, he.eval hy, hrun]
  · have hsz : (#[] ++ Builtin.zeroCells z.cells mm ++ Builtin.zeroCells z.cells (cap - mm)).size = cap * s := by
     rw [Array.size_append, Array.size_append, zeroCells_size, zeroCells_size, hz2]
     have h9 : mm * s + (cap - mm) * s = cap * s := by
      rw [← Nat.add_mul]
      congr 1
      omega
     simpa [hzl] using h9
    refine (hs.grow (Foreign.drew _ W)).step (W' := W.drew.alloc _) (Foreign.alloc _ W.drew _) ⟨⟨by simp, .inr ⟨W.heap.size, cap, _, rfl, Nat.zero_le _, World.alloc_heap_new W.drew _, Nat.zero_le _, hle, hsz, by simp⟩⟩, fun b hb => ?_, (hs.grow (Foreign.drew _ W)).sep.keep fun b hb => Below.heap_alloc W.drew _ b (hs.sep.lt b hb)⟩ fun b hb => ?_
    · have hb' : W.heap.size = b := by simpa [Res.row, Value.ownBlock] using hb
      subst hb'
      exact ⟨fun hx => absurd (hs.x0lt _ hx) (Nat.lt_irrefl _), fun hx => absurd (hs.sep.lt _ hx) (Nat.lt_irrefl _)⟩
    · rcases hb with hb | hb
      · have hb' : W.heap.size = b := by simpa [Res.row, Value.ownBlock] using hb
        exact .inr (Nat.le_of_eq hb')
      · exact .inl hb
theorem PR.slice0 {A : Option Addr} {len cap s : Nat} {e : TypeId} {hi : Operand} (h : Nat) (hx : opv env x = some (.slice A len cap)) (hT : tslice P T' = some (e, s)) (hhi : opv env hi = some (.int .i64 (h : Int))) (h2 : h ≤ len) (h3 : len ≤ cap) :
 PR P C n env R Φ (.slice T' x none (some hi) none) T (.slice A h cap) := fun a W he _ d pos af g => by
 have := Dh.slice_run (P := P) (n := n) (l := 0) (h := h) (a := a) (W := W) (o := ⟨d, .slice T' x none (some hi) none, T, pos, af, g⟩) rfl he hx hT rfl hhi (Nat.zero_le _) h2 h3
 rw [this]
 cases A with
 | none => simp
 | some a => simp [Addr.add]
end
end Go.Proofs.YtakbgccddokbbaaGreatDoor
namespace Go.Proofs.YtakbgccddokbbaaGreatDoor
open Go.RowKit
abbrev AdC := Option Addr × Nat
abbrev Slc := AdC × Nat × List Value
abbrev i64s (l : List Int) : List Value := l.map (Value.int .i64)
def slsV (zs : List Slc) : List Value := zs.map fun z => .slice z.1.1 z.2.1 z.1.2
def Fact.sls (zs : List Slc) : Fact := ⟨fun X W => ∀ z ∈ zs, (Fact.rd z.1.1 z.2.2).p X W, fun X X' W W' h hf hx z hz => (Fact.rd z.1.1 z.2.2).fr X X' W W' (h z hz) hf hx⟩
def sumS (zs : List Slc) : Nat := (zs.map (·.2.1)).sum
def flatS (zs : List Slc) : List Value := zs.flatMap (·.2.2)
theorem sumS_take {zs : List Slc} {k : Nat} (h : k < zs.length) : sumS (zs.take (k + 1)) = sumS (zs.take k) + zs[k].2.1 := by
 rw [List.take_succ_eq_append_getElem h, sumS, List.map_append, List.sum_append]; simp [sumS]
theorem flatS_take {zs : List Slc} {k : Nat} (h : k < zs.length) : flatS (zs.take (k + 1)) = flatS (zs.take k) ++ zs[k].2.2 := by
 rw [List.take_succ_eq_append_getElem h, flatS, List.flatMap_append]; simp [flatS]
theorem sumS_le (zs : List Slc) (k : Nat) : sumS (zs.take k) ≤ sumS zs := by
 have : sumS zs = sumS (zs.take k) + sumS (zs.drop k) := by unfold sumS; rw [← List.sum_append, ← List.map_append, List.take_append_drop]
 omega
theorem getsls {zs : List Slc} {k : Nat} (h : k < zs.length) : (slsV zs)[k]? = some (.slice zs[k].1.1 zs[k].2.1 zs[k].1.2) := by simp [slsV, h]
theorem i64s_one (l : List Int) : ∀ u ∈ i64s l, u.oneCell' = true := by
 intro u hu
 obtain ⟨n, _, rfl⟩ := List.mem_map.1 hu
 rfl
theorem getDE {l : List Int} {k : Nat} (h : k < l.length) : l.getD k 0 = l[k] := by rw [List.getD_eq_getElem?_getD, List.getElem?_eq_getElem h]; rfl
theorem getd {l : List Int} {k : Nat} (h : k < l.length) : (i64s l)[k]? = some (.int .i64 (l.getD k 0)) := by rw [getDE h]; simp [i64s, h]
theorem not_true {b : Bool} (h : (!b) = true) : b = false := by simpa using h
theorem not_false {b : Bool} (h : (!b) = false) : b = true := by simpa using h
theorem putL_one : ∀ {cs : List Value} {j : Nat} {v : Value}, j < cs.length → putL cs j [v] = some (cs.set j v)
 | [], _, _, h => by simp at h
 | c :: cs, 0, v, h => by cases cs <;> rfl
 | c :: cs, j + 1, v, h => by simp only [putL]; rw [putL_one (by simpa using h)]; rfl
section
variable {P : Program} {r : Option Nat} {C : Cx} {n : Nat × List Nat} {Q : Exit → Act → World → Prop} {c : Code} {env : List (Nat × Value)} {R R' : List Res} {Φ : List Fact} {ops : Array Oper} {rest : List Oper}
theorem Jc.slNil (k : Jc P r C n Q c env R (.sls [] :: Φ)) : Jc P r C n Q c env R Φ := Jc.fact0 (.sls []) (fun X W => by intro z hz; simp at hz) k
theorem Jl.slNil (k : Jl P r C n ops Q rest env R (.sls [] :: Φ)) : Jl P r C n ops Q rest env R Φ := Jl.fact0 (.sls []) (fun X W => by intro z hz; simp at hz) k
theorem Jc.slCons {zs : List Slc} (z : Slc) (hm : Mem (.rd z.1.1 z.2.2) Φ) (hz : Mem (.sls zs) Φ) (k : Jc P r C n Q c env R (.sls (z :: zs) :: Φ)) : Jc P r C n Q c env R Φ := fun a W h1 h2 => k a W h1 (h2.add (φ := .sls (z :: zs)) fun y hy => by
 rcases List.mem_cons.1 hy with rfl | hy
 · exact h2.fact hm
 · exact h2.fact hz y hy)
theorem Jl.slCons {zs : List Slc} (z : Slc) (hm : Mem (.rd z.1.1 z.2.2) Φ) (hz : Mem (.sls zs) Φ) (k : Jl P r C n ops Q rest env R (.sls (z :: zs) :: Φ)) : Jl P r C n ops Q rest env R Φ := fun a W h1 h2 => k a W h1 (h2.add (φ := .sls (z :: zs)) fun y hy => by
 rcases List.mem_cons.1 hy with rfl | hy
 · exact h2.fact hm
 · exact h2.fact hz y hy)
theorem Jc.slAt {zs : List Slc} (k : Nat) (hk : k < zs.length) (hm : Mem (.sls zs) Φ) (j : Jc P r C n Q c env R (.rd zs[k].1.1 zs[k].2.2 :: Φ)) : Jc P r C n Q c env R Φ :=
 Jc.fact (.rd zs[k].1.1 zs[k].2.2) (φ := .sls zs) hm (fun X W h => h _ (List.getElem_mem _)) j
end
end Go.Proofs.YtakbgccddokbbaaGreatDoor
namespace Go.Proofs.YtakbgccddokbbaaGreatDoor
open Go.RowKit
structure Cf where
 d : Int
 mn : Int
 su : Int
 po : Int
 hi : Int
 ho : Int
 wu : Int
 dr : Int
 re : Int
 ti : Int
 fa : Int
 de : Int
 ve : Int
 sk : Bool
 ms : List Int
def Cf.nums (c : Cf) : List Int := [c.d, c.mn, c.su, c.po, c.hi, c.ho, c.wu, c.dr, c.re, c.ti, c.fa, c.de, c.ve]
def Cf.cs (c : Cf) (x : AdC) : List Value := [.int .i64 c.d, .int .i64 c.mn, .int .i64 c.su, .int .i64 c.po, .int .i64 c.hi, .int .i64 c.ho, .int .i64 c.wu, .int .i64 c.dr, .int .i64 c.re, .int .i64 c.ti, .int .i64 c.fa, .int .i64 c.de, .int .i64 c.ve, .bool c.sk, .slice x.1 c.ms.length x.2]
def Cf.v (c : Cf) (x : AdC) : Value := .agg (c.cs x).toArray
def Cf.row (c : Cf) (x : AdC) : Res := .row 3 1 (.slice x.1 c.ms.length x.2) c.ms.length (i64s c.ms)
def Cf.nth (c : Cf) (k : Nat) : Int := c.nums.getD k 0
theorem cs_at (c : Cf) (x : AdC) : ∀ {k : Nat}, k < 13 → (c.cs x)[k]? = some (.int .i64 (c.nth k))
 | 0, _ => rfl | 1, _ => rfl | 2, _ => rfl | 3, _ => rfl | 4, _ => rfl | 5, _ => rfl | 6, _ => rfl | 7, _ => rfl | 8, _ => rfl | 9, _ => rfl | 10, _ => rfl | 11, _ => rfl | 12, _ => rfl
 | k + 13, h => by omega
abbrev Lm := Int × Int
def lims : List Lm := [(0, 6), (0, 100), (0, 3), (0, 3), (0, 20), (0, 20), (0, 20), (0, 20), (1, 20), (1, 20), (1, 20), (0, 20), (1, 1099511627776)]
def limAt (k : Nat) : Lm := lims.getD k (0, 0)
def limV : List Value := lims.flatMap fun p => [.int .i64 p.1, .int .i64 p.2]
theorem lim_at : ∀ {k : Nat}, k < 13 → takeL limV (k * 2) 2 = some [.int .i64 (limAt k).1, .int .i64 (limAt k).2]
 | 0, _ => rfl | 1, _ => rfl | 2, _ => rfl | 3, _ => rfl | 4, _ => rfl | 5, _ => rfl | 6, _ => rfl | 7, _ => rfl | 8, _ => rfl | 9, _ => rfl | 10, _ => rfl | 11, _ => rfl | 12, _ => rfl
 | k + 13, h => by omega
def inB (n : Int) (l : Lm) : Bool := decide (l.1 ≤ n) && decide (n ≤ l.2)
theorem inB_iff {n : Int} {l : Lm} : inB n l = true ↔ l.1 ≤ n ∧ n ≤ l.2 := by simp [inB]
def Cf.fOk (c : Cf) : Bool := (List.range 13).all fun k => inB (c.nth k) (limAt k)
theorem fOk_iff {c : Cf} : c.fOk = true ↔ ∀ k, k < 13 → inB (c.nth k) (limAt k) = true := by simp [Cf.fOk]
def mOkAt (l : List Int) (k : Nat) : Bool := inB (l.getD k 0) (1, 100) && (decide (k = 0) || decide (l.getD (k - 1) 0 < l.getD k 0))
def mOk (l : List Int) : Bool := (List.range l.length).all (mOkAt l)
theorem mOk_iff {l : List Int} : mOk l = true ↔ ∀ k, k < l.length → mOkAt l k = true := by simp [mOk]
theorem mOkAt_1 {l : List Int} {k : Nat} (hk : k < l.length) (h : inB l[k] (1, 100) = false) : ¬ mOk l = true := fun hm => by
 have := mOk_iff.1 hm k hk
 rw [mOkAt, getDE hk, h] at this
 simp at this
theorem mOkAt_2 {l : List Int} {k : Nat} (hk : k < l.length) (h0 : 0 < k) (h : l[k] ≤ l[k - 1]) : ¬ mOk l = true := fun hm => by
 have := mOk_iff.1 hm k hk
 rw [mOkAt, getDE hk, getDE (show k - 1 < l.length by omega)] at this
 simp only [Bool.and_eq_true, Bool.or_eq_true, decide_eq_true_eq] at this
 omega
theorem mOkAt_3 {l : List Int} {k : Nat} (hk : k < l.length) (h : inB l[k] (1, 100) = true) (h2 : k = 0 ∨ l[k - 1] < l[k]) : mOkAt l k = true := by
 rw [mOkAt, getDE hk, getDE (show k - 1 < l.length by omega), h]
 simpa using h2
def Cf.fl (c : Cf) : Int := (c.d * c.mn + 99) / 100
def Cf.ok (c : Cf) : Bool := c.fOk && (decide (c.ms.length ≤ 4) && (mOk c.ms && (decide (c.d = 0) || decide (c.fl < c.su + c.d))))
def Cf.chk (c : Cf) : Int := if c.ok = true then 0 else 70
theorem Cf.in_d {c : Cf} (h : c.fOk = true) : 0 ≤ c.d ∧ c.d ≤ 6 := inB_iff.1 (fOk_iff.1 h 0 (by omega))
theorem Cf.in_mn {c : Cf} (h : c.fOk = true) : 0 ≤ c.mn ∧ c.mn ≤ 100 := inB_iff.1 (fOk_iff.1 h 1 (by omega))
theorem Cf.in_su {c : Cf} (h : c.fOk = true) : 0 ≤ c.su ∧ c.su ≤ 3 := inB_iff.1 (fOk_iff.1 h 2 (by omega))
theorem Cf.in_po {c : Cf} (h : c.fOk = true) : 0 ≤ c.po ∧ c.po ≤ 3 := inB_iff.1 (fOk_iff.1 h 3 (by omega))
theorem Cf.ok_f {c : Cf} (h : c.ok = true) : c.fOk = true := by simp only [Cf.ok, Bool.and_eq_true] at h; exact h.1
theorem Cf.ok_m {c : Cf} (h : c.ok = true) : c.ms.length ≤ 4 := by simp only [Cf.ok, Bool.and_eq_true, decide_eq_true_eq] at h; exact h.2.1
theorem Cf.ok_s {c : Cf} (h : c.ok = true) : mOk c.ms = true := by simp only [Cf.ok, Bool.and_eq_true, decide_eq_true_eq] at h; exact h.2.2.1
theorem Cf.ok_l {c : Cf} (h : c.ok = true) : c.d = 0 ∨ c.fl < c.su + c.d := by simp only [Cf.ok, Bool.and_eq_true, Bool.or_eq_true, decide_eq_true_eq] at h; exact h.2.2.2
theorem Cf.ok_mk {c : Cf} (h1 : c.fOk = true) (h2 : c.ms.length ≤ 4) (h3 : mOk c.ms = true) (h4 : c.d = 0 ∨ c.fl < c.su + c.d) : c.ok = true := by simp only [Cf.ok, Bool.and_eq_true, Bool.or_eq_true, decide_eq_true_eq]; exact ⟨h1, h2, h3, h4⟩
theorem Cf.chk_ok {c : Cf} (h : c.ok = true) : c.chk = 0 := if_pos h
theorem Cf.chk_no {c : Cf} (h : ¬ c.ok = true) : c.chk = 70 := if_neg h
theorem dm_le {d m : Int} (h1 : 0 ≤ d ∧ d ≤ 6) (h2 : 0 ≤ m ∧ m ≤ 100) : 0 ≤ d * m ∧ d * m ≤ 600 := by
 have a := Int.mul_nonneg h1.1 h2.1
 have b : d * m ≤ 6 * m := Int.mul_le_mul_of_nonneg_right h1.2 h2.1
 omega
def Cf.zero : Cf := ⟨0, 0, 0, 0, 0, 0, 0, 0, 0, 0, 0, 0, 0, false, []⟩
def cfRaw (l : List Int) : Cf := ⟨l.getD 0 0, l.getD 1 0, l.getD 2 0, l.getD 3 0, l.getD 4 0, l.getD 5 0, l.getD 6 0, l.getD 7 0, l.getD 8 0, l.getD 9 0, l.getD 10 0, l.getD 11 0, l.getD 12 0, decide (l.getD 13 0 = 1), l.drop 14⟩
def rawOk (l : List Int) : Bool := decide (13 < l.length) && (inB (l.getD 13 0) (0, 1) && (cfRaw l).ok)
def cfOf (l : List Int) : Cf := if rawOk l = true then cfRaw l else Cf.zero
def cfE (l : List Int) : Int := if rawOk l = true then 0 else 70
def sameK (a b : Cf) (k : Nat) : Bool := (decide (a.sk = b.sk) && decide (a.ms = b.ms)) && (List.range k).all fun j => decide (b.nth j = a.nth j)
def sameC (a b : Cf) : Bool := sameK a b 13
def ofCs (l : List Int) : Nat → List Value
 | 0 => Cf.zero.cs (none, 0)
 | k + 1 => (ofCs l k).set k (.int .i64 (l.getD k 0))
theorem ofCs_len (l : List Int) (k : Nat) : (ofCs l k).length = 15 := by
 induction k with
 | zero => rfl
 | succ k ih => simp [ofCs, ih]
theorem ofCs_put (l : List Int) {k : Nat} (h : k < 13) : putL (ofCs l k) k [.int .i64 (l.getD k 0)] = some (ofCs l (k + 1)) := putL_one (by rw [ofCs_len]; omega)
theorem no_at {c : Cf} (k : Nat) (hk : k < 13) (h : inB (c.nth k) (limAt k) = false) : ¬ c.ok = true := fun ho => by
 have := fOk_iff.1 (Cf.ok_f ho) k hk
 rw [h] at this; cases this
def Cf.wt (c : Cf) (k : Nat) : Int := [c.hi, c.ho, c.wu, c.dr, c.de].getD k 0
theorem wt_no {c : Cf} : ∀ {k : Nat}, k < 5 → inB (c.wt k) (0, 20) = false → ¬ c.ok = true
 | 0, _, h => no_at 4 (by omega) h
 | 1, _, h => no_at 5 (by omega) h
 | 2, _, h => no_at 6 (by omega) h
 | 3, _, h => no_at 7 (by omega) h
 | 4, _, h => no_at 11 (by omega) h
 | k + 5, h, _ => by omega
theorem sameC_iff {a b : Cf} : sameC a b = true ↔ a = b := by
 obtain ⟨a1, a2, a3, a4, a5, a6, a7, a8, a9, a10, a11, a12, a13, a14, a15⟩ := a
 obtain ⟨b1, b2, b3, b4, b5, b6, b7, b8, b9, b10, b11, b12, b13, b14, b15⟩ := b
 simp only [sameC, sameK, Bool.and_eq_true, decide_eq_true_eq, List.all_eq_true, List.mem_range, Cf.mk.injEq]
 constructor
 · rintro ⟨⟨h1, h2⟩, h3⟩
   have := fun k hk => (h3 k hk).symm
   exact ⟨this 0 (by omega), this 1 (by omega), this 2 (by omega), this 3 (by omega), this 4 (by omega), this 5 (by omega), this 6 (by omega), this 7 (by omega), this 8 (by omega), this 9 (by omega), this 10 (by omega), this 11 (by omega), this 12 (by omega), h1, h2⟩
 · rintro ⟨rfl, rfl, rfl, rfl, rfl, rfl, rfl, rfl, rfl, rfl, rfl, rfl, rfl, rfl, rfl⟩
   exact ⟨⟨rfl, rfl⟩, fun _ _ => rfl⟩
theorem nums_inj {a b : Cf} (h : i64s a.nums = i64s b.nums) (h1 : a.sk = b.sk) (h2 : a.ms = b.ms) : a = b := by
 obtain ⟨a1, a2, a3, a4, a5, a6, a7, a8, a9, a10, a11, a12, a13, a14, a15⟩ := a
 obtain ⟨b1, b2, b3, b4, b5, b6, b7, b8, b9, b10, b11, b12, b13, b14, b15⟩ := b
 simp only [i64s, Cf.nums, List.map_cons, List.map_nil, List.cons.injEq, Value.int.injEq, true_and, and_true] at h
 simp only at h1 h2
 simp only [Cf.mk.injEq]
 exact ⟨h.1, h.2.1, h.2.2.1, h.2.2.2.1, h.2.2.2.2.1, h.2.2.2.2.2.1, h.2.2.2.2.2.2.1, h.2.2.2.2.2.2.2.1, h.2.2.2.2.2.2.2.2.1, h.2.2.2.2.2.2.2.2.2.1, h.2.2.2.2.2.2.2.2.2.2.1, h.2.2.2.2.2.2.2.2.2.2.2.1, h.2.2.2.2.2.2.2.2.2.2.2.2, h1, h2⟩
end Go.Proofs.YtakbgccddokbbaaGreatDoor
namespace Go.Proofs.YtakbgccddokbbaaGreatDoor
theorem raw_ok {l : List Int} (h : rawOk l = true) : 13 < l.length ∧ inB (l.getD 13 0) (0, 1) = true ∧ (cfRaw l).ok = true := by
 simpa only [rawOk, Bool.and_eq_true, decide_eq_true_eq] using h
theorem of_ok {l : List Int} (h : rawOk l = true) : (cfOf l).ok = true := by rw [cfOf, if_pos h]; exact (raw_ok h).2.2
theorem ofE_0 {l : List Int} (h : cfE l = 0) : rawOk l = true := by
 unfold cfE at h
 split at h
 · assumption
 · cases h
theorem cfOf_ms (l : List Int) : (cfOf l).ms.length ≤ l.length := by
 unfold cfOf
 split
 · simp [cfRaw]
 · simp [Cf.zero]
end Go.Proofs.YtakbgccddokbbaaGreatDoor
namespace Go.Proofs.YtakbgccddokbbaaGreatDoor
open Go.RowKit
structure It1 where
 tok : Int
 ver : Int
 zon : Int
 warm : Bool
def It1.cs (x : It1) : List Value := [.int .i64 x.tok, .int .i64 x.ver, .int .i64 x.zon, .bool x.warm]
def It1.v (x : It1) : Value := .agg x.cs.toArray
structure Kp where
 id : Int
 tok : Int
 ver : Int
 zon : Int
 ph : UInt8
 si : Int
 gu : Bool
 co : Bool
def Kp.cs (k : Kp) : List Value := [.int .i64 k.id, .int .i64 k.tok, .int .i64 k.ver, .int .i64 k.zon, .int .u8 k.ph.toNat, .int .i64 k.si, .bool k.gu, .bool k.co]
def Kp.v (k : Kp) : Value := .agg k.cs.toArray
structure Rf where
 st : UInt8
 fr : Int
 ta : Int
 sp : Int
 pa : Bool
 si : Int
 fa : Int
def Rf.cs (r : Rf) : List Value := [.int .u8 r.st.toNat, .int .i64 r.fr, .int .i64 r.ta, .int .i64 r.sp, .bool r.pa, .int .i64 r.si, .int .i64 r.fa]
def Rf.v (r : Rf) : Value := .agg r.cs.toArray
def itsV (l : List It1) : List Value := l.flatMap It1.cs
def kpsV (l : List Kp) : List Value := l.flatMap Kp.cs
theorem br_flat_len {α : Type} (f : α → List Value) (n : Nat) (hf : ∀ a, (f a).length = n) (l : List α) : (l.flatMap f).length = l.length * n := by
 induction l with
 | nil => simp
 | cons b l ih => rw [List.flatMap_cons, List.length_append, ih, hf, List.length_cons, Nat.add_mul, Nat.one_mul, Nat.add_comm]
theorem takeL_app {n : Nat} {a b : List Value} (h : a.length = n) : takeL (a ++ b) 0 n = some a := by
  induction a generalizing n with
  | nil => subst h; cases b <;> rfl
  | cons x a ih =>
    subst h
    have := ih (n := a.length) rfl
    simp only [List.cons_append, List.length_cons, takeL, this]
theorem takeL_skip {a b : List Value} {k n : Nat} : takeL (a ++ b) (a.length + k) n = takeL b k n := by
 induction a with
 | nil => simp
 | cons x a ih => rw [List.cons_append, List.length_cons, show a.length + 1 + k = a.length + k + 1 by omega, takeL, ih]
theorem flat_at {α : Type} (f : α → List Value) (n : Nat) (hf : ∀ a, (f a).length = n) {l : List α} {k : Nat} (h : k < l.length) : takeL (l.flatMap f) (k * n) n = some (f l[k]) := by
  induction l generalizing k with
  | nil => simp at h
  | cons b l ih =>
    rw [List.flatMap_cons]
    cases k with
    | zero => rw [Nat.zero_mul]; exact takeL_app (hf b)
    | succ k => rw [show (k + 1) * n = (f b).length + k * n by rw [hf, Nat.add_mul, Nat.one_mul, Nat.add_comm], takeL_skip, ih (by simpa using h)]; rfl
theorem itsV_len (l : List It1) : (itsV l).length = l.length * 4 := br_flat_len _ 4 (fun _ => rfl) l
theorem kpsV_len (l : List Kp) : (kpsV l).length = l.length * 8 := br_flat_len _ 8 (fun _ => rfl) l
theorem its_at {l : List It1} {k : Nat} (h : k < l.length) : takeL (itsV l) (k * 4) 4 = some l[k].cs := flat_at _ 4 (fun _ => rfl) h
theorem kps_at {l : List Kp} {k : Nat} (h : k < l.length) : takeL (kpsV l) (k * 8) 8 = some l[k].cs := flat_at _ 8 (fun _ => rfl) h
theorem kps_f {l : List Kp} {k : Nat} (h : k < l.length) (f : Nat) {v : Value} (hv : l[k].cs[f]? = some v) : (kpsV l)[k * 8 + f]? = some v := (takeL_spec (kps_at h)).2 f v hv
theorem its_one (l : List It1) : ∀ u ∈ itsV l, u.oneCell' = true := by
 intro u hu
 obtain ⟨b, _, hb⟩ := List.mem_flatMap.1 hu
 simp only [It1.cs, List.mem_cons, List.not_mem_nil, or_false] at hb
 rcases hb with rfl | rfl | rfl | rfl <;> rfl
theorem kps_one (l : List Kp) : ∀ u ∈ kpsV l, u.oneCell' = true := by
 intro u hu
 obtain ⟨b, _, hb⟩ := List.mem_flatMap.1 hu
 simp only [Kp.cs, List.mem_cons, List.not_mem_nil, or_false] at hb
 rcases hb with rfl | rfl | rfl | rfl | rfl | rfl | rfl | rfl <;> rfl
theorem itsV_app (l m : List It1) : itsV (l ++ m) = itsV l ++ itsV m := List.flatMap_append
theorem kpsV_app (l m : List Kp) : kpsV (l ++ m) = kpsV l ++ kpsV m := List.flatMap_append
abbrev BrA := AdC × AdC × AdC
structure Br where
 ep : Int
 sq : Int
 set : Bool
 cf : Cf
 its : List It1
 kps : List Kp
 rf : Rf
def Br.cs (b : Br) (z : BrA) : List Value := [.int .i64 b.ep, .int .i64 b.sq, .bool b.set,
 .int .i64 b.cf.d, .int .i64 b.cf.mn, .int .i64 b.cf.su, .int .i64 b.cf.po, .int .i64 b.cf.hi, .int .i64 b.cf.ho, .int .i64 b.cf.wu, .int .i64 b.cf.dr, .int .i64 b.cf.re, .int .i64 b.cf.ti, .int .i64 b.cf.fa, .int .i64 b.cf.de, .int .i64 b.cf.ve, .bool b.cf.sk, .slice z.1.1 b.cf.ms.length z.1.2,
 .slice z.2.1.1 b.its.length z.2.1.2, .slice z.2.2.1 b.kps.length z.2.2.2,
 .int .u8 b.rf.st.toNat, .int .i64 b.rf.fr, .int .i64 b.rf.ta, .int .i64 b.rf.sp, .bool b.rf.pa, .int .i64 b.rf.si, .int .i64 b.rf.fa]
def Br.v (b : Br) (z : BrA) : Value := .agg (b.cs z).toArray
theorem Br.cs_one (b : Br) (z : BrA) : ∀ u ∈ b.cs z, u.oneCell' = true := by simp [Br.cs, Value.oneCell']
abbrev Br.rd (b : Br) (z : BrA) : List Fact := [.rd z.1.1 (i64s b.cf.ms), .rd z.2.1.1 (itsV b.its), .rd z.2.2.1 (kpsV b.kps)]
def Br.rows (b : Br) (z : BrA) : List Res := [.row 3 1 (.slice z.1.1 b.cf.ms.length z.1.2) b.cf.ms.length (i64s b.cf.ms), .row 70 4 (.slice z.2.1.1 b.its.length z.2.1.2) b.its.length (itsV b.its), .row 72 8 (.slice z.2.2.1 b.kps.length z.2.2.2) b.kps.length (kpsV b.kps)]
def goes (p : UInt8) : Bool := decide (5 ≤ p.toNat ∧ p.toNat ≤ 8)
def stands (p : UInt8) : Bool := decide (p.toNat = 1 ∨ p.toNat = 2 ∨ p.toNat = 3 ∨ p.toNat = 4 ∨ p.toNat = 10)
def Br.act (b : Br) : Bool := decide (b.rf.st.toNat = 1)
def Br.ver (b : Br) : Int := if b.act = true then b.rf.ta else b.cf.ve
def Br.old (b : Br) (k : Kp) : Bool := decide (k.ver ≠ b.ver) && (!goes k.ph && !(k.gu && b.cf.sk))
structure On where
 zon : Int
 old : Bool
 sta : Bool
 warm : Bool
 ser : Bool
def On.cs (o : On) : List Value := [.int .i64 o.zon, .bool o.old, .bool o.sta, .bool o.warm, .bool o.ser]
def On.v (o : On) : Value := .agg o.cs.toArray
def Br.onI (b : Br) (x : It1) : On := ⟨x.zon, !decide (x.ver = b.ver), !x.warm, x.warm, false⟩
def Br.onK (b : Br) (k : Kp) : On := ⟨k.zon, b.old k, stands k.ph, decide (k.ph.toNat = 9), decide (k.ph.toNat = 4)⟩
def Br.ones (b : Br) : List On := b.its.map b.onI ++ b.kps.map b.onK
def On.is (o : On) : Nat → Bool
 | 0 => true | 1 => o.old | 2 => o.sta | 3 => o.warm | _ => o.ser
def Br.cnt (b : Br) (j : Nat) : Nat := b.ones.countP fun o => o.is j
def Br.more (b : Br) : Bool := b.act && (!b.rf.pa && decide (0 < b.cnt 1))
end Go.Proofs.YtakbgccddokbbaaGreatDoor
namespace Go.Proofs.YtakbgccddokbbaaGreatDoor
open Go.RowKit
def Br.tk (b : Br) (k : Nat) : Int := match b.its[k]? with
 | some x => x.tok
 | none => 0
def Br.lastT (b : Br) : Nat → Int
 | 0 => 0
 | k + 1 => b.tk k
def Br.idn (b : Br) (k : Nat) : Int := match b.kps[k]? with
 | some x => x.id
 | none => 0
def Br.lastI (b : Br) : Nat → Int
 | 0 => 0
 | k + 1 => b.idn k
def Br.phn (b : Br) (k : Nat) : Nat := match b.kps[k]? with
 | some x => x.ph.toNat
 | none => 1
theorem tk_at {b : Br} {k : Nat} (h : k < b.its.length) : b.tk k = b.its[k].tok := by rw [Br.tk, List.getElem?_eq_getElem h]
theorem idn_at {b : Br} {k : Nat} (h : k < b.kps.length) : b.idn k = b.kps[k].id := by rw [Br.idn, List.getElem?_eq_getElem h]
theorem phn_at {b : Br} {k : Nat} (h : k < b.kps.length) : b.phn k = b.kps[k].ph.toNat := by rw [Br.phn, List.getElem?_eq_getElem h]
structure Br.TokOk (b : Br) (k : Nat) : Prop where
 lo : b.lastT k < b.tk k
 hi : b.tk k ≤ b.sq
structure Br.KpOk (b : Br) (k : Nat) : Prop where
 lo : b.lastI k < b.idn k
 hi : b.idn k ≤ 1099511627776
 p1 : 1 ≤ b.phn k
 p2 : b.phn k ≤ 10
structure Br.Ok (b : Br) : Prop where
 ep : 0 ≤ b.ep ∧ b.ep ≤ 1099511627776
 sq : 0 ≤ b.sq ∧ b.sq ≤ 1099511627776
 its : ∀ k, k < b.its.length → b.TokOk k
 kps : ∀ k, k < b.kps.length → b.KpOk k
 rf : b.rf.st.toNat = 1 → (1 ≤ b.rf.fr ∧ b.rf.fr ≤ 1099511627776) ∧ 1 ≤ b.rf.ta ∧ b.rf.ta ≤ 1099511627776
 un : b.set = false → b.its.length = 0 ∧ b.rf.st.toNat = 0
 cf : b.set = true → b.cf.ok = true
theorem Br.Ok.ph {b : Br} (h : b.Ok) : ∀ x ∈ b.kps, 1 ≤ x.ph.toNat ∧ x.ph.toNat ≤ 10 := fun x hx => by
 obtain ⟨k, hk, rfl⟩ := List.mem_iff_getElem.1 hx
 have := h.kps k hk
 have e := phn_at hk
 exact ⟨by have := this.p1; omega, by have := this.p2; omega⟩
end Go.Proofs.YtakbgccddokbbaaGreatDoor
namespace Go.Proofs.YtakbgccddokbbaaGreatDoor
open Go.RowKit
theorem flat_tk {α : Type} (f : α → List Value) (n : Nat) (hf : ∀ a, (f a).length = n) (l : List α) (k : Nat) : (l.flatMap f).take (k * n) = (l.take k).flatMap f := by
  induction l generalizing k with
  | nil => simp
  | cons b l ih =>
    cases k with
    | zero => simp
    | succ k =>
      rw [List.flatMap_cons, List.take_succ_cons, List.flatMap_cons, ← ih k, show (k + 1) * n = (f b).length + k * n by rw [hf, Nat.add_mul, Nat.one_mul, Nat.add_comm], List.take_length_add_append]
theorem flat_dp {α : Type} (f : α → List Value) (n : Nat) (hf : ∀ a, (f a).length = n) (l : List α) (k : Nat) : (l.flatMap f).drop (k * n) = (l.drop k).flatMap f := by
  induction l generalizing k with
  | nil => simp
  | cons b l ih =>
    cases k with
    | zero => simp
    | succ k =>
      rw [List.flatMap_cons, List.drop_succ_cons, ← ih k, show (k + 1) * n = (f b).length + k * n by rw [hf, Nat.add_mul, Nat.one_mul, Nat.add_comm], List.drop_length_add_append]
theorem itsV_take (l : List It1) (k : Nat) : (itsV l).take (k * 4) = itsV (l.take k) := flat_tk _ 4 (fun _ => rfl) l k
theorem itsV_drop (l : List It1) (k : Nat) : (itsV l).drop (k * 4) = itsV (l.drop k) := flat_dp _ 4 (fun _ => rfl) l k
theorem kpsV_take (l : List Kp) (k : Nat) : (kpsV l).take (k * 8) = kpsV (l.take k) := flat_tk _ 8 (fun _ => rfl) l k
theorem kpsV_drop (l : List Kp) (k : Nat) : (kpsV l).drop (k * 8) = kpsV (l.drop k) := flat_dp _ 8 (fun _ => rfl) l k
def numsOk (l : List Int) : Bool := l.all fun n => decide (0 ≤ n) && decide (n ≤ 1099511627776)
theorem numsOk_iff {l : List Int} : numsOk l = true ↔ ∀ k (h : k < l.length), 0 ≤ l[k] ∧ l[k] ≤ 1099511627776 := by
 simp only [numsOk, List.all_eq_true, Bool.and_eq_true, decide_eq_true_eq]
 exact ⟨fun h k hk => h _ (List.getElem_mem hk), fun h n hn => by
  obtain ⟨k, hk, rfl⟩ := List.mem_iff_getElem.1 hn
  exact h k hk⟩
def eraL (l : List It1) (i : Nat) : List It1 := l.take i ++ l.drop (i + 1)
def insL (l : List Kp) (a : Nat) (x : Kp) : List Kp := (l.take a ++ [x]) ++ l.drop a
theorem eraL_len {l : List It1} {i : Nat} (h : i < l.length) : (eraL l i).length = l.length - 1 := by
 simp only [eraL, List.length_append, List.length_take, List.length_drop]; omega
theorem insL_len {l : List Kp} {a : Nat} (x : Kp) (h : a ≤ l.length) : (insL l a x).length = l.length + 1 := by
 simp only [insL, List.length_append, List.length_take, List.length_drop, List.length_cons, List.length_nil]; omega
def madeK (x : It1) (id now : Int) : Kp := ⟨id, x.tok, x.ver, x.zon, if x.warm = true then 9 else 1, now, false, false⟩
def Br.rf0 (b : Br) : Rf := if b.act = true then { b.rf with fa := 0 } else b.rf
def Br.made (b : Br) (i a : Nat) (x : It1) (id now : Int) : Br := { b with its := eraL b.its i, kps := insL b.kps a (madeK x id now), rf := b.rf0 }
def Br.start (b : Br) (v now : Int) : Br := { b with rf := ⟨1, b.cf.ve, v, 0, false, now, 0⟩ }
def Br.cancel (b : Br) : Br := { b with rf := { b.rf with st := 3, pa := false } }
end Go.Proofs.YtakbgccddokbbaaGreatDoor
namespace Go.Proofs.YtakbgccddokbbaaGreatDoor
def dlen : Nat → Nat → Nat
 | 0, _ => 0
 | f + 1, n => if n < 128 then 1 else 1 + dlen f (n / 128)
def digs : Nat → Nat → List UInt8
 | 0, _ => []
 | f + 1, n => if n < 128 then [UInt8.ofNat n] else UInt8.ofNat (n % 128 + 128) :: digs f (n / 128)
def fineN (n : Int) : Bool := decide (0 ≤ n ∧ n ≤ 1099511627776)
def longZ (n : Int) : Int := if fineN n then dlen 10 n.toNat else 0
def putB (n : Int) : List UInt8 := digs 10 n.toNat
theorem dlen_pos (f n : Nat) : 0 < dlen (f + 1) n := by unfold dlen; split <;> omega
theorem dlen_le : ∀ f n, dlen f n ≤ f
 | 0, n => by simp [dlen]
 | f + 1, n => by unfold dlen; have := dlen_le f (n / 128); split <;> omega
theorem digs_len : ∀ f n, (digs f n).length = dlen f n
  | 0, n => by simp [dlen, digs]
  | f + 1, n => by
    unfold dlen digs
    split
    · rfl
    · simp [digs_len f (n / 128)]; omega
theorem longZ_eq0 (n : Int) : longZ n = 0 ↔ fineN n = false := by
 unfold longZ
 split
 · rename_i h; have : 0 < dlen 10 n.toNat := dlen_pos 9 _; simp [h]; omega
 · rename_i h; simpa using h
theorem dlen_fuel : ∀ f g n, n < 128 ^ f → n < 128 ^ g → 0 < f → 0 < g → dlen f n = dlen g n
  | 0, g, n, h, h', h1, h2 => by omega
  | f + 1, 0, n, h, h', h1, h2 => by omega
  | f + 1, g + 1, n, h, h', h1, h2 => by
    unfold dlen
    split
    · rfl
    · rename_i hn
      have a1 : n / 128 < 128 ^ f := by rw [Nat.div_lt_iff_lt_mul (by omega)]; rw [Nat.pow_succ] at h; exact h
      have a2 : n / 128 < 128 ^ g := by rw [Nat.div_lt_iff_lt_mul (by omega)]; rw [Nat.pow_succ] at h'; exact h'
      have a3 : 0 < f := by
        rcases Nat.eq_zero_or_pos f with e | e
        · subst e; simp at a1; omega
        · exact e
      have a4 : 0 < g := by
        rcases Nat.eq_zero_or_pos g with e | e
        · subst e; simp at a2; omega
        · exact e
      rw [dlen_fuel f g _ a1 a2 a3 a4]
def takeZ : Nat → Nat → List UInt8 → Nat × List UInt8 × Nat
  | _, _, [] => (0, [], 10)
  | i, acc, b :: r =>
    if 128 ≤ b.toNat then (if i + 1 < 6 then takeZ (i + 1) (acc + b.toNat % 128 * 128 ^ i) r else (0, [], 11))
    else if (b.toNat = 0 ∧ 0 < i) ∨ 1099511627776 < acc + b.toNat % 128 * 128 ^ i then (0, [], 11)
    else (acc + b.toNat % 128 * 128 ^ i, r, 0)
def takeN (b : List UInt8) : Nat × List UInt8 × Nat := takeZ 0 0 b
theorem and127 (x : UInt8) : IntKind.u8.wrap ((BitVec.ofInt IntKind.u8.bits (x.toNat : Int) &&& BitVec.ofInt IntKind.u8.bits 127).toNat : Int) = ((x.toNat % 128 : Nat) : Int) := by
 have hx := x.toNat_lt
 have e : (BitVec.ofInt IntKind.u8.bits (x.toNat : Int) &&& BitVec.ofInt IntKind.u8.bits 127).toNat = x.toNat % 128 := by
  show (BitVec.ofInt 8 (x.toNat : Int) &&& BitVec.ofInt 8 127).toNat = _
  rw [BitVec.toNat_and, BitVec.ofInt_natCast, BitVec.toNat_ofNat, show (BitVec.ofInt 8 127).toNat = 2 ^ 7 - 1 from rfl, Nat.and_two_pow_sub_one_eq_mod]
  omega
 rw [e, IntKind.wrap_u8]
 omega
theorem or64 (a b : Nat) (ha : a < 9223372036854775808) (hb : b < 9223372036854775808) : IntKind.i64.wrap ((BitVec.ofInt IntKind.i64.bits (a : Int) ||| BitVec.ofInt IntKind.i64.bits (b : Int)).toNat : Int) = ((a ||| b : Nat) : Int) := by
 have hx : a ||| b < 2 ^ 63 := Nat.or_lt_two_pow (by omega) (by omega)
 have e : (BitVec.ofInt IntKind.i64.bits (a : Int) ||| BitVec.ofInt IntKind.i64.bits (b : Int)).toNat = a ||| b := by
  show (BitVec.ofInt 64 (a : Int) ||| BitVec.ofInt 64 (b : Int)).toNat = _
  rw [BitVec.toNat_or, BitVec.ofInt_natCast, BitVec.ofInt_natCast, BitVec.toNat_ofNat, BitVec.toNat_ofNat, Nat.mod_eq_of_lt (by omega), Nat.mod_eq_of_lt (by omega)]
 rw [e, IntKind.wrap_i64]
 omega
theorem or_add (a c k : Nat) (h : a < 2 ^ k) : a ||| c * 2 ^ k = a + c * 2 ^ k := by
 rw [Nat.or_comm, ← Nat.shiftLeft_eq, ← Nat.shiftLeft_add_eq_or_of_lt h, Nat.add_comm]
structure TakeI (b : List UInt8) (i acc : Nat) : Prop where
 lt : i < 6
 le : i ≤ b.length
 small : acc < 128 ^ i
 eq : takeZ i acc (b.drop i) = takeN b
theorem TakeI.zero (b : List UInt8) : TakeI b 0 0 := ⟨by omega, Nat.zero_le _, by simp, by simp [takeN]⟩
theorem p128 (i : Nat) : 128 ^ i = 2 ^ (7 * i) := by rw [Nat.pow_mul]
theorem TakeI.bound {b : List UInt8} {i acc : Nat} (h : TakeI b i acc) : acc < 34359738368 ∧ 128 ^ i ≤ 34359738368 := by
 have h1 := h.small
 have h2 := h.lt
 have : 128 ^ i ≤ 128 ^ 5 := Nat.pow_le_pow_right (by omega) (by omega)
 constructor
 · calc acc < 128 ^ i := h1
    _ ≤ 128 ^ 5 := this
    _ = 34359738368 := by decide
 · calc 128 ^ i ≤ 128 ^ 5 := this
    _ = 34359738368 := by decide
theorem TakeI.next {b : List UInt8} {i acc : Nat} (h : TakeI b i acc) (hi : i < b.length) (hb : 128 ≤ b[i].toNat) (h5 : i + 1 < 6) : TakeI b (i + 1) (acc + b[i].toNat % 128 * 128 ^ i) := by
 refine ⟨h5, hi, ?_, ?_⟩
 · have h1 := h.small
   have h2 : b[i].toNat % 128 < 128 := Nat.mod_lt _ (by omega)
   have h3 : (b[i].toNat % 128 + 1) * 128 ^ i ≤ 128 * 128 ^ i := Nat.mul_le_mul_right _ (by omega)
   rw [Nat.pow_succ, Nat.mul_comm (128 ^ i)]
   rw [Nat.add_mul] at h3
   omega
 · rw [← h.eq]
   conv => rhs; rw [List.drop_eq_getElem_cons hi]
   simp only [takeZ]
   rw [if_pos hb, if_pos h5]
theorem TakeI.short {b : List UInt8} {i acc : Nat} (h : TakeI b i acc) (hi : i = b.length) : takeN b = (0, [], 10) := by
 rw [← h.eq, List.drop_of_length_le (by omega)]; rfl
theorem TakeI.bad {b : List UInt8} {i acc : Nat} (h : TakeI b i acc) (hi : i < b.length)
 (hb : (128 ≤ b[i].toNat ∧ ¬ i + 1 < 6) ∨ (b[i].toNat < 128 ∧ ((b[i].toNat = 0 ∧ 0 < i) ∨ 1099511627776 < acc + b[i].toNat % 128 * 128 ^ i))) : takeN b = (0, [], 11) := by
 rw [← h.eq, List.drop_eq_getElem_cons hi]
 simp only [takeZ]
 rcases hb with ⟨h1, h2⟩ | ⟨h1, h2⟩
 · rw [if_pos h1, if_neg h2]
 · rw [if_neg (by omega), if_pos h2]
theorem TakeI.good {b : List UInt8} {i acc : Nat} (h : TakeI b i acc) (hi : i < b.length) (h1 : b[i].toNat < 128) (h2 : ¬ (b[i].toNat = 0 ∧ 0 < i)) (h3 : acc + b[i].toNat % 128 * 128 ^ i ≤ 1099511627776) :
 takeN b = (acc + b[i].toNat % 128 * 128 ^ i, b.drop (i + 1), 0) := by
 rw [← h.eq, List.drop_eq_getElem_cons hi]
 simp only [takeZ]
 rw [if_neg (by omega), if_neg (by omega)]
theorem take_shl {b : List UInt8} {i acc : Nat} (h : TakeI b i acc) (m : Nat) (hm : m < 128) : IntKind.i64.wrap ((m : Int) * 2 ^ (min (7 * (i : Int)).toNat IntKind.i64.bits)) = ((m * 2 ^ (7 * i) : Nat) : Int) := by
 have hb := h.bound
 have hl := h.lt
 rw [p128] at hb
 have e : min (7 * (i : Int)).toNat IntKind.i64.bits = 7 * i := by show min (7 * (i : Int)).toNat 64 = _; omega
 rw [e]
 have h2 : m * 2 ^ (7 * i) ≤ 127 * 34359738368 := Nat.mul_le_mul (by omega) hb.2
 have : ((m : Int) * 2 ^ (7 * i)) = ((m * 2 ^ (7 * i) : Nat) : Int) := by rw [Int.natCast_mul, Int.natCast_pow]; rfl
 rw [this, w64_ (by omega) (by omega)]
where w64_ {a : Int} (h1 : -9223372036854775808 ≤ a) (h2 : a ≤ 9223372036854775807) : IntKind.i64.wrap a = a := by rw [IntKind.wrap_i64]; omega
theorem take_or {b : List UInt8} {i acc : Nat} (h : TakeI b i acc) (m : Nat) (hm : m < 128) : IntKind.i64.wrap ((BitVec.ofInt IntKind.i64.bits (acc : Int) ||| BitVec.ofInt IntKind.i64.bits ((m * 2 ^ (7 * i) : Nat) : Int)).toNat : Int) = ((acc + m * 128 ^ i : Nat) : Int) := by
 have hb := h.bound
 rw [p128] at hb
 have h2 : m * 2 ^ (7 * i) ≤ 127 * 34359738368 := Nat.mul_le_mul (by omega) hb.2
 rw [or64 _ _ (by omega) (by omega), or_add _ _ _ (by rw [← p128]; exact h.small), p128]
theorem TakeI.big {b : List UInt8} {i acc : Nat} (h : TakeI b i acc) (m : Nat) (hm : m < 128) : acc + m * 128 ^ i ≤ 4432406249472 := by
 have hb := h.bound
 have h2 : m * 128 ^ i ≤ 127 * 34359738368 := Nat.mul_le_mul (by omega) hb.2
 omega
theorem dlen_last : ∀ f n k, n < 128 ^ f → k < dlen f n → (n / 128 ^ k < 128 ↔ k + 1 = dlen f n)
  | 0, n, k, _, h => by simp [dlen] at h
  | f + 1, n, k, hn, h => by
    unfold dlen at h ⊢
    split at h
    · rename_i h1
      obtain rfl : k = 0 := by omega
      simp [h1]
    · rename_i h1
      rw [if_neg h1]
      cases k with
      | zero =>
        have : 0 < dlen f (n / 128) := by
          cases f with
          | zero => simp at hn; omega
          | succ f => exact dlen_pos f _
        simp; omega
      | succ k =>
        have a1 : n / 128 < 128 ^ f := by rw [Nat.div_lt_iff_lt_mul (by omega)]; rw [Nat.pow_succ] at hn; exact hn
        have := dlen_last f (n / 128) k a1 (by omega)
        rw [Nat.pow_succ, Nat.mul_comm, ← Nat.div_div_eq_div_mul, this]
        omega
theorem dig_at : ∀ f n k, n < 128 ^ f → (h : k < (digs f n).length) → (digs f n)[k] = UInt8.ofNat (n / 128 ^ k % 128 + if n / 128 ^ k < 128 then 0 else 128)
  | 0, n, k, _, h => by simp [digs] at h
  | f + 1, n, k, hn, h => by
    by_cases h1 : n < 128
    · have e : digs (f + 1) n = [UInt8.ofNat n] := by unfold digs; rw [if_pos h1]
      simp only [e] at h ⊢
      obtain rfl : k = 0 := by simp at h; exact h
      show UInt8.ofNat n = _
      rw [Nat.pow_zero, Nat.div_one, if_pos h1, Nat.add_zero, Nat.mod_eq_of_lt h1]
    · have e : digs (f + 1) n = UInt8.ofNat (n % 128 + 128) :: digs f (n / 128) := by
        conv => lhs; unfold digs
        rw [if_neg h1]
      simp only [e] at h ⊢
      cases k with
      | zero => simp [h1]
      | succ k =>
        have a1 : n / 128 < 128 ^ f := by rw [Nat.div_lt_iff_lt_mul (by omega)]; rw [Nat.pow_succ] at hn; exact hn
        have := dig_at f (n / 128) k a1 (by simpa using h)
        rw [Nat.pow_succ, Nat.mul_comm, ← Nat.div_div_eq_div_mul]
        simpa using this
theorem dlen0 (n : Nat) : 0 < dlen 10 n := dlen_pos 9 n
theorem p128_10 (n : Nat) (hn : n ≤ 1099511627776) : n < 128 ^ 10 := Nat.lt_of_le_of_lt hn (by decide)
theorem andI127 (x : Nat) (hx : x < 9223372036854775808) : IntKind.i64.wrap ((BitVec.ofInt IntKind.i64.bits (x : Int) &&& BitVec.ofInt IntKind.i64.bits 127).toNat : Int) = ((x % 128 : Nat) : Int) := by
 have e : (BitVec.ofInt IntKind.i64.bits (x : Int) &&& BitVec.ofInt IntKind.i64.bits 127).toNat = x % 128 := by
  show (BitVec.ofInt 64 (x : Int) &&& BitVec.ofInt 64 127).toNat = _
  rw [BitVec.toNat_and, BitVec.ofInt_natCast, BitVec.toNat_ofNat, show (BitVec.ofInt 64 127).toNat = 2 ^ 7 - 1 from rfl, Nat.and_two_pow_sub_one_eq_mod]
  omega
 rw [e, IntKind.wrap_i64]
 omega
theorem orU128 (x : Nat) (hx : x < 128) : IntKind.u8.wrap ((BitVec.ofInt IntKind.u8.bits (x : Int) ||| BitVec.ofInt IntKind.u8.bits 128).toNat : Int) = ((x + 128 : Nat) : Int) := by
 have e : (BitVec.ofInt IntKind.u8.bits (x : Int) ||| BitVec.ofInt IntKind.u8.bits 128).toNat = x + 1 * 2 ^ 7 := by
  show (BitVec.ofInt 8 (x : Int) ||| BitVec.ofInt 8 128).toNat = _
  rw [BitVec.toNat_or, BitVec.ofInt_natCast, BitVec.toNat_ofNat, show (BitVec.ofInt 8 128).toNat = 1 * 2 ^ 7 from rfl, Nat.mod_eq_of_lt (by omega), or_add _ _ _ (by omega)]
 rw [e, IntKind.wrap_u8]
 omega
theorem div128 (n k : Nat) : n / 128 ^ k / 128 = n / 128 ^ (k + 1) := by rw [Nat.pow_succ, Nat.div_div_eq_div_mul]
def putN (n : Int) : List UInt8 := if fineN n then putB n else []
def putR (n : Int) : Int := if fineN n then 0 else 2
def rowsB (l : List Int) : List UInt8 := putB l.length ++ l.flatMap putB
def rowOk (l : List Int) : Bool := decide (l.length ≤ 40) && !l.any (fun n => !fineN n)
def rowN (l : List Int) : List UInt8 := if rowOk l then rowsB l else []
def rowR (l : List Int) : Int := if rowOk l then 0 else 2
theorem putB_len (n : Int) : (putB n).length ≤ 10 := by rw [putB, digs_len]; exact dlen_le _ _
theorem flat_len : ∀ l : List Int, (l.flatMap putB).length ≤ 10 * l.length
 | [] => by simp
 | n :: l => by have := flat_len l; have := putB_len n; simp only [List.flatMap_cons, List.length_append, List.length_cons]; omega
def takeM : Nat → List UInt8 → List Nat × List UInt8 × Nat
 | 0, b => ([], b, 0)
 | k + 1, b => if (takeN b).2.2 = 0 then (let (l, r, e) := takeM k (takeN b).2.1; if e = 0 then ((takeN b).1 :: l, r, 0) else ([], [], e)) else ([], [], (takeN b).2.2)
def takeRowN (b : List UInt8) : List Nat × List UInt8 × Nat :=
 if (takeN b).2.2 = 0 then (if 40 < (takeN b).1 then ([], [], 11) else takeM (takeN b).1 (takeN b).2.1) else ([], [], (takeN b).2.2)
theorem takeZ_len : ∀ (b : List UInt8) (i acc : Nat), (takeZ i acc b).2.1.length ≤ b.length
  | [], i, acc => by simp [takeZ]
  | b :: r, i, acc => by
    unfold takeZ
    split
    · split
      · have := takeZ_len r (i + 1) (acc + b.toNat % 128 * 128 ^ i); simp only [List.length_cons]; omega
      · simp
    · split <;> simp
theorem takeN_len (b : List UInt8) : (takeN b).2.1.length ≤ b.length := takeZ_len b 0 0
theorem takeZ_err : ∀ (b : List UInt8) (i acc : Nat), (takeZ i acc b).2.2 ≠ 0 → (takeZ i acc b).1 = 0 ∧ (takeZ i acc b).2.1 = [] ∧ ((takeZ i acc b).2.2 = 10 ∨ (takeZ i acc b).2.2 = 11)
  | [], i, acc => by simp [takeZ]
  | b :: r, i, acc => by
    unfold takeZ
    split
    · split
      · exact takeZ_err r (i + 1) (acc + b.toNat % 128 * 128 ^ i)
      · simp
    · split <;> simp
theorem takeN_err (b : List UInt8) (h : (takeN b).2.2 ≠ 0) : takeN b = (0, [], (takeN b).2.2) ∧ ((takeN b).2.2 = 10 ∨ (takeN b).2.2 = 11) := by
 have := takeZ_err b 0 0 h
 exact ⟨Prod.ext this.1 (Prod.ext this.2.1 rfl), this.2.2⟩
def ahead (l : List Nat) (t : List Nat × List UInt8 × Nat) : List Nat × List UInt8 × Nat := if t.2.2 = 0 then (l ++ t.1, t.2.1, 0) else ([], [], t.2.2)
structure TRowI (b : List UInt8) (n : Nat) (l : List Nat) (r : List UInt8) (e : Nat) : Prop where
 len : r.length ≤ b.length
 le : l.length ≤ n
 small : e = 0 → n ≤ 40
 code : e = 0 ∨ e = 10 ∨ e = 11
 eq : if e = 0 then ahead l (takeM (n - l.length) r) = takeRowN b else takeRowN b = ([], [], e)
theorem takeM_err : ∀ k r, (takeM k r).2.2 ≠ 0 → takeM k r = ([], [], (takeM k r).2.2)
  | 0, r, h => by simp [takeM] at h
  | k + 1, r, h => by
    simp only [takeM] at h ⊢
    split
    · rename_i h1
      rw [if_pos h1] at h
      split
      · rename_i h2; rw [if_pos h2] at h; simp at h
      · rfl
    · rfl
theorem TRowI.zero_ok {b : List UInt8} (h0 : (takeN b).2.2 = 0) (h40 : ¬ 40 < (takeN b).1) : TRowI b (takeN b).1 [] (takeN b).2.1 0 := by
 refine ⟨takeN_len b, Nat.zero_le _, fun h => by omega, .inl rfl, ?_⟩
 rw [if_pos rfl, takeRowN, if_pos h0, if_neg h40]
 simp only [ahead, List.nil_append, List.length_nil, Nat.sub_zero]
 split
 · rename_i h4; rw [← h4]
 · rename_i h4; exact (takeM_err _ _ h4).symm
theorem TRowI.zero_big {b : List UInt8} (h0 : (takeN b).2.2 = 0) (h40 : 40 < (takeN b).1) : TRowI b (takeN b).1 [] (takeN b).2.1 11 :=
 ⟨takeN_len b, Nat.zero_le _, fun h => by omega, .inr (.inr rfl), by rw [if_neg (by omega), takeRowN, if_pos h0, if_pos h40]⟩
theorem TRowI.zero_bad {b : List UInt8} (h0 : ¬ (takeN b).2.2 = 0) : TRowI b (takeN b).1 [] (takeN b).2.1 (takeN b).2.2 :=
 ⟨takeN_len b, Nat.zero_le _, fun h => absurd h h0, .inr (takeN_err b h0).2, by rw [if_neg h0, takeRowN, if_neg h0]⟩
theorem TRowI.next {b : List UInt8} {n : Nat} {l : List Nat} {r : List UInt8} (h : TRowI b n l r 0) (hl : l.length < n) : TRowI b n (l ++ [(takeN r).1]) (takeN r).2.1 (takeN r).2.2 := by
 refine ⟨Nat.le_trans (takeN_len r) h.len, by simp; omega, fun _ => h.small rfl, ?_, ?_⟩
 · by_cases h0 : (takeN r).2.2 = 0
   · exact .inl h0
   · exact .inr (takeN_err r h0).2
 · have he := h.eq
   obtain ⟨k, hk⟩ : ∃ k, n - l.length = k + 1 := ⟨n - l.length - 1, by omega⟩
   rw [if_pos rfl, hk] at he
   rw [← he]
   have hk' : n - (l ++ [(takeN r).1]).length = k := by simp; omega
   by_cases h0 : (takeN r).2.2 = 0
   · rw [if_pos h0, hk']
     simp only [takeM, if_pos h0, ahead]
     by_cases h1 : (takeM k (takeN r).2.1).2.2 = 0
     · simp [h1]
     · simp [h1]
   · rw [if_neg h0]
     simp only [takeM, if_neg h0, ahead]
theorem TRowI.bad {b : List UInt8} {n : Nat} {l : List Nat} {r : List UInt8} {e : Nat} (h : TRowI b n l r e) (he : e ≠ 0) : takeRowN b = ([], [], e) := by
 have := h.eq; rwa [if_neg he] at this
theorem TRowI.good {b : List UInt8} {n : Nat} {l : List Nat} {r : List UInt8} (h : TRowI b n l r 0) (hl : ¬ l.length < n) : takeRowN b = (l, r, 0) := by
 have := h.eq
 have hk : n - l.length = 0 := by omega
 rw [if_pos rfl, hk] at this
 rw [← this]
 simp [takeM, ahead]
theorem dlen_down : ∀ f n, 1 < dlen f n → 128 ^ (dlen f n - 1) ≤ n
  | 0, n, h => by simp [dlen] at h
  | f + 1, n, h => by
    unfold dlen at h ⊢
    split
    · rename_i h1; rw [if_pos h1] at h; omega
    · rename_i h1
      rw [if_neg h1] at h
      rw [Nat.add_comm, Nat.add_sub_cancel]
      by_cases h2 : 1 < dlen f (n / 128)
      · have := dlen_down f (n / 128) h2
        obtain ⟨k, hk⟩ : ∃ k, dlen f (n / 128) = k + 1 := ⟨dlen f (n / 128) - 1, by omega⟩
        rw [hk, Nat.add_sub_cancel] at this
        rw [hk, Nat.pow_succ]
        exact (Nat.le_div_iff_mul_le (by omega)).1 this
      · have : dlen f (n / 128) = 1 := by omega
        rw [this]; omega
theorem dlen6 (n : Nat) (h : n ≤ 1099511627776) : dlen 10 n ≤ 6 := by
 rcases Nat.lt_or_ge 6 (dlen 10 n) with h1 | h1
 · have := dlen_down 10 n (by omega)
   have h2 : 128 ^ 6 ≤ 128 ^ (dlen 10 n - 1) := Nat.pow_le_pow_right (by omega) (by omega)
   have h3 : (128 : Nat) ^ 6 = 4398046511104 := by decide
   omega
 · exact h1
end Go.Proofs.YtakbgccddokbbaaGreatDoor
namespace Go.Proofs.YtakbgccddokbbaaGreatDoor
theorem digs_fuel : ∀ f g n, n < 128 ^ f → n < 128 ^ g → 0 < f → 0 < g → digs f n = digs g n
  | 0, g, n, h, h', h1, h2 => by omega
  | f + 1, 0, n, h, h', h1, h2 => by omega
  | f + 1, g + 1, n, h, h', h1, h2 => by
    unfold digs
    split
    · rfl
    · rename_i hn
      have a1 : n / 128 < 128 ^ f := by rw [Nat.div_lt_iff_lt_mul (by omega)]; rw [Nat.pow_succ] at h; exact h
      have a2 : n / 128 < 128 ^ g := by rw [Nat.div_lt_iff_lt_mul (by omega)]; rw [Nat.pow_succ] at h'; exact h'
      have a3 : 0 < f := by
        rcases Nat.eq_zero_or_pos f with e | e
        · subst e; simp at a1; omega
        · exact e
      have a4 : 0 < g := by
        rcases Nat.eq_zero_or_pos g with e | e
        · subst e; simp at a2; omega
        · exact e
      rw [digs_fuel f g _ a1 a2 a3 a4]
theorem u8_of {x : Nat} (h : x < 256) : (UInt8.ofNat x).toNat = x := by rw [UInt8.toNat_ofNat']; omega
theorem split128 (q i : Nat) : q % 128 * 128 ^ i + q / 128 * 128 ^ (i + 1) = q * 128 ^ i := by
 rw [Nat.pow_succ, Nat.mul_comm (128 ^ i), ← Nat.mul_assoc, ← Nat.add_mul]
 congr 1
 omega
theorem take_put : ∀ (f i acc q : Nat) (b : List UInt8), q < 128 ^ f → 0 < f → i + dlen f q ≤ 6 → (0 < i → 0 < q) → acc + q * 128 ^ i ≤ 1099511627776 → takeZ i acc (digs f q ++ b) = (acc + q * 128 ^ i, b, 0)
  | 0, _, _, _, _, _, h, _, _, _ => by omega
  | f + 1, i, acc, q, b, h, _, hl, hi, hm => by
    by_cases h1 : q < 128
    · have e : digs (f + 1) q = [UInt8.ofNat q] := by unfold digs; rw [if_pos h1]
      rw [e, List.singleton_append]
      simp only [takeZ, u8_of (show q < 256 by omega), Nat.mod_eq_of_lt h1]
      rw [if_neg (by omega), if_neg (by omega)]
    · have e : digs (f + 1) q = UInt8.ofNat (q % 128 + 128) :: digs f (q / 128) := by
        conv => lhs; unfold digs
        rw [if_neg h1]
      have e2 : dlen (f + 1) q = 1 + dlen f (q / 128) := by
        conv => lhs; unfold dlen
        rw [if_neg h1]
      have a1 : q / 128 < 128 ^ f := by rw [Nat.div_lt_iff_lt_mul (by omega)]; rw [Nat.pow_succ] at h; exact h
      have a3 : 0 < f := by
        rcases Nat.eq_zero_or_pos f with e | e
        · subst e; simp at a1; omega
        · exact e
      have hd : 0 < dlen f (q / 128) := by
        obtain ⟨g, rfl⟩ : ∃ g, f = g + 1 := ⟨f - 1, by omega⟩
        exact dlen_pos g _
      have hb : q % 128 + 128 < 256 := by have := Nat.mod_lt q (show 128 > 0 by omega); omega
      have hs := split128 q i
      rw [e, List.cons_append]
      simp only [takeZ, u8_of hb]
      rw [if_pos (by omega), if_pos (by omega), show (q % 128 + 128) % 128 = q % 128 by omega,
        take_put f (i + 1) (acc + q % 128 * 128 ^ i) (q / 128) b a1 a3 (by omega) (fun _ => by omega) (by omega)]
      rw [Nat.add_assoc, hs]
theorem take_only : ∀ (b : List UInt8) (i acc v : Nat) (r : List UInt8), i < 6 → takeZ i acc b = (v, r, 0) → ∃ f q, q < 128 ^ f ∧ 0 < f ∧ digs f q ++ r = b ∧ v = acc + q * 128 ^ i ∧ v ≤ 1099511627776 ∧ (0 < i → 0 < q)
  | [], i, acc, v, r, _, h => by simp [takeZ] at h
  | x :: b, i, acc, v, r, hi, h => by
    have hx := x.toNat_lt
    unfold takeZ at h
    split at h
    · rename_i h1
      split at h
      · rename_i h2
        obtain ⟨f, q, q1, q2, q3, q4, q5, q6⟩ := take_only b (i + 1) _ v r h2 h
        have hq := q6 (by omega)
        have hmod : x.toNat % 128 < 128 := Nat.mod_lt _ (by omega)
        have e1 : (x.toNat % 128 + q * 128) % 128 = x.toNat % 128 := by omega
        have e2 : (x.toNat % 128 + q * 128) / 128 = q := by omega
        refine ⟨f + 1, x.toNat % 128 + q * 128, by rw [Nat.pow_succ]; omega, by omega, ?_, ?_, q5, fun _ => by omega⟩
        · unfold digs
          rw [if_neg (by omega), e1, e2, List.cons_append, q3]
          congr 1
          apply UInt8.toNat_inj.1
          rw [u8_of (by omega)]
          omega
        · have hs := split128 (x.toNat % 128 + q * 128) i
          rw [e1, e2] at hs
          rw [q4, ← hs]
          omega
      · simp at h
    · rename_i h1
      split at h
      · simp at h
      · rename_i h2
        simp only [Prod.mk.injEq] at h
        have hm : x.toNat % 128 = x.toNat := Nat.mod_eq_of_lt (by omega)
        refine ⟨1, x.toNat, by simp; omega, by omega, ?_, ?_, by omega, fun h3 => by omega⟩
        · unfold digs
          rw [if_pos (by omega), List.singleton_append, h.2.1]
          congr 1
          apply UInt8.toNat_inj.1
          rw [u8_of (by omega)]
        · rw [← hm]; exact h.1.symm
theorem takeN_put {n : Int} (h : fineN n = true) (b : List UInt8) : takeN (putB n ++ b) = (n.toNat, b, 0) := by
 have hf : 0 ≤ n ∧ n ≤ 1099511627776 := by simpa [fineN] using h
 have := take_put 10 0 0 n.toNat b (p128_10 _ (by omega)) (by omega) (by have := dlen6 n.toNat (by omega); omega) (fun h => by omega) (by simp; omega)
 simpa [takeN, putB] using this
theorem takeN_only {b r : List UInt8} {v : Nat} (h : takeN b = (v, r, 0)) : putB v ++ r = b ∧ v ≤ 1099511627776 := by
 obtain ⟨f, q, q1, q2, q3, q4, q5, _⟩ := take_only b 0 0 v r (by omega) h
 have e : v = q := by simpa using q4
 subst e
 refine ⟨?_, q5⟩
 rw [← q3, putB, Int.toNat_natCast, digs_fuel 10 f v (p128_10 _ q5) q1 (by omega) q2]
theorem takeM_row : ∀ (l : List Int) (b : List UInt8), (∀ n ∈ l, fineN n = true) → takeM l.length (l.flatMap putB ++ b) = (l.map Int.toNat, b, 0)
  | [], b, _ => by simp [takeM]
  | n :: l, b, h => by
    have h1 := takeN_put (h n (by simp)) (l.flatMap putB ++ b)
    have h2 := takeM_row l b fun m hm => h m (by simp [hm])
    simp only [List.flatMap_cons, List.length_cons, List.append_assoc, takeM]
    rw [h1]
    simp [h2]
theorem rowOk_fine {l : List Int} (h : rowOk l = true) : l.length ≤ 40 ∧ ∀ n ∈ l, fineN n = true := by
 have ho : l.length ≤ 40 ∧ l.any (fun n => !fineN n) = false := by simpa only [rowOk, Bool.and_eq_true, decide_eq_true_eq, Bool.not_eq_true'] using h
 refine ⟨ho.1, fun n hn => ?_⟩
 have := List.any_eq_false.1 ho.2 n hn
 simpa using this
theorem fine_len {n : Nat} (h : n ≤ 40) : fineN (n : Int) = true := by simp [fineN]; omega
theorem takeRow_put {l : List Int} (h : rowOk l = true) (b : List UInt8) : takeRowN (rowsB l ++ b) = (l.map Int.toNat, b, 0) := by
 obtain ⟨h1, h2⟩ := rowOk_fine h
 have h3 := takeN_put (fine_len h1) (l.flatMap putB ++ b)
 unfold takeRowN rowsB
 rw [List.append_assoc, h3]
 simp only [Int.toNat_natCast, if_pos]
 rw [if_neg (by omega)]
 exact takeM_row l b h2
theorem takeM_only : ∀ (k : Nat) (b r : List UInt8) (l : List Nat), takeM k b = (l, r, 0) → l.length = k ∧ (∀ n ∈ l, n ≤ 1099511627776) ∧ (l.map Int.ofNat).flatMap putB ++ r = b
  | 0, b, r, l, h => by simp only [takeM, Prod.mk.injEq] at h; obtain ⟨rfl, rfl, _⟩ := h; simp
  | k + 1, b, r, l, h => by
    simp only [takeM] at h
    split at h
    · rename_i h1
      split at h
      · rename_i h2
        simp only [Prod.mk.injEq] at h
        obtain ⟨rfl, rfl, _⟩ := h
        have hm : takeM k (takeN b).2.1 = ((takeM k (takeN b).2.1).1, (takeM k (takeN b).2.1).2.1, 0) := Prod.ext rfl (Prod.ext rfl h2)
        have hn : takeN b = ((takeN b).1, (takeN b).2.1, 0) := Prod.ext rfl (Prod.ext rfl h1)
        obtain ⟨i1, i2, i3⟩ := takeM_only k _ _ _ hm
        obtain ⟨j1, j2⟩ := takeN_only hn
        refine ⟨by simp [i1], fun n hn => ?_, ?_⟩
        · rcases List.mem_cons.1 hn with rfl | hn
          · exact j2
          · exact i2 n hn
        · simp only [List.map_cons, List.flatMap_cons, List.append_assoc]
          rw [i3]; exact j1
      · rename_i h2; simp only [Prod.mk.injEq] at h; exact absurd h.2.2 h2
    · rename_i h1; simp only [Prod.mk.injEq] at h; exact absurd h.2.2 h1
theorem takeRow_only {b r : List UInt8} {l : List Nat} (h : takeRowN b = (l, r, 0)) : rowOk (l.map Int.ofNat) = true ∧ rowsB (l.map Int.ofNat) ++ r = b := by
 unfold takeRowN at h
 split at h
 · rename_i h1
   split at h
   · simp at h
   · rename_i h2
     have hn : takeN b = ((takeN b).1, (takeN b).2.1, 0) := Prod.ext rfl (Prod.ext rfl h1)
     obtain ⟨i1, i2, i3⟩ := takeM_only _ _ _ _ h
     obtain ⟨j1, j2⟩ := takeN_only hn
     refine ⟨?_, ?_⟩
     · simp only [rowOk, Bool.and_eq_true, decide_eq_true_eq, Bool.not_eq_true', List.any_eq_false]
       refine ⟨by rw [List.length_map]; omega, fun x hx => ?_⟩
       obtain ⟨n, hn, rfl⟩ := List.mem_map.1 hx
       have := i2 n hn
       simp [fineN]; omega
     · rw [rowsB, List.append_assoc, i3, List.length_map, i1]; exact j1
 · rename_i h1; simp only [Prod.mk.injEq] at h; exact absurd h.2.2 h1
theorem takeM_bad : ∀ (k : Nat) (b : List UInt8), (takeM k b).2.2 ≠ 0 → (takeM k b).2.2 = 10 ∨ (takeM k b).2.2 = 11
  | 0, b, h => by simp [takeM] at h
  | k + 1, b, h => by
    simp only [takeM] at h ⊢
    split
    · rename_i h1
      rw [if_pos h1] at h
      split
      · rename_i h2; rw [if_pos h2] at h; simp at h
      · rename_i h2; exact takeM_bad k _ h2
    · rename_i h1; exact (takeN_err b h1).2
theorem takeRow_bad {b : List UInt8} (h : (takeRowN b).2.2 ≠ 0) : takeRowN b = ([], [], (takeRowN b).2.2) ∧ ((takeRowN b).2.2 = 10 ∨ (takeRowN b).2.2 = 11) := by
 unfold takeRowN at h ⊢
 split
 · rename_i h1
   rw [if_pos h1] at h
   split
   · simp
   · rename_i h2
     rw [if_neg h2] at h
     exact ⟨takeM_err _ _ h, takeM_bad _ _ h⟩
 · rename_i h1; exact ⟨rfl, (takeN_err b h1).2⟩
end Go.Proofs.YtakbgccddokbbaaGreatDoor
namespace Go.Proofs.YtakbgccddokbbaaGreatDoor
open Go.RowKit
structure Rc where
 k : UInt8
 l : List Int
def Rc.cs (r : Rc) (x : AdC) : List Value := [.int .u8 r.k.toNat, .slice x.1 r.l.length x.2]
def Rc.v (r : Rc) (x : AdC) : Value := .agg (r.cs x).toArray
def Rc.row (r : Rc) (x : AdC) : Res := .row 3 1 (.slice x.1 r.l.length x.2) r.l.length (i64s r.l)
def Rc.zero : Rc := ⟨0, []⟩
def bnd : List (Nat × Nat) := [(0, 0), (0, 0), (14, 18), (3, 3), (3, 3), (1, 1), (3, 3), (1, 1), (5, 5), (2, 2), (1, 1), (2, 2), (0, 0), (0, 0), (1, 1), (0, 0), (0, 0)]
def bndAt (k : Nat) : Nat × Nat := bnd.getD k (0, 0)
def okLen (k n : Nat) : Bool := (decide (1 ≤ k) && decide (k < 17)) && (decide ((bndAt k).1 ≤ n) && decide (n ≤ (bndAt k).2))
def Rc.ok (r : Rc) : Bool := okLen r.k.toNat r.l.length && r.l.all fineN
theorem okLen_iff {k n : Nat} : okLen k n = true ↔ (1 ≤ k ∧ k < 17) ∧ ((bndAt k).1 ≤ n ∧ n ≤ (bndAt k).2) := by simp [okLen]
theorem Rc.ok_iff {r : Rc} : r.ok = true ↔ okLen r.k.toNat r.l.length = true ∧ ∀ n ∈ r.l, fineN n = true := by simp [Rc.ok]
theorem bnd_le : ∀ {k : Nat}, k < 17 → (bndAt k).1 ≤ 14 ∧ (bndAt k).2 ≤ 18
 | 0, _ => by decide | 1, _ => by decide | 2, _ => by decide | 3, _ => by decide | 4, _ => by decide | 5, _ => by decide | 6, _ => by decide | 7, _ => by decide | 8, _ => by decide | 9, _ => by decide | 10, _ => by decide | 11, _ => by decide | 12, _ => by decide
 | 13, _ => by decide | 14, _ => by decide | 15, _ => by decide | 16, _ => by decide
 | k + 17, h => by omega
theorem Rc.ok_len {r : Rc} (h : r.ok = true) : 1 ≤ r.k.toNat ∧ r.k.toNat < 17 ∧ r.l.length ≤ 18 := by
 have h1 := okLen_iff.1 (Rc.ok_iff.1 h).1
 have h2 := bnd_le h1.1.2
 omega
def Rc.nums (r : Rc) : List Int := ((r.k.toNat : Nat) : Int) :: r.l
def Rc.bytes (r : Rc) : List UInt8 := if r.ok = true then rowsB r.nums else []
def Rc.putE (r : Rc) : Int := if r.ok = true then 0 else 2
def rcRaw (l : List Nat) : Rc := ⟨UInt8.ofNat (l.getD 0 0), (l.drop 1).map Int.ofNat⟩
def rcGood (t : List Nat × List UInt8 × Nat) : Bool := (decide (t.2.2 = 0) && decide (t.2.1.length = 0)) && ((decide (0 < t.1.length) && decide (t.1.getD 0 0 < 17)) && (rcRaw t.1).ok)
def rcOf (b : List UInt8) : Rc := if rcGood (takeRowN b) = true then rcRaw (takeRowN b).1 else Rc.zero
def rcE (b : List UInt8) : Int := if rcGood (takeRowN b) = true then 0 else 11
def sameR (a b : Rc) : Bool := decide (a.k = b.k) && decide (a.l = b.l)
theorem sameR_iff {a b : Rc} : sameR a b = true ↔ a = b := by
 obtain ⟨a1, a2⟩ := a
 obtain ⟨b1, b2⟩ := b
 simp [sameR]
abbrev Rcs := List (AdC × Rc)
def rcsV (zs : Rcs) : List Value := zs.flatMap fun z => z.2.cs z.1
def Fact.rcs (zs : Rcs) : Fact := ⟨fun X W => ∀ z ∈ zs, (Fact.rd z.1.1 (i64s z.2.l)).p X W, fun X X' W W' h hf hx z hz => (Fact.rd z.1.1 (i64s z.2.l)).fr X X' W W' (h z hz) hf hx⟩
theorem rcsV_len (zs : Rcs) : (rcsV zs).length = zs.length * 2 := by
 induction zs with
 | nil => rfl
 | cons z zs ih => simp only [rcsV, List.flatMap_cons, List.length_append, List.length_cons] at ih ⊢; rw [ih]; simp [Rc.cs]; omega
theorem rcs_at {zs : Rcs} {k : Nat} (h : k < zs.length) : takeL (rcsV zs) (k * 2) 2 = some (zs[k].2.cs zs[k].1) := by
  induction zs generalizing k with
  | nil => simp at h
  | cons z zs ih =>
    cases k with
    | zero => simp [rcsV, Rc.cs, takeL]
    | succ k =>
      have h2 := ih (k := k) (by simpa using h)
      rw [show (k + 1) * 2 = k * 2 + 1 + 1 by omega]
      simp only [rcsV, List.flatMap_cons, Rc.cs, List.cons_append, List.nil_append, takeL, List.getElem_cons_succ] at h2 ⊢
      exact h2
theorem rc_rowOk {r : Rc} (h : r.ok = true) : rowOk r.nums = true := by
 have h1 := Rc.ok_len h
 have h2 := (Rc.ok_iff.1 h).2
 simp only [rowOk, Bool.and_eq_true, decide_eq_true_eq, Bool.not_eq_true']
 refine ⟨by simp [Rc.nums]; omega, ?_⟩
 rw [List.any_eq_false]
 intro n hn
 rcases List.mem_cons.1 hn with rfl | hn
 · simp [fineN]; omega
 · simp [h2 n hn]
end Go.Proofs.YtakbgccddokbbaaGreatDoor
namespace Go.Proofs.YtakbgccddokbbaaGreatDoor
open Go.RowKit
def plcI : Option Nat → Int
 | none => -1
 | some k => (k : Int)
def Br.findK (b : Br) (id : Int) : Option Nat := b.kps.findIdx? fun k => decide (k.id = id)
def Br.findT (b : Br) (t : Int) : Option Nat := b.its.findIdx? fun x => decide (x.tok = t)
theorem findIdx_some {α : Type} {p : α → Bool} {l : List α} {i : Nat} (h : l.findIdx? p = some i) : ∃ hi : i < l.length, p l[i] = true := by
 rw [List.findIdx?_eq_some_iff_getElem] at h
 exact ⟨h.1, h.2.1⟩
theorem findK_some {b : Br} {id : Int} {i : Nat} (h : b.findK id = some i) : ∃ hi : i < b.kps.length, b.kps[i].id = id := by
 obtain ⟨hi, h2⟩ := findIdx_some h
 exact ⟨hi, of_decide_eq_true h2⟩
theorem findT_some {b : Br} {t : Int} {i : Nat} (h : b.findT t = some i) : ∃ hi : i < b.its.length, b.its[i].tok = t := by
 obtain ⟨hi, h2⟩ := findIdx_some h
 exact ⟨hi, of_decide_eq_true h2⟩
def Br.onK1 (b : Br) (i : Nat) (x : Kp) : Br := { b with kps := b.kps.set i x }
def Br.kAt (b : Br) (i : Nat) : Kp := b.kps.getD i ⟨0, 0, 0, 0, 0, 0, false, false⟩
theorem kAt_eq {b : Br} {i : Nat} (h : i < b.kps.length) : b.kAt i = b.kps[i] := by rw [Br.kAt, List.getD_eq_getElem?_getD, List.getElem?_eq_getElem h]; rfl
def Kp.held (k : Kp) : Bool := decide (k.ph.toNat = 1) || decide (k.ph.toNat = 7)
def insAt (l : List Kp) (id : Int) : Nat := l.findIdx fun k => decide (id < k.id)
def legalL : List (List Nat) := [[], [2, 8], [3, 8], [4], [5, 3], [6, 4], [7], [8], [], [10, 8], [1]]
def legal (f : Nat) (t : Int) : Bool := decide (t < 11) && (legalL.getD f []).contains t.toNat
def Br.boot (b : Br) : Br := if b.ep < 1099511627776 then { b with ep := b.ep + 1 } else b
def Br.intent (b : Br) (v z w : Int) : Br := if (b.set && decide (1 ≤ v)) && (decide (z ≤ 3) && (decide (w ≤ 1) && decide (b.sq < 1099511627776))) then { b with sq := b.sq + 1, its := b.its ++ [⟨b.sq + 1, v, z, decide (w = 1)⟩] } else b
def Br.mk1 (b : Br) (t id now : Int) : Br := match b.findT t with
 | none => b
 | some i => if decide (id < 1) || (b.findK id).isSome then b else b.made i (insAt b.kps id) (b.its.getD i ⟨0, 0, 0, false⟩) id now
def Br.fail (b : Br) : Br := if b.act = true then (if b.cf.fa ≤ IntKind.i64.wrap (b.rf.fa + 1) then { b with rf := { b.rf with ta := b.rf.fr, fa := 0 } } else { b with rf := { b.rf with fa := IntKind.i64.wrap (b.rf.fa + 1) } }) else b
def Br.phase (b : Br) (id p now : Int) : Br := match b.findK id with
 | none => b
 | some i => if legal (b.kAt i).ph.toNat p = true then b.onK1 i { b.kAt i with ph := UInt8.ofNat p.toNat, si := now, co := false } else b
def Br.goneK (b : Br) (id : Int) : Br := match b.findK id with
 | none => b
 | some i => { b with kps := b.kps.take i ++ b.kps.drop (i + 1) }
def Br.take1 (b : Br) (id t v z now : Int) : Br := if decide (1 ≤ id) && (b.findK id).isNone then { b with kps := insL b.kps (insAt b.kps id) ⟨id, t, v, z, 8, now, false, false⟩ } else b
def Br.guard (b : Br) (id g : Int) : Br := match b.findK id with
 | none => b
 | some i => if g < 2 then b.onK1 i { b.kAt i with gu := decide (g = 1) } else b
def Br.compl (b : Br) (id : Int) : Br := match b.findK id with
 | none => b
 | some i => b.onK1 i { b.kAt i with co := (b.kAt i).co || (b.kAt i).held }
def Br.begin1 (b : Br) (v now : Int) : Br := if (b.set && !b.act) && decide (1 ≤ v) then b.start v now else b
def Br.canc (b : Br) : Br := if b.act = true then b.cancel else b
def Br.roll (b : Br) : Br := if b.act = true then { b with rf := { b.rf with ta := b.rf.fr } } else b
def Br.pause (b : Br) (now : Int) : Br := if b.act = true then (if b.rf.pa = true then b else { b with rf := { b.rf with pa := true, si := now } }) else b
def Br.go1 (b : Br) : Br := if b.act = true then (if b.rf.pa = true then { b with rf := { b.rf with pa := false, sp := IntKind.i64.wrap (b.rf.sp + 1) } } else b) else b
def Br.done1 (b : Br) : Br := if b.act = true then { b with rf := { b.rf with st := 2, pa := false }, cf := { b.cf with ve := b.rf.ta } } else b
def Br.group (b : Br) (l : List Int) : Br := if cfE l = 0 then { b with cf := if b.set = true then { cfOf l with ve := b.cf.ve } else cfOf l, set := true } else b
def Br.deed (b : Br) : Nat → List Int → Br
 | 1, [] => b.boot
 | 3, [v, z, w] => b.intent v z w
 | 4, [t, i, n] => b.mk1 t i n
 | 5, [_] => b.fail
 | 6, [i, p, n] => b.phase i p n
 | 7, [i] => b.goneK i
 | 8, [i, t, v, z, n] => b.take1 i t v z n
 | 9, [i, g] => b.guard i g
 | 10, [i] => b.compl i
 | 11, [v, n] => b.begin1 v n
 | 12, [] => b.canc
 | 13, [] => b.roll
 | 14, [n] => b.pause n
 | 15, [] => b.go1
 | 16, [] => b.done1
 | _, _ => b
def Br.apply (b : Br) (r : Rc) : Br := if numsOk r.l = true then (if r.k.toNat = 2 then b.group r.l else b.deed r.k.toNat r.l) else b
end Go.Proofs.YtakbgccddokbbaaGreatDoor
namespace Go.Proofs.YtakbgccddokbbaaGreatDoor
open Go.RowKit
theorem Cf.in_ve {c : Cf} (h : c.ok = true) : 1 ≤ c.ve ∧ c.ve ≤ 1099511627776 := inB_iff.1 (fOk_iff.1 (Cf.ok_f h) 12 (by omega))
theorem okc_ve {c : Cf} {v : Int} (h : c.ok = true) (h1 : 1 ≤ v ∧ v ≤ 1099511627776) : ({ c with ve := v } : Cf).ok = true :=
 have f := fOk_iff.1 (Cf.ok_f h)
 Cf.ok_mk (fOk_iff.2 fun
  | 0, _ => f 0 (by omega) | 1, _ => f 1 (by omega) | 2, _ => f 2 (by omega) | 3, _ => f 3 (by omega) | 4, _ => f 4 (by omega) | 5, _ => f 5 (by omega) | 6, _ => f 6 (by omega) | 7, _ => f 7 (by omega) | 8, _ => f 8 (by omega) | 9, _ => f 9 (by omega) | 10, _ => f 10 (by omega) | 11, _ => f 11 (by omega)
  | 12, _ => inB_iff.2 h1
  | k + 13, h => by omega) (Cf.ok_m (c := c) h) (Cf.ok_s (c := c) h) (Cf.ok_l (c := c) h)
def Kp.ip (k : Kp) : Int × UInt8 := (k.id, k.ph)
theorem idn_of {b c : Br} (hk : c.kps.map Kp.ip = b.kps.map Kp.ip) (k : Nat) : c.idn k = b.idn k ∧ c.phn k = b.phn k := by
  have e := congrArg (fun l => l[k]?) hk
  simp only [List.getElem?_map] at e
  unfold Br.idn Br.phn
  cases h1 : c.kps[k]? with
  | none =>
    cases h2 : b.kps[k]? with
    | none => exact ⟨rfl, rfl⟩
    | some y => rw [h1, h2] at e; cases e
  | some x =>
    cases h2 : b.kps[k]? with
    | none => rw [h1, h2] at e; cases e
    | some y =>
      rw [h1, h2] at e
      simp only [Option.map_some, Option.some.injEq, Kp.ip, Prod.mk.injEq] at e
      simp only [e.1, e.2, and_self]
theorem Br.Ok.of {b c : Br} (h : b.Ok) (he : c.ep = b.ep) (hs : c.sq = b.sq) (hi : c.its = b.its) (hk : c.kps.map Kp.ip = b.kps.map Kp.ip)
 (hr : c.rf.st.toNat = 1 → (1 ≤ c.rf.fr ∧ c.rf.fr ≤ 1099511627776) ∧ 1 ≤ c.rf.ta ∧ c.rf.ta ≤ 1099511627776) (hu : c.set = false → b.set = false ∧ c.rf.st.toNat = 0) (hc : c.set = true → c.cf.ok = true) : c.Ok := by
 have ht : ∀ k, c.tk k = b.tk k := fun k => by simp only [Br.tk, hi]
 have hlt : ∀ k, c.lastT k = b.lastT k := fun k => by cases k <;> simp [Br.lastT, ht]
 have hn := idn_of hk
 have hli : ∀ k, c.lastI k = b.lastI k := fun k => by cases k <;> simp [Br.lastI, hn]
 have hkl : c.kps.length = b.kps.length := by have := congrArg List.length hk; simpa using this
 refine ⟨by rw [he]; exact h.ep, by rw [hs]; exact h.sq, fun k hk' => ?_, fun k hk' => ?_, hr, fun hset => ?_, hc⟩
 · rw [hi] at hk'
   have := h.its k hk'
   exact ⟨by rw [hlt, ht]; exact this.lo, by rw [ht, hs]; exact this.hi⟩
 · rw [hkl] at hk'
   have := h.kps k hk'
   exact ⟨by rw [hli, (hn k).1]; exact this.lo, by rw [(hn k).1]; exact this.hi, by rw [(hn k).2]; exact this.p1, by rw [(hn k).2]; exact this.p2⟩
 · obtain ⟨h1, h2⟩ := hu hset
   exact ⟨by rw [hi]; exact (h.un h1).1, h2⟩
theorem set_ip {l : List Kp} {i : Nat} (h : i < l.length) {x : Kp} (hx : x.ip = l[i].ip) : (l.set i x).map Kp.ip = l.map Kp.ip := by
 refine List.ext_getElem (by simp) fun k h1 h2 => ?_
 simp only [List.getElem_map, List.getElem_set]
 split
 · rename_i e; subst e; exact hx
 · rfl
theorem set_of_act {b : Br} (h : b.Ok) (ha : b.act = true) : b.set = true := by
 cases hs : b.set
 · have := (h.un hs).2
   simp only [Br.act, decide_eq_true_eq] at ha
   omega
 · rfl
theorem act_rf {b : Br} (h : b.Ok) (ha : b.act = true) : (1 ≤ b.rf.fr ∧ b.rf.fr ≤ 1099511627776) ∧ 1 ≤ b.rf.ta ∧ b.rf.ta ≤ 1099511627776 := h.rf (of_decide_eq_true ha)
theorem ok_begin {b : Br} (h : b.Ok) {v now : Int} (hv : v ≤ 1099511627776) : (b.begin1 v now).Ok := by
 unfold Br.begin1
 split
 · rename_i hc
   simp only [Bool.and_eq_true, decide_eq_true_eq, Bool.not_eq_true'] at hc
   have hcf := h.cf hc.1.1
   exact h.of rfl rfl rfl rfl (fun _ => ⟨Cf.in_ve hcf, hc.2, hv⟩) (fun hs => by have hs' : b.set = false := hs; rw [hc.1.1] at hs'; cases hs') (fun _ => hcf)
 · exact h
theorem ok_canc {b : Br} (h : b.Ok) : b.canc.Ok := by
 unfold Br.canc
 split
 · rename_i ha
   exact h.of rfl rfl rfl rfl (fun hx => absurd (show (3 : Nat) = 1 from hx) (by decide)) (fun hs => by have hs' : b.set = false := hs; rw [set_of_act h ha] at hs'; cases hs') h.cf
 · exact h
theorem ok_roll {b : Br} (h : b.Ok) : b.roll.Ok := by
 unfold Br.roll
 split
 · rename_i ha
   exact h.of rfl rfl rfl rfl (fun hx => ⟨(act_rf h ha).1, (act_rf h ha).1⟩) (fun hs => by have hs' : b.set = false := hs; rw [set_of_act h ha] at hs'; cases hs') h.cf
 · exact h
theorem ok_go1 {b : Br} (h : b.Ok) : b.go1.Ok := by
 unfold Br.go1
 split
 · rename_i ha
   split
   · exact h.of rfl rfl rfl rfl (fun hx => act_rf (b := b) h ha) (fun hs => by have hs' : b.set = false := hs; rw [set_of_act h ha] at hs'; cases hs') h.cf
   · exact h
 · exact h
theorem ok_set {b : Br} (h : b.Ok) {i : Nat} (hi : i < b.kps.length) {x : Kp} (hx : x.ip = b.kps[i].ip) : (b.onK1 i x).Ok :=
 h.of rfl rfl rfl (set_ip hi hx) h.rf (fun hs => ⟨hs, (h.un hs).2⟩) h.cf
theorem ok_guard {b : Br} (h : b.Ok) (id g : Int) : (b.guard id g).Ok := by
 unfold Br.guard
 split
 · exact h
 · rename_i i hf
   obtain ⟨hi, _⟩ := findK_some hf
   split
   · exact ok_set h hi (by rw [kAt_eq hi]; rfl)
   · exact h
theorem ok_compl {b : Br} (h : b.Ok) (id : Int) : (b.compl id).Ok := by
 unfold Br.compl
 split
 · exact h
 · rename_i i hf
   obtain ⟨hi, _⟩ := findK_some hf
   exact ok_set h hi (by rw [kAt_eq hi]; rfl)
theorem ok_group {b : Br} (h : b.Ok) (l : List Int) : (b.group l).Ok := by
 unfold Br.group
 split
 · rename_i he
   have hc := of_ok (ofE_0 he)
   have hst : b.set = false → b.rf.st.toNat = 0 := fun hs => (h.un hs).2
   refine h.of rfl rfl rfl rfl h.rf (fun hs => by cases hs) (fun _ => ?_)
   show (if b.set = true then { cfOf l with ve := b.cf.ve } else cfOf l).ok = true
   split
   · rename_i hs; exact okc_ve hc (Cf.in_ve (h.cf hs))
   · exact hc
 · exact h
end Go.Proofs.YtakbgccddokbbaaGreatDoor
namespace Go.Proofs.YtakbgccddokbbaaGreatDoor
open Go.RowKit
def Fact.Old (φ : Fact) : Prop := ∀ X X' W W', φ.p X W → W.heap.size ≤ W'.heap.size → (∀ b, b < W.heap.size → ¬ X b → W'.heap[b]? = W.heap[b]?) → (∀ b, X' b → X b ∨ (W.heap.size ≤ b ∧ b < W'.heap.size)) → φ.p X' W'
theorem Fact.rd_old (A : Option Addr) (xs : List Value) : (Fact.rd A xs).Old := fun X X' W W' h hz hf hx j u hu => by
 obtain ⟨a, rfl, h1, h2, h3⟩ := h j u hu
 refine ⟨a, rfl, Nat.lt_of_lt_of_le h1 hz, fun h4 => (hx _ h4).elim h2 (fun h5 => by omega), ?_⟩
 rw [← h3]
 exact World.cell?_of_block (by rw [add_block]; exact hf _ h1 h2)
def Fact.cl (J : Nat → (Nat → Prop) → World → Prop) (hJ : Framed J) (K XI : Nat → Prop) (w0 W0 : World) (hK : ∀ b, K b → b < w0.heap.size ∧ ¬ XI b) (hw : w0.heap.size ≤ W0.heap.size) (k : Nat) : Fact where
 p := fun X W => J k X W ∧ (∀ b, K b → W.heap[b]? = w0.heap[b]?) ∧ W0.heap.size ≤ W.heap.size ∧ ∀ b, X b → XI b ∨ (W0.heap.size ≤ b ∧ b < W.heap.size)
 fr := fun X X' W W' ⟨h1, h2, h3, h4⟩ hf hx => ⟨hJ k X X' W W' h1 hf hx, fun b hb => (hf.block b (by have := (hK b hb).1; omega) (fun hX => (h4 b hX).elim (hK b hb).2 (fun h => by have := (hK b hb).1; omega))).trans (h2 b hb), Nat.le_trans h3 hf.size,
  fun b hb => (hx b hb).elim (fun h => (h4 b h).imp id fun h => ⟨h.1, Nat.lt_of_lt_of_le h.2 hf.size⟩) fun h => .inr ⟨Nat.le_trans h3 h.1, h.2⟩⟩
def Fact.clx (Jx : Nat → (Nat → Prop) → World → Prop) (hJ : Framed Jx) (k : Nat) : Fact := ⟨Jx k, fun X X' W W' h hf hx => hJ k X X' W W' h hf hx⟩
abbrev CI (W : World) : Cx := ⟨fun _ => False, fun _ => True, W⟩
def Yields (P : Program) (W0 : World) (l : Nat) (cl clx : Nat → Fact) (pre : List Fact) (N : Nat) (vals : Nat → List Value) : Prop :=
  ∀ (n : Nat × List Nat) (ops : Array Oper) (Q : Exit → Act → World → Prop) (rest : List Oper) (env : List (Nat × Value)) (R : List Res) (Φ : List Fact) (d : Nat) (T : TypeId) (pos : String) (af : Array Edge) (x : Operand) (zas : Array Operand) (ts : Array TypeId) (k : Nat),
    k < N → opv env x = some (.func (.yield l) #[] #[]) → opvs env zas.toList = some (vals k) → Mem (cl k) Φ → Nat.blt d n.1 = true →
    Jl P none (CI W0) n ops Q rest ((d, .bool true) :: env) R (cl (k + 1) :: pre) → Jl P none (CI W0) n ops Q rest ((d, .bool false) :: env) [] [clx k] →
    Jl P none (CI W0) n ops Q (⟨some d, .call { callee := .value x, args := zas, argTypes := ts }, T, pos, af, none⟩ :: rest) env R Φ
def IQ (P : Program) (fn : Func) (cl clx : Nat → Fact) (N : Nat) : Exit → Act → World → Prop
 | .normal, a, W => a.defers = [] ∧ ((∃ X, (cl N).p X W) ∨ ∃ k X, k < N ∧ (clx k).p X W)
 | .ret, a, W => a.defers = [] ∧ ((∃ X, (cl N).p X W) ∨ ∃ k X, k < N ∧ (clx k).p X W)
 | _, _, _ => False
theorem Jq.itDone {P : Program} {fn : Func} {cl clx : Nat → Fact} {N m : Nat} {C : Cx} {env : List (Nat × Value)} {R : List Res} {Φ : List Fact} {e : Exit} (he : e = .ret ∨ e = .normal) (hm : Mem (cl N) Φ) : Jq C (m, []) (IQ P fn cl clx N) e env R Φ := fun a W h1 h2 => by
 rcases he with rfl | rfl <;> exact ⟨h1.defers, .inl ⟨_, h2.fact hm⟩⟩
theorem Jq.itStop {P : Program} {fn : Func} {cl clx : Nat → Fact} {N m k : Nat} {C : Cx} {env : List (Nat × Value)} {R : List Res} {Φ : List Fact} {e : Exit} (he : e = .ret ∨ e = .normal) (hk : k < N) (hm : Mem (clx k) Φ) : Jq C (m, []) (IQ P fn cl clx N) e env R Φ := fun a W h1 h2 => by
 rcases he with rfl | rfl <;> exact ⟨h1.defers, .inr ⟨k, _, hk, h2.fact hm⟩⟩
theorem ItL.of {P : Program} {gf : Nat} {fn : Func} {c : Code} {lb : List Value} {Rit : List Res} {pre lf : List Fact} {N : Nat} {vals : Nat → List Value} (nt : Nat) (hf : P.funcs[gf]? = some fn) (hnt : fn.ntmps = nt) (hb : fn.body = some c) (hres : fn.results = #[]) (hn : Nat.ble (lb.length + 1) nt = true)
 (hold : ∀ φ ∈ pre, φ.Old) (holdL : ∀ φ ∈ lf, φ.Old)
 (h : ∀ (W : World) (l : Nat) (cl clx : Nat → Fact), Yields P W l cl clx pre N vals → Jc P none (CI W) (nt, []) (IQ P fn cl clx N) c (envOf (.func (.yield l) #[] #[] :: lb) 0) Rit (cl 0 :: (pre ++ lf))) : ItL P gf lb Rit pre lf N vals := by
 intro X w0 hX hs hp hpl
 refine ⟨fun b => b < w0.heap.size ∧ ¬ X b ∧ ¬ ownL Rit b, fun b hb => hb, ?_⟩
 intro l J Jx W hsz hKX hJ hJx hJs hJxs hY h0
 have hW0 := hJs _ _ _ h0
 have hK : ∀ b, (b < w0.heap.size ∧ ¬ X b ∧ ¬ ownL Rit b) → b < w0.heap.size ∧ ¬ ownL Rit b := fun b h => ⟨h.1, h.2.2⟩
 obtain ⟨cl, hcl⟩ : ∃ cl : Nat → Fact, cl = Fact.cl J hJ (fun b => b < w0.heap.size ∧ ¬ X b ∧ ¬ ownL Rit b) (ownL Rit) w0 W hK hsz := ⟨_, rfl⟩
 obtain ⟨clx, hclx⟩ : ∃ clx : Nat → Fact, clx = Fact.clx Jx hJx := ⟨_, rfl⟩
 have hpre : ∀ (R : List Res) (W' : World), W.heap.size ≤ W'.heap.size → (∀ b, (b < w0.heap.size ∧ ¬ X b ∧ ¬ ownL Rit b) → W'.heap[b]? = w0.heap[b]?) → (∀ b, ownL R b → ownL Rit b ∨ (W.heap.size ≤ b ∧ b < W'.heap.size)) → ∀ φ ∈ pre, φ.p (fun b => False ∨ ownL R b) W' := fun R W' h1 h2 h3 φ hφ =>
  hold φ hφ _ _ w0 W' (hp φ hφ) (Nat.le_trans hsz h1) (fun b hb hx => h2 b ⟨hb, fun h => hx (.inl h), fun h => hx (.inr h)⟩) fun b hb => by
   rcases hb with hb | hb
   · exact hb.elim
   · rcases h3 b hb with h | h
     · exact .inl (.inr h)
     · exact .inr ⟨Nat.le_trans hsz h.1, h.2⟩
 have hy : Yields P W l cl clx pre N vals := by
  intro n ops Q rest env R Φ d T pos af x zas ts k hk hx ha hm hd k1 k2 a W2 he hs2
  have hc := hs2.fact hm
  rw [hcl] at hc
  obtain ⟨q1, q2, q3, q4⟩ := hc
  obtain ⟨fn', tmps, assign, body, hrun, hR⟩ := hY k (fun b => False ∨ ownL R b) (vals k).toArray W2 hk q1 q3 q2 q4 rfl
  refine wpListIn_plain rfl fun K' hK' => oper_plain (by simp) ?_
  have hrun' : (execOp a.eval ⟨some d, .call { callee := .value x, args := zas, argTypes := ts }, T, pos, af, none⟩).run P W2 = .ok (.round l fn' tmps assign body) W2 := by
   have e1 : zas.map a.eval = (vals k).toArray := by
    apply Array.toList_inj.1
    simpa using opvs_eval he ha
   simpa [execOp, resolve, he.eval hx, e1, Deferred.ofValue, invoke] using hrun
  rw [hrun']
  refine ⟨fun h => by simp [Fence.wide] at h, hR.mono ?_⟩
  have evo : ∀ W3, Still w0 W3 → W2.heap.size ≤ W3.heap.size → Foreign (fun _ => True) W W3 := fun W3 h h' => ⟨h.1.trans hW0.1.symm, h.2.1.trans hW0.2.1.symm, h.2.2.trans hW0.2.2.symm, Nat.le_trans q3 h', fun b _ hb => absurd trivial hb⟩
  rintro e W3 (⟨rfl, r1, r2, r3, r4⟩ | ⟨rfl, r1, r2⟩)
  · have hkk : ∀ b, (b < w0.heap.size ∧ ¬ X b ∧ ¬ ownL Rit b) → W3.heap[b]? = w0.heap[b]? := fun b hb => (r3 b hb).trans (q2 b hb)
    have hown : ∀ b, ownL R b → ownL Rit b ∨ (W.heap.size ≤ b ∧ b < W3.heap.size) := fun b hb => (q4 b (.inr hb)).imp id fun h => ⟨h.1, Nat.lt_of_lt_of_le h.2 r2⟩
    refine hK' _ _ (k1 _ W3 (he.put (Nat.le_of_ble_eq_true hd) _) ⟨evo W3 (hJs _ _ _ r1) r2, (hs2.sep.keep fun b hb => r4 b (.inr hb)), fun b hb => .inl trivial, fun b hb => hb.elim, fun φ hφ => ?_⟩)
    rcases List.mem_cons.1 hφ with rfl | hφ
    · rw [hcl]
      exact ⟨r1, hkk, Nat.le_trans q3 r2, fun b hb => hb.elim (fun h => h.elim) (hown b)⟩
    · exact hpre R W3 (Nat.le_trans q3 r2) hkk hown φ hφ
  · refine hK' _ _ (k2 _ W3 (he.put (Nat.le_of_ble_eq_true hd) _) ⟨evo W3 (hJxs _ _ _ r1) r2, trivial, fun b hb => hb.elim, fun b hb => hb.elim, fun φ hφ => ?_⟩)
    rcases List.mem_cons.1 hφ with rfl | hφ
    · rw [hclx]
      exact hJx k _ _ W3 W3 r1 (Foreign.refl _ _) fun b hb => hb.elim (fun h => h.elim) fun h => h.elim
    · simp at hφ
 have hs0 : Sat (CI W) Rit (cl 0 :: (pre ++ lf)) W := by
  refine ⟨Foreign.refl _ _, (hs.less (X' := fun _ => False) fun b h => h.elim).keep fun b hb => hKX b (hs.lt b hb), fun b hb => .inl trivial, fun b hb => hb.elim, fun φ hφ => ?_⟩
  rcases List.mem_cons.1 hφ with rfl | hφ
  · rw [hcl]
    refine ⟨?_, fun b hb => hKX b hb.1, Nat.le_refl _, fun b hb => .inl (hb.elim (fun h => h.elim) id)⟩
    have e : (fun b => False ∨ ownL Rit b) = ownL Rit := by funext b; simp
    show J 0 (fun b => False ∨ ownL Rit b) W
    rw [e]; exact h0
  · rcases List.mem_append.1 hφ with hφ | hφ
    · exact hpre Rit W (Nat.le_refl _) (fun b hb => hKX b hb.1) (fun b hb => .inl hb) φ hφ
    · exact holdL φ hφ _ _ w0 W (hpl φ hφ) hsz (fun b hb _ => hKX b hb) fun b hb => .inl (hb.elim (fun h => h.elim) id)
 have hn' := Nat.le_of_ble_eq_true hn
 refine callsIn_of_wp hf hb trivial (wpIn_mono (h W l cl clx hy _ W ?_ hs0) fun e a W' hq => ?_) rfl
 · refine ⟨rfl, by simp [hnt]; omega, fun t v ht => ?_⟩
   obtain ⟨_, h2⟩ := elook_envOf _ 0 t v ht
   have hlt := (List.getElem?_eq_some_iff.1 h2).1
   simp only [Nat.sub_zero] at h2 hlt
   have e : (#[Value.func (.yield l) #[] #[]] ++ lb.toArray : Array Value) = (Value.func (.yield l) #[] #[] :: lb).toArray := by simp
   rw [e, Array.getElem?_append_left (by simpa using hlt)]
   simpa using h2
 · have fin : ∀ a W', (a.defers = [] ∧ ((∃ X, (cl N).p X W') ∨ ∃ k X, k < N ∧ (clx k).p X W')) → bodyPost P fn (fun e W' => (∃ v, e = .returned v) ∧ ((∃ X, J N X W') ∨ (∃ k X, k < N ∧ Jx k X W'))) .ret a W' := fun a W' hq => by
    refine bodyPost_ret (results_none hres _ _ _) hq.1 ⟨⟨_, rfl⟩, ?_⟩
    rcases hq.2 with ⟨X, hx⟩ | ⟨k, X, hk, hx⟩
    · rw [hcl] at hx; exact .inl ⟨X, hx.1⟩
    · rw [hclx] at hx; exact .inr ⟨k, X, hk, hx⟩
   cases e with
   | normal => exact fin a W' hq
   | ret => exact fin a W' hq
   | exit id => exact hq.elim
   | goto l => exact hq.elim
   | panic ch => exact hq.elim
   | outgrown => exact hq.elim
theorem It.of {P : Program} {gf : Nat} {fn : Func} {c : Code} {lb : List Value} {Rit : List Res} {pre : List Fact} {N : Nat} {vals : Nat → List Value} (nt : Nat) (hf : P.funcs[gf]? = some fn) (hnt : fn.ntmps = nt) (hb : fn.body = some c) (hres : fn.results = #[]) (hn : Nat.ble (lb.length + 1) nt = true)
 (hold : ∀ φ ∈ pre, φ.Old)
 (h : ∀ (W : World) (l : Nat) (cl clx : Nat → Fact), Yields P W l cl clx pre N vals → Jc P none (CI W) (nt, []) (IQ P fn cl clx N) c (envOf (.func (.yield l) #[] #[] :: lb) 0) Rit (cl 0 :: pre)) : It P gf lb Rit pre N vals :=
 ItL.of (lf := []) nt hf hnt hb hres hn hold (fun φ hφ => by simp at hφ) (fun W l cl clx hy => by rw [List.append_nil]; exact h W l cl clx hy)
end Go.Proofs.YtakbgccddokbbaaGreatDoor
namespace Go.Proofs.YtakbgccddokbbaaGreatDoor
open Go.RowKit
def ndPh {α : Type} (X : Nat → Prop) (res : α → Value) (post : α → List Fact) : Dr.Ph := .inr (fun u => ∃ x, u = res x, fun u W => ∃ x, u = res x ∧ ∀ φ ∈ post x, φ.p X W)
def Fact.blkF (m : Nat) (b : Nat) (T : TypeId) (cs : List Value) : Fact where
 p := fun X W => W.heap[b]? = some (.cells cs.toArray T (0, 0)) ∧ ¬ X b ∧ m ≤ b
 fr := fun X X' W W' h hf hx => by
  have hb := (Array.getElem?_eq_some_iff.1 h.1).1
  exact ⟨(hf.block b hb h.2.1).trans h.1, fun h' => (hx b h').elim h.2.1 (fun h2 => by omega), h.2.2⟩
def kAt (K : List (List Fact)) (j : Nat) : List Fact := (K[j]?).getD []
def kOf (K : List (List Fact)) : List Nat → List Fact
 | [] => []
 | j :: js => kAt K j ++ kOf K js
theorem mem_kOf {K : List (List Fact)} : ∀ {js : List Nat} {φ : Fact}, φ ∈ kOf K js → ∃ j ∈ js, φ ∈ kAt K j
  | [], φ, h => by simp [kOf] at h
  | j :: js, φ, h => by
    rcases List.mem_append.1 h with h | h
    · exact ⟨j, by simp, h⟩
    · obtain ⟨k, h1, h2⟩ := mem_kOf h; exact ⟨k, by simp [h1], h2⟩
def xr (C : Cx) (R : List Res) : Nat → Prop := fun b => C.X0 b ∨ ownL R b
def Jr (P : Program) (C : Cx) (n : Nat × List Nat) (ops : Array Oper) (Q : Exit → Act → World → Prop) (tail : List Oper) (al : List Nat) (all : List Dr.Ph) (R : List Res) (Φ : List Fact)
    (rem : List Oper) (Φr : List Dr.Ph) (i : Nat) (vs : List Value) (K : List (List Fact)) (env : List (Nat × Value)) : Prop :=
  vs.length = i → K.length = i → i ≤ all.length →
  (∀ j φ, j < i → all[j]? = some (.inr φ) → ∀ W', φ.1 (vs.getD j undef) → φ.2 (vs.getD j undef) W' → ∀ f ∈ kAt K j, f.p (xr C R) W') →
  (∀ j x, j < i → all[j]? = some (.inl x) → kAt K j = []) →
  (∀ j, all[i + j]? = Φr[j]?) →
  ∀ a W, Env n env a → Sat C R Φ W → Dr.RG P ops Q tail W.drew al all rem Φr i vs a
theorem foreign_of_below {W W' : World} (h : Below W.heap.size W W') : Foreign (fun _ => False) W W' := ⟨h.os, h.tape, h.output, h.size, fun b hb _ => h.block b hb⟩
theorem Sat.belowD {C : Cx} {R : List Res} {Φ : List Fact} {W W' : World} (h : Sat C R Φ W) (hb : Below W.drew.heap.size W.drew W') : Sat C R Φ W' :=
 h.grow ((Foreign.drew _ W).trans (foreign_of_below hb))
theorem phNd_get {all : List Dr.Ph} {vs : List Value} {W : World} : ∀ {js : List Nat}, Dr.phNd all vs W js → ∀ j ∈ js, ∀ φ, all[j]? = some (.inr φ) → φ.1 (vs.getD j undef) ∧ φ.2 (vs.getD j undef) W
  | [], _, j, hj, _, _ => by simp at hj
  | k :: js, h, j, hj, φ, hφ => by
    unfold Dr.phNd at h
    rcases List.mem_cons.1 hj with rfl | hj
    · rw [hφ] at h; exact h.1
    · split at h
      · exact phNd_get h.2 j hj φ hφ
      · exact phNd_get h j hj φ hφ
section rules
variable {P : Program} {C : Cx} {n : Nat × List Nat} {ops : Array Oper} {Q : Exit → Act → World → Prop} {tail rem : List Oper} {al : List Nat} {all Φr : List Dr.Ph} {i : Nat} {vs : List Value} {K : List (List Fact)} {env : List (Nat × Value)} {R : List Res} {Φ : List Fact}
  {d : Nat} {T : TypeId} {pos : String} {af : Array Edge} {op : Op} {u v : Value}
theorem at_hand (hK : ∀ j φ, j < i → all[j]? = some (.inr φ) → ∀ W', φ.1 (vs.getD j undef) → φ.2 (vs.getD j undef) W' → ∀ f ∈ kAt K j, f.p (xr C R) W')
    (hK2 : ∀ j x, j < i → all[j]? = some (.inl x) → kAt K j = []) (hKl : K.length = i) {W W' : World} (hs : Sat C R Φ W) (hb : Below W.drew.heap.size W.drew W') {js : List Nat} (hn : Dr.phNd all vs W' js) (hlen : i ≤ all.length) : Sat C R (kOf K js ++ Φ) W' := by
  have h1 := hs.belowD hb
  refine ⟨h1.ev, h1.sep, h1.ours, h1.x0, fun φ hφ => ?_⟩
  rcases List.mem_append.1 hφ with hφ | hφ
  · obtain ⟨j, hj, hf⟩ := mem_kOf hφ
    have hji : j < i := by
      rcases Nat.lt_or_ge j i with h | h
      · exact h
      · simp [kAt, List.getElem?_eq_none (show K.length ≤ j by omega)] at hf
    cases ha : all[j]? with
    | none => have := List.getElem?_eq_none_iff.1 ha; omega
    | some p =>
      cases p with
      | inl x => rw [hK2 j x hji ha] at hf; simp at hf
      | inr ψ =>
        obtain ⟨q1, q2⟩ := phNd_get hn j hj ψ ha
        exact hK j ψ hji ha W' q1 q2 φ hf
  · exact h1.facts φ hφ
theorem getD_snoc_lt {vs : List Value} {x : Value} {j : Nat} (h : j < vs.length) : (vs ++ [x]).getD j undef = vs.getD j undef := by
 simp [List.getD_eq_getElem?_getD, List.getElem?_append_left h]
theorem getD_snoc_eq {vs : List Value} {x : Value} : (vs ++ [x]).getD vs.length undef = x := by
 simp [List.getD_eq_getElem?_getD]
theorem kAt_snoc_lt {K : List (List Fact)} {l : List Fact} {j : Nat} (h : j < K.length) : kAt (K ++ [l]) j = kAt K j := by simp [kAt, List.getElem?_append_left h]
theorem kAt_snoc_eq {K : List (List Fact)} {l : List Fact} : kAt (K ++ [l]) K.length = l := by simp [kAt]
theorem one_value {a : Act} {W W' : World} {o : Oper} {df : List Deferred} {p : Value → World → Prop} (ho : o.dst = some d) (hd : d < a.tmps.size) (hdf : a.defers = df) (hw : Region.wanted o (yielded ops a.tmps) = true)
 (hrun : (execOp a.eval o).run P W = .ok (.value v) W') (hp : p v W') : wpList P ops (Dr.hpost df (o.dst.getD 0) p) [o] a W := by
 unfold wpList
 rw [if_pos hw]
 refine .inl ?_
 unfold Oper.wp
 rw [hrun]
 show Dr.hpost df (o.dst.getD 0) p .normal (a.put o.dst v) W'
 refine ⟨?_, by rw [Dr.put_defers']; exact hdf⟩
 rw [ho]
 simp only [Option.getD_some, Array.getD_eq_getD_getElem?, Dr.put_at _ _ _ hd]
 exact hp
theorem Jr.pv (h : PR P C n env R (kOf K (Dr.needs ⟨some d, op, T, pos, af, none⟩) ++ Φ) op T v)
 (k : Jr P C n ops Q tail al all R Φ rem Φr (i + 1) (vs ++ [v]) (K ++ [[]]) ((d, v) :: env)) (hd : Nat.blt d n.1 = true := by rfl) : Jr P C n ops Q tail al all R Φ (⟨some d, op, T, pos, af, none⟩ :: rem) (.inl v :: Φr) i vs K env := fun hvl hKl hil hK hK2 hall a W he hs => by
 have hai : all[i]? = some (.inl v) := by simpa using hall 0
 have hlen : i ≤ all.length := Nat.le_of_lt (List.getElem?_eq_some_iff.1 hai).1
 refine Dr.RG_det (fun W' hb hn => ?_) (k (by simp [hvl]) (by simp [hKl]) (by have := (List.getElem?_eq_some_iff.1 hai).1; omega) (fun j φ hj hφ W' h1 h2 => ?_) (fun j x hj hx => ?_) (fun j => by have := hall (j + 1); simpa [Nat.add_assoc, Nat.add_comm 1 j] using this) _ _ (he.put (Nat.le_of_ble_eq_true hd) v) hs)
 · exact one_value rfl (by rw [he.size]; exact Nat.le_of_ble_eq_true hd) rfl (by simp [Region.wanted]) (h a W' he (at_hand hK hK2 hKl hs hb hn hlen) _ _ _ _) ⟨rfl, Below.refl _ _⟩
 · by_cases e : j = i
   · subst e; rw [hai] at hφ; cases hφ
   · rw [kAt_snoc_lt (by omega)]
     rw [getD_snoc_lt (by omega)] at h1 h2
     exact hK j φ (by omega) hφ W' h1 h2
 · by_cases e : j = i
   · subst e; rw [← hKl]; exact kAt_snoc_eq
   · rw [kAt_snoc_lt (by omega)]; exact hK2 j x (by omega) hx
theorem Jr.nv {α : Type} {res : α → Value} {post : α → List Fact} (hinj : ∀ x y, res x = res y → x = y)
 (h : ∀ a W, Env n env a → Sat C R (kOf K (Dr.needs ⟨some d, op, T, pos, af, none⟩) ++ Φ) W → ∀ W0, Below W0.heap.size W0 W → C.W0.heap.size ≤ W0.heap.size → (∀ b, xr C R b → b < W0.heap.size) →
  wpList P ops (Dr.hpost a.defers d (fun u W' => (∃ x, u = res x ∧ ∀ φ ∈ post x, φ.p (xr C R) W') ∧ Below W.heap.size W W' ∧ (i ∈ al → u = .pointer (some ⟨W.heap.size, 0, none⟩) ∧ W.heap.size < W'.heap.size))) [⟨some d, op, T, pos, af, none⟩] a W)
 (k : ∀ x, Jr P C n ops Q tail al all R Φ rem Φr (i + 1) (vs ++ [res x]) (K ++ [post x]) ((d, res x) :: env)) (hd : Nat.blt d n.1 = true := by rfl) :
 Jr P C n ops Q tail al all R Φ (⟨some d, op, T, pos, af, none⟩ :: rem) (ndPh (xr C R) res post :: Φr) i vs K env := fun hvl hKl hil hK hK2 hall a W he hs => by
 have hai : all[i]? = some (ndPh (xr C R) res post) := by simpa using hall 0
 have hlen : i ≤ all.length := Nat.le_of_lt (List.getElem?_eq_some_iff.1 hai).1
 refine Dr.RG_nd (fun W' hb hn => ?_) (fun u hu => ?_)
 · have := h a W' he (at_hand hK hK2 hKl hs hb hn hlen) W.drew hb hs.size (fun b hb => by
    rcases hb with hb | hb
    · exact hs.x0lt b hb
    · exact hs.sep.lt b hb)
   refine Dr.one_mono (fun u W'' hu => ?_) this
   obtain ⟨⟨x, rfl, hx⟩, h2, h3⟩ := hu
   exact ⟨⟨⟨x, rfl⟩, x, rfl, hx⟩, h2, h3⟩
 · obtain ⟨x, rfl⟩ := hu
   refine k x (by simp [hvl]) (by simp [hKl]) (by have := (List.getElem?_eq_some_iff.1 hai).1; omega) (fun j φ hj hφ W' h1 h2 => ?_) (fun j y hj hy => ?_) (fun j => by have := hall (j + 1); simpa [Nat.add_assoc, Nat.add_comm 1 j] using this) _ _ (he.put (Nat.le_of_ble_eq_true hd) _) hs
   · by_cases e : j = i
     · subst e
       rw [hai] at hφ
       cases hφ
       rw [← hKl, kAt_snoc_eq]
       rw [← hvl, getD_snoc_eq] at h2
       obtain ⟨y, hy, hy2⟩ := h2
       cases hinj _ _ hy
       exact hy2
     · rw [kAt_snoc_lt (by omega)]
       rw [getD_snoc_lt (by omega)] at h1 h2
       exact hK j φ (by omega) hφ W' h1 h2
   · by_cases e : j = i
     · subst e; rw [hai] at hy; cases hy
     · rw [kAt_snoc_lt (by omega)]; exact hK2 j y (by omega) hy
theorem Jr.alloc {T' : TypeId} {cs : List Value} (hz : tzero P T' = some cs)
 (k : ∀ b, Jr P C n ops Q tail al all R Φ rem Φr (i + 1) (vs ++ [.pointer (some ⟨b, 0, none⟩)]) (K ++ [[.blkF C.W0.heap.size b T' cs]]) ((d, .pointer (some ⟨b, 0, none⟩)) :: env)) (hd : Nat.blt d n.1 = true := by rfl) :
 Jr P C n ops Q tail al all R Φ (⟨some d, .alloc T', T, pos, af, none⟩ :: rem) (ndPh (xr C R) (fun b => .pointer (some ⟨b, 0, none⟩)) (fun b => [.blkF C.W0.heap.size b T' cs]) :: Φr) i vs K env :=
 Jr.nv (fun x y h => by simpa using h) (fun a W he hs W0 hb0 hc0 hx0 => by
  obtain ⟨z, hz1, hz2⟩ := tzero_spec (w := W) hz
  refine one_value (W' := W.alloc (.cells cs.toArray T')) (v := .pointer (some ⟨W.heap.size, 0, none⟩))
   (p := fun u W' => (∃ b : Nat, u = .pointer (some ⟨b, 0, none⟩) ∧ ∀ φ ∈ [Fact.blkF C.W0.heap.size b T' cs], φ.p (xr C R) W') ∧ Below W.heap.size W W' ∧ (i ∈ al → u = .pointer (some ⟨W.heap.size, 0, none⟩) ∧ W.heap.size < W'.heap.size)) rfl
   (by rw [he.size]; exact Nat.le_of_ble_eq_true hd) rfl (by simp [Region.wanted]) ?_ ⟨⟨W.heap.size, rfl, fun φ hφ => ?_⟩, (Below.refl _ _).alloc (Nat.le_refl _) _, fun _ => ⟨rfl, by simp⟩⟩
  · simp [execOp, Instr.alloc, hz1, newVar, newRow, hz2]
  · simp only [List.mem_singleton] at hφ
    subst hφ
    exact ⟨World.alloc_heap_new W _, fun hx => absurd (Nat.lt_of_lt_of_le (hx0 _ hx) hb0.size) (Nat.lt_irrefl _), Nat.le_trans hc0 hb0.size⟩) k hd
theorem Jr.callv {f : FuncId} {fs cs ws : List Value} {x : Operand} {zas : Array Operand} {ts : Array TypeId} {args : List Value} {pre : List Fact} {α : Type} {res : α → Value} {post : α → List Fact}
 (hct : Ct P f args [] pre res (fun _ => []) post) (hal : i ∉ al) (hinj : ∀ x y, res x = res y → x = y) (hen : ∀ args w, (callFunc f args).run P w = .ok (.enter f args) w)
 (hx : opv env x = some (.func (.func f) fs.toArray cs.toArray)) (ha : opvs env zas.toList = some ws) (hv : fs ++ ws ++ cs = args)
 (hp : FSub pre (kOf K (Dr.needs ⟨some d, .call { callee := .value x, args := zas, argTypes := ts }, T, pos, af, none⟩) ++ Φ))
 (k : ∀ x, Jr P C n ops Q tail al all R Φ rem Φr (i + 1) (vs ++ [res x]) (K ++ [post x]) ((d, res x) :: env)) (hd : Nat.blt d n.1 = true := by rfl) :
 Jr P C n ops Q tail al all R Φ (⟨some d, .call { callee := .value x, args := zas, argTypes := ts }, T, pos, af, none⟩ :: rem) (ndPh (xr C R) res post :: Φr) i vs K env :=
 Jr.nv hinj (fun a W he hs W0 hb0 _ hx0 => by
  unfold wpList
  rw [if_pos (by simp [Region.wanted])]
  refine .inl ?_
  have hrun : (execOp a.eval ⟨some d, .call { callee := .value x, args := zas, argTypes := ts }, T, pos, af, none⟩).run P W = .ok (.enter f args.toArray) W := by
   have e1 : zas.map a.eval = ws.toArray := by
    apply Array.toList_inj.1
    simpa using opvs_eval he ha
   subst hv
   simp [execOp, resolve, he.eval hx, e1, Deferred.ofValue, invoke, hen]
  unfold Oper.wp
  rw [hrun]
  refine (hct (xr C R) W (fun b hb => Nat.lt_of_lt_of_le (hx0 b hb) hb0.size) trivial (fun φ hφ => φ.fr _ _ W W (hs.facts φ (hp.mem φ hφ)) (Foreign.refl _ _) (fun b hb => .inl (hb.elim id (fun h => h.elim))))).mono ?_
  rintro e W' ⟨x, rfl, hf, _, _, hpost⟩
  refine ⟨?_, by rw [Dr.put_defers']⟩
  simp only [Array.getD_eq_getD_getElem?, Dr.put_at _ _ _ (show d < a.tmps.size by rw [he.size]; exact Nat.le_of_ble_eq_true hd)]
  exact ⟨⟨x, rfl, fun φ hφ => φ.fr _ _ W' W' (hpost φ hφ) (Foreign.refl _ _) (fun b hb => .inl (.inl hb))⟩, ⟨hf.os, hf.tape, hf.output, hf.size, fun b hb => hf.block b hb id⟩, fun h => (hal h).elim⟩) k hd
theorem Jr.on {d' : Option Nat} {j : Nat} {want : Bool} {t : Nat} (hj : (ops[j]?).bind (·.dst) = some t) (ht : elook t env = some (.bool want))
    (k : Jr P C n ops Q tail al all R Φ (⟨d', op, T, pos, af, none⟩ :: rem) Φr i vs K env) : Jr P C n ops Q tail al all R Φ (⟨d', op, T, pos, af, some (j, want)⟩ :: rem) Φr i vs K env := fun h1 h2 h3 h4 h5 h6 a W he hs => by
  have h := k h1 h2 h3 h4 h5 h6 a W he hs
  have hy : yielded ops a.tmps j = some want := by
    unfold yielded
    have := he.at_ t _ ht
    simp [hj, this]
  have key : ∀ Q' W', wpList P ops Q' [⟨d', op, T, pos, af, none⟩] a W' → wpList P ops Q' [⟨d', op, T, pos, af, some (j, want)⟩] a W' := fun Q' W' h => by
    unfold wpList at h ⊢
    rw [if_pos (by rfl)] at h
    rw [if_pos (by simp [Region.wanted, hy])]
    exact h
  cases Φr with
  | nil => exact h
  | cons p Φr =>
    cases p with
    | inl x => exact ⟨fun W' hb hn => key _ _ (h.1 W' hb hn), h.2⟩
    | inr φ => exact ⟨fun W' hb hn => key _ _ (h.1 W' hb hn), h.2⟩
theorem Jr.off {j : Nat} {want b : Bool} {t : Nat} (hj : (ops[j]?).bind (·.dst) = some t) (ht : elook t env = some (.bool b)) (hb : b = !want)
 (k : Jr P C n ops Q tail al all R Φ rem Φr (i + 1) (vs ++ [undef]) (K ++ [[]]) ((d, undef) :: env)) (hd : Nat.blt d n.1 = true := by rfl) :
 Jr P C n ops Q tail al all R Φ (⟨some d, op, T, pos, af, some (j, want)⟩ :: rem) (.inl undef :: Φr) i vs K env := fun hvl hKl hil hK hK2 hall a W he hs => by
 have hai : all[i]? = some (.inl undef) := by simpa using hall 0
 refine Dr.RG_det (fun W' hb' hn => ?_) (k (by simp [hvl]) (by simp [hKl]) (by have := (List.getElem?_eq_some_iff.1 hai).1; omega) (fun j φ hj hφ W' h1 h2 => ?_) (fun j x hj hx => ?_) (fun j => by have := hall (j + 1); simpa [Nat.add_assoc, Nat.add_comm 1 j] using this) _ _ (he.put (Nat.le_of_ble_eq_true hd) _) hs)
 · have hy : yielded ops a.tmps j = some b := by
    unfold yielded
    have := he.at_ t _ ht
    simp [hj, this]
   unfold wpList
   rw [if_neg (by simp [Region.wanted, hy, hb])]
   show Dr.hpost _ _ _ .normal _ _
   refine ⟨?_, by rw [Dr.put_defers']⟩
   simp only [Option.getD_some, Array.getD_eq_getD_getElem?, Dr.put_at _ _ _ (show d < a.tmps.size by rw [he.size]; exact Nat.le_of_ble_eq_true hd)]
   exact ⟨rfl, Below.refl _ _⟩
 · by_cases e : j = i
   · subst e; rw [hai] at hφ; cases hφ
   · rw [kAt_snoc_lt (by omega)]
     rw [getD_snoc_lt (by omega)] at h1 h2
     exact hK j φ (by omega) hφ W' h1 h2
 · by_cases e : j = i
   · subst e; rw [← hKl]; exact kAt_snoc_eq
   · rw [kAt_snoc_lt (by omega)]; exact hK2 j x (by omega) hx
def plainOp (o : Oper) : Bool := match o.op with
  | .call c => match c.callee with
    | .builtin .append => true
    | .builtin .copy => true
    | .builtin .len => true
    | _ => false
  | .store .. | .assign _ | .move _ | .extract .. | .fieldAddr .. | .load .. | .indexAddr .. | .slice .. | .alloc _ | .buildSlice .. | .build .. => true
  | _ => false
theorem upon_of_in {o : Oper} {a : Act} {K : Act → World → Prop} {Q : Exit → Act → World → Prop} {r : Result Next} (h : o.uponIn (Fz none) 0 P a K Q r) (hr : ∀ l f ts zas b w, r ≠ .ok (.round l f ts zas b) w) (hw : ∀ row args w, r ≠ .ok (.row row args) w) : o.upon P a K Q r := by
  cases r with
  | ok x w =>
    cases x <;> first
      | exact h
      | (exact absurd rfl (hr _ _ _ _ _ _))
      | (exact absurd rfl (hw _ _ _))
      | exact callsIn_wide.1 h.2
  | halt x w => cases x <;> exact h
theorem plain_next {o : Oper} {a : Act} {W : World} (h : plainOp o = true) : (∀ l f ts zas b w, (execOp a.eval o).run P W ≠ .ok (.round l f ts zas b) w) ∧ ∀ row args w, (execOp a.eval o).run P W ≠ .ok (.row row args) w := by
  have key : ∀ (s : Sem Value), (∀ l f ts zas b w, ((do pure (.value (← s)) : Sem Next)).run P W ≠ .ok (.round l f ts zas b) w) ∧ ∀ row args w, ((do pure (.value (← s)) : Sem Next)).run P W ≠ .ok (.row row args) w := fun s => by
    rw [Sem.run_bind]
    cases s.run P W <;> simp [Result.andThen]
  have keyU : ∀ (s : Sem Unit), (∀ l f ts zas b w, ((do s; pure .skip : Sem Next)).run P W ≠ .ok (.round l f ts zas b) w) ∧ ∀ row args w, ((do s; pure .skip : Sem Next)).run P W ≠ .ok (.row row args) w := fun s => by
    rw [Sem.run_bind]
    cases s.run P W <;> simp [Result.andThen]
  have keyR : ∀ r : Result Value, (∀ l f ts zas b w, (r.andThen fun a w' => .ok (Next.value a) w') ≠ .ok (.round l f ts zas b) w) ∧ ∀ row args w, (r.andThen fun a w' => .ok (Next.value a) w') ≠ .ok (.row row args) w := fun r => by
    cases r <;> simp [Result.andThen]
  obtain ⟨dst, op, T, pos, af, g⟩ := o
  cases op with
  | call c =>
    obtain ⟨ce, zas, ts⟩ := c
    cases ce with
    | builtin b =>
      cases b <;> first
        | (simp [plainOp] at h; done)
        | (simp only [execOp, resolve, Sem.run_bind, Sem.run_pure, Result.andThen_ok, invoke, builtin]; exact keyR _)
    | _ => simp [plainOp] at h
  | store => exact keyU _
  | assign x => exact ⟨fun _ _ _ _ _ _ => by simp [execOp], fun _ _ _ => by simp [execOp]⟩
  | move x => exact ⟨fun _ _ _ _ _ _ => by simp [execOp], fun _ _ _ => by simp [execOp]⟩
  | extract => exact key _
  | fieldAddr => exact key _
  | load => exact key _
  | indexAddr => exact key _
  | slice => exact key _
  | alloc => exact key _
  | buildSlice => exact key _
  | build => exact key _
  | _ => simp [plainOp] at h
theorem list_of_in : ∀ {l : List Oper} {a : Act} {W : World}, l.all plainOp = true → wpListIn (Fz none) 0 P ops Q l a W → wpList P ops Q l a W
  | [], _, _, _, h => h
  | o :: l, a, W, hp, h => by
    simp only [List.all_cons, Bool.and_eq_true] at hp
    unfold wpListIn at h
    unfold wpList
    split
    · rename_i hw
      rw [if_pos hw] at h
      refine .inl ?_
      have h2 := h.2
      rw [show (Fz none).round = none from rfl, Oper.semAt_none] at h2
      obtain ⟨q1, q2⟩ := plain_next (P := P) (a := a) (W := W) hp.1
      have h3 := upon_of_in h2 q1 q2
      unfold Oper.wp
      revert h3
      generalize (execOp a.eval o).run P W = r
      intro h3
      cases r with
      | ok x w => cases x <;> first
        | exact list_of_in hp.2 h3
        | exact h3
        | (refine Calls.mono h3 fun e w'' he => ?_
           cases e with
           | returned v => exact list_of_in hp.2 he
           | panicked c => exact he
           | outgrown => exact he)
        | (exact Rows.mono h3 fun v w'' he => list_of_in hp.2 he)
      | halt x w => cases x <;> exact h3
    · rename_i hw
      rw [if_neg hw] at h
      exact list_of_in hp.2 h.2
def kAll : List (List Fact) → List Fact
 | [] => []
 | l :: K => l ++ kAll K
theorem mem_kAll {K : List (List Fact)} {φ : Fact} : φ ∈ kAll K → ∃ j, j < K.length ∧ φ ∈ kAt K j := by
  induction K with
  | nil => intro h; simp [kAll] at h
  | cons l K ih =>
    intro h
    rcases List.mem_append.1 h with h | h
    · exact ⟨0, by simp, by simpa [kAt] using h⟩
    · obtain ⟨j, h1, h2⟩ := ih h
      exact ⟨j + 1, by simp; omega, by simpa [kAt] using h2⟩
theorem Sat.addAll {W : World} {l : List Fact} (h : Sat C R Φ W) (hl : ∀ φ ∈ l, φ.p (xr C R) W) : Sat C R (l ++ Φ) W :=
 ⟨h.ev, h.sep, h.ours, h.x0, fun φ hφ => (List.mem_append.1 hφ).elim (hl φ) (h.facts φ)⟩
theorem Jr.fin (hal : al = []) (ht : tail.all plainOp = true) (k : Jl P none C n ops Q tail env R (kAll K ++ Φ)) : Jr P C n ops Q tail al all R Φ [] [] i vs K env := fun hvl hKl hil hK hK2 hall a W he hs => by
  refine Dr.RG_end (fun W' hb hn _ => list_of_in ht (k a W' he ((hs.belowD hb).addAll fun φ hφ => ?_)))
  obtain ⟨j, hj, hf⟩ := mem_kAll hφ
  have hji : j < i := by omega
  cases ha : all[j]? with
  | none =>
    have := List.getElem?_eq_none_iff.1 ha
    omega
  | some p =>
    cases p with
    | inl x => rw [hK2 j x hji ha] at hf; simp at hf
    | inr ψ =>
      obtain ⟨q1, q2⟩ := phNd_get hn j (List.mem_range.2 hji) ψ ha
      exact hK j ψ hji ha W' q1 q2 φ hf
def PhOk : Dr.Ph → Prop
 | .inl _ => True
 | .inr φ => (∃ u, φ.1 u) ∧ ∀ u W W', φ.2 u W → Below W.heap.size W W' → φ.2 u W'
def PhsOk : List Dr.Ph → Prop
 | [] => True
 | p :: ps => PhOk p ∧ PhsOk ps
theorem PhsOk.mem : ∀ {ps : List Dr.Ph}, PhsOk ps → ∀ p ∈ ps, PhOk p
  | [], _, p, h => by simp at h
  | q :: ps, h, p, hp => by
    rcases List.mem_cons.1 hp with rfl | hp
    · exact h.1
    · exact h.2.mem p hp
theorem Jc.draw {id : Nat} {l : List Oper} (N : Nat) (al : List Nat) {Φs : List Dr.Ph} (hm : P.follows .mixedOrders = true) (hok : Dr.regOk l.toArray N n.1 = true) (hfl : (l.take N).any Dr.isFloat = false)
 (h : Jr P C n l.toArray Q (l.drop N) al Φs R Φ (l.take N) Φs 0 [] [] env) (hlen : Φs.length = N) (hal : al.all (fun j => match Φs[j]? with | some (.inr _) => true | _ => false) = true) (hph : PhsOk Φs) :
 Jc P none C n Q (.region id l.toArray true) env R Φ := fun a W he hs => by
 refine wpIn_wide.2 (Dr.wp_region_rg N al Φs hm (by rw [he.size]; exact hok) hlen hal (fun j φ hj u W W' h1 h2 => (hph.mem _ (List.mem_of_getElem? hj)).2 u W W' h1 h2) (fun j φ hj => (hph.mem _ (List.mem_of_getElem? hj)).1)
  (h rfl rfl (Nat.zero_le _) (fun j φ hj => absurd hj (Nat.not_lt_zero _)) (fun j x hj => absurd hj (Nat.not_lt_zero _)) (fun j => by rw [Nat.zero_add]) a W he hs) (fun hf => by rw [hfl] at hf; cases hf))
def JP (P : Program) (C : Cx) (n : Nat × List Nat) (ops : Array Oper) (Q : Exit → Act → World → Prop) (tail : List Oper) (R : List Res) (Φ : List Fact) (rem : List Oper) (i : Nat) (env : List (Nat × Value)) : Prop :=
 ∀ (pre : List Dr.Ph) (vs : List Value) (K : List (List Fact)), pre.length = i → (∀ j, kAt K j = []) → ∃ Φr : List Dr.Ph, Φr.length = rem.length ∧ PhsOk Φr ∧ Jr P C n ops Q tail [] (pre ++ Φr) R Φ rem Φr i vs K env
theorem kOf_none {K : List (List Fact)} (h : ∀ j, kAt K j = []) : ∀ js, kOf K js = []
 | [] => rfl
 | j :: js => by rw [kOf, h j, kOf_none h js]; rfl
theorem kAt_more {K : List (List Fact)} (h : ∀ j, kAt K j = []) (j : Nat) : kAt (K ++ [[]]) j = [] := by
 rcases Nat.lt_or_ge j K.length with h1 | h1
 · rw [kAt_snoc_lt h1]; exact h j
 · unfold kAt
   rw [List.getElem?_append_right h1]
   cases j - K.length with
   | zero => rfl
   | succ m => simp
theorem JP.step {o : Oper} {v : Value} {env' : List (Nat × Value)} (k : JP P C n ops Q tail R Φ rem (i + 1) env')
 (h : ∀ (all Φr : List Dr.Ph) (vs : List Value) (K : List (List Fact)), (∀ j, kAt K j = []) → Jr P C n ops Q tail [] all R Φ rem Φr (i + 1) (vs ++ [v]) (K ++ [[]]) env' → Jr P C n ops Q tail [] all R Φ (o :: rem) (.inl v :: Φr) i vs K env) :
 JP P C n ops Q tail R Φ (o :: rem) i env := fun pre vs K hp hK => by
 obtain ⟨Φr, h1, h2, h3⟩ := k (pre ++ [.inl v]) (vs ++ [v]) (K ++ [[]]) (by simp [hp]) (kAt_more hK)
 rw [List.append_assoc] at h3
 exact ⟨.inl v :: Φr, by simp [h1], ⟨trivial, h2⟩, h _ _ _ _ hK h3⟩
theorem JP.pv (h : PR P C n env R Φ op T v) (k : JP P C n ops Q tail R Φ rem (i + 1) ((d, v) :: env)) (hd : Nat.blt d n.1 = true := by rfl) : JP P C n ops Q tail R Φ (⟨some d, op, T, pos, af, none⟩ :: rem) i env :=
 JP.step k fun all Φr vs K hK h3 => Jr.pv (by rw [kOf_none hK]; exact h) h3 hd
theorem JP.off {j : Nat} {want b : Bool} {t : Nat} (hj : (ops[j]?).bind (·.dst) = some t) (ht : elook t env = some (.bool b)) (hb : b = !want)
 (k : JP P C n ops Q tail R Φ rem (i + 1) ((d, undef) :: env)) (hd : Nat.blt d n.1 = true := by rfl) : JP P C n ops Q tail R Φ (⟨some d, op, T, pos, af, some (j, want)⟩ :: rem) i env :=
 JP.step k fun all Φr vs K hK h3 => Jr.off hj ht hb h3 hd
theorem JP.on {d' : Option Nat} {j : Nat} {want : Bool} {t : Nat} (hj : (ops[j]?).bind (·.dst) = some t) (ht : elook t env = some (.bool want))
 (k : JP P C n ops Q tail R Φ (⟨d', op, T, pos, af, none⟩ :: rem) i env) : JP P C n ops Q tail R Φ (⟨d', op, T, pos, af, some (j, want)⟩ :: rem) i env := fun pre vs K hp hK => by
 obtain ⟨Φr, h1, h2, h3⟩ := k pre vs K hp hK
 exact ⟨Φr, h1, h2, Jr.on hj ht h3⟩
theorem JP.bsplit {b : Bool} (h1 : b = true → JP P C n ops Q tail R Φ rem i ((d, .bool true) :: env)) (h2 : b = false → JP P C n ops Q tail R Φ rem i ((d, .bool false) :: env)) : JP P C n ops Q tail R Φ rem i ((d, .bool b) :: env) := by
 cases b
 · exact h2 rfl
 · exact h1 rfl
theorem JP.as {u' : Value} (h : u = u') (k : JP P C n ops Q tail R Φ rem i ((d, u') :: env)) : JP P C n ops Q tail R Φ rem i ((d, u) :: env) := by subst h; exact k
theorem kAll_none {K : List (List Fact)} (h : ∀ j, kAt K j = []) : kAll K = [] :=
 List.eq_nil_iff_forall_not_mem.2 fun φ hφ => by
  obtain ⟨j, _, hj⟩ := mem_kAll hφ
  rw [h j] at hj; simp at hj
theorem JP.fin (ht : tail.all plainOp = true) (k : Jl P none C n ops Q tail env R Φ) : JP P C n ops Q tail R Φ [] i env := fun pre vs K hp hK =>
 ⟨[], rfl, trivial, Jr.fin rfl ht (by rw [kAll_none hK]; exact k)⟩
theorem Jc.drawP {id : Nat} {l : List Oper} (N : Nat) (hm : P.follows .mixedOrders = true) (hok : Dr.regOk l.toArray N n.1 = true) (hfl : (l.take N).any Dr.isFloat = false)
 (h : JP P C n l.toArray Q (l.drop N) R Φ (l.take N) 0 env) : Jc P none C n Q (.region id l.toArray true) env R Φ := by
 obtain ⟨Φr, h1, h2, h3⟩ := h [] [] [] rfl (fun j => rfl)
 have hN : N ≤ l.length := by have := (Dr.regOk_spec hok).le; simpa using this
 exact Jc.draw N [] hm hok hfl h3 (by rw [List.nil_append, h1]; simp; omega) rfl h2
end rules
end Go.Proofs.YtakbgccddokbbaaGreatDoor
namespace Go.Proofs.YtakbgccddokbbaaGreatDoor
open Go.RowKit
def tone (P : Program) (t : TypeId) : Option Bool := match P.underlying t with
 | some (.int _) => some true
 | some .bool => some false
 | _ => none
def tonesF (P : Program) : List Field → Nat → Option (List Bool)
  | [], _ => some []
  | f :: fs, i => match tone P f.type, tonesF P fs (i + 1) with
    | some b, some bs => if f.name ≠ "_" ∧ f.offset = i then some (b :: bs) else none
    | _, _ => none
def teq (P : Program) (t : TypeId) : Option (List Bool) :=
  if P.eqGuardType P.depth t = false then match P.underlying t with
    | some (.struct fs) => if P.stoodInHeld t = false then tonesF P fs.toList 0 else none
    | some (.array n e) => match tone P e, P.info? e with
      | some b, some _ => if P.cellsOf e = 1 then some (List.replicate n b) else none
      | _, _ => none
    | _ => none
  else none
def eqKs : List Bool → List Value → List Value → Bool
  | [], [], [] => true
  | true :: ks, .int k _ :: xs, .int k' _ :: ys => (match k, k' with
    | .i64, .i64 => true | .u8, .u8 => true | _, _ => false) && eqKs ks xs ys
  | false :: ks, .bool _ :: xs, .bool _ :: ys => eqKs ks xs ys
  | _, _, _ => false
section
variable {P : Program} (w : World)
theorem part_one {t : TypeId} {b : Bool} (h : tone P t = some b) (xs : Array Value) (i : Nat) (u : Value) (hu : xs[i]? = some u) : (part t xs i).run P w = .ok u w := by
 unfold tone at h
 have : (isAgg t).run P w = .ok false w := by
  split at h
  · rename_i hh; simp [isAgg, run_underlying hh]
  · rename_i hh; simp [isAgg, run_underlying hh]
  · cases h
 simp [part, this, hu]
theorem eq_one {t : TypeId} {b : Bool} (h : tone P t = some b) (d : Nat) (u v : Value) (hk : eqKs [b] [u] [v] = true) : ∃ r : Bool, (Op.equalIn (d + 1) t u v).run P w = .ok r w ∧ (r = true ↔ u = v) := by
 unfold tone at h
 split at h
 · rename_i k hh
   cases h
   cases u <;> cases v <;> simp only [eqKs, Bool.false_eq_true] at hk
   rename_i k1 a k2 c
   have hkk : k1 = k2 := by cases k1 <;> cases k2 <;> simp_all
   subst hkk
   exact ⟨a == c, run_equalIn_int w d t k1 k a c hh, by simp⟩
 · rename_i hh
   cases h
   cases u <;> cases v <;> simp only [eqKs, Bool.false_eq_true] at hk
   exact ⟨_, run_equalIn_bool w d t _ _ hh, by simp⟩
 · cases h
theorem eqKs_head {b : Bool} {ks : List Bool} {xs ys : List Value} (h : eqKs (b :: ks) xs ys = true) : ∃ u v xs' ys', xs = u :: xs' ∧ ys = v :: ys' ∧ eqKs [b] [u] [v] = true ∧ eqKs ks xs' ys' = true := by
 cases b <;> cases xs <;> cases ys
 all_goals first | (simp only [eqKs, Bool.false_eq_true] at h; done) | skip
 · rename_i u xs v ys
   cases u <;> cases v <;> simp only [eqKs, Bool.false_eq_true] at h
   exact ⟨_, _, _, _, rfl, rfl, rfl, h⟩
 · rename_i u xs v ys
   cases u <;> cases v <;> simp only [eqKs, Bool.false_eq_true, Bool.and_eq_true] at h
   exact ⟨_, _, _, _, rfl, rfl, by simp only [eqKs, h.1]; rfl, h.2⟩
theorem eq_fields (d : Nat) (xs ys : Array Value) : ∀ (fs : List Field) (i : Nat) (ks : List Bool) (us vs : List Value), tonesF P fs i = some ks → eqKs ks us vs = true → (∀ j u, us[j]? = some u → xs[i + j]? = some u) → (∀ j u, vs[j]? = some u → ys[i + j]? = some u) →
    ∃ r : Bool, (Op.eqFields (d + 1) xs ys fs).run P w = .ok r w ∧ (r = true ↔ us = vs)
  | [], i, ks, us, vs, h1, h2, _, _ => by
    simp only [tonesF, Option.some.injEq] at h1
    subst h1
    cases us <;> cases vs <;> simp only [eqKs, Bool.false_eq_true] at h2
    exact ⟨true, by simp [Op.eqFields], by simp⟩
  | f :: fs, i, ks, us, vs, h1, h2, h3, h4 => by
    simp only [tonesF] at h1
    cases hb : tone P f.type with
    | none => simp [hb] at h1
    | some b =>
      cases hbs : tonesF P fs (i + 1) with
      | none => simp [hb, hbs] at h1
      | some bs =>
        simp only [hb, hbs] at h1
        split at h1
        · rename_i hn
          cases h1
          obtain ⟨u, v, us', vs', rfl, rfl, k1, k2⟩ := eqKs_head h2
          obtain ⟨r, hr, hiff⟩ := eq_one w hb d u v k1
          obtain ⟨r', hr', hiff'⟩ := eq_fields d xs ys fs (i + 1) bs us' vs' hbs k2 (fun j u hu => by have := h3 (j + 1) u (by simpa using hu); rwa [show i + (j + 1) = i + 1 + j by omega] at this) (fun j u hu => by have := h4 (j + 1) u (by simpa using hu); rwa [show i + (j + 1) = i + 1 + j by omega] at this)
          have p1 := part_one w hb xs f.offset u (by rw [hn.2]; exact h3 0 u rfl)
          have p2 := part_one w hb ys f.offset v (by rw [hn.2]; exact h4 0 v rfl)
          simp only [Op.eqFields, hn.1, ne_eq, not_false_eq_true, if_true, Sem.run_bind, p1, p2, hr, Result.andThen_ok]
          cases r
          · exact ⟨false, by simp, by simp; intro e; exact absurd (hiff.2 e) (by simp)⟩
          · exact ⟨r', by simpa using hr', by rw [hiff']; simp [hiff.1 rfl]⟩
        · cases h1
theorem eq_items (d : Nat) {e : TypeId} {b : Bool} (hb : tone P e = some b) (xs ys : Array Value) : ∀ (m i : Nat) (us vs : List Value), eqKs (List.replicate m b) us vs = true → (∀ j u, us[j]? = some u → xs[i + j]? = some u) → (∀ j u, vs[j]? = some u → ys[i + j]? = some u) →
    ∃ r : Bool, (Op.eqItems (d + 1) e 1 xs ys (List.range' i m)).run P w = .ok r w ∧ (r = true ↔ us = vs)
  | 0, i, us, vs, h2, _, _ => by
    cases us <;> cases vs <;> simp only [eqKs, List.replicate, Bool.false_eq_true] at h2
    exact ⟨true, by simp [Op.eqItems], by simp⟩
  | m + 1, i, us, vs, h2, h3, h4 => by
    rw [List.replicate_succ] at h2
    obtain ⟨u, v, us', vs', rfl, rfl, k1, k2⟩ := eqKs_head h2
    obtain ⟨r, hr, hiff⟩ := eq_one w hb d u v k1
    obtain ⟨r', hr', hiff'⟩ := eq_items d hb xs ys m (i + 1) us' vs' k2 (fun j u hu => by have := h3 (j + 1) u (by simpa using hu); rwa [show i + (j + 1) = i + 1 + j by omega] at this) (fun j u hu => by have := h4 (j + 1) u (by simpa using hu); rwa [show i + (j + 1) = i + 1 + j by omega] at this)
    have p1 := part_one w hb xs (i * 1) u (by rw [Nat.mul_one]; exact h3 0 u rfl)
    have p2 := part_one w hb ys (i * 1) v (by rw [Nat.mul_one]; exact h4 0 v rfl)
    rw [List.range'_succ]
    simp only [Op.eqItems, Sem.run_bind, p1, p2, hr, Result.andThen_ok]
    cases r
    · exact ⟨false, by simp, by simp; intro e; exact absurd (hiff.2 e) (by simp)⟩
    · exact ⟨r', by simpa using hr', by rw [hiff']; simp [hiff.1 rfl]⟩
theorem eq_agg {t : TypeId} {ks : List Bool} (h : teq P t = some ks) (xs ys : List Value) (hk : eqKs ks xs ys = true) : P.eqGuardType P.depth t = false ∧ ∃ r : Bool, (Op.equalIn 10000 t (.agg xs.toArray) (.agg ys.toArray)).run P w = .ok r w ∧ (r = true ↔ xs = ys) := by
 unfold teq at h
 split at h
 · rename_i hg
   refine ⟨hg, ?_⟩
   split at h
   · rename_i fs hu
     split at h
     · rename_i hs
       have hfs : P.fieldsOf t = fs := by simp [Program.fieldsOf, hu]
       obtain ⟨r, h1, h2⟩ := eq_fields (P := P) w 9998 xs.toArray ys.toArray fs.toList 0 ks xs ys h hk (fun j u hu => by simpa using hu) (fun j u hu => by simpa using hu)
       exact ⟨r, by rw [run_equalIn_struct w 9999 t _ _ (by rw [hfs]; exact hu) hs, hfs]; exact h1, h2⟩
     · cases h
   · rename_i n e hu
     split at h
     · rename_i b i hb hi
       split at h
       · rename_i hc
         cases h
         obtain ⟨r, h1, h2⟩ := eq_items (P := P) w 9998 hb xs.toArray ys.toArray n 0 xs ys hk (fun j u hu => by simpa using hu) (fun j u hu => by simpa using hu)
         exact ⟨r, by rw [run_equalIn_array w 9999 _ _ hu hi, hc, List.range_eq_range']; exact h1, h2⟩
       · cases h
     · cases h
   · cases h
 · cases h
end
section
variable {P : Program} {C : Cx} {n : Nat × List Nat} {env : List (Nat × Value)} {R : List Res} {Φ : List Fact} {T T' : TypeId} {x y : Operand}
theorem PR.eqlA {xs ys : List Value} {ks : List Bool} (t : Bool) (hx : opv env x = some (.agg xs.toArray)) (hy : opv env y = some (.agg ys.toArray)) (hT : teq P T' = some ks) (hk : eqKs ks xs ys = true) (ht : t = true ↔ xs = ys) :
 PR P C n env R Φ (.binOp .eql T' x y T') T (.bool t) := fun a W he _ d pos af g => by
 obtain ⟨hg, r, hr, hiff⟩ := eq_agg W hT xs ys hk
 have hrt : r = t := by rw [Bool.eq_iff_iff]; exact hiff.trans ht.symm
 subst hrt
 simp only [execOp, he.eval hx, he.eval hy, Sem.run_bind, run_eqGuard_agg W .eql T' x y _ _ hg, Result.andThen_ok, run_eql_struct, hr]
 simp
theorem PR.neqA {xs ys : List Value} {ks : List Bool} (t : Bool) (hx : opv env x = some (.agg xs.toArray)) (hy : opv env y = some (.agg ys.toArray)) (hT : teq P T' = some ks) (hk : eqKs ks xs ys = true) (ht : t = true ↔ xs ≠ ys) :
 PR P C n env R Φ (.binOp .neq T' x y T') T (.bool t) := fun a W he _ d pos af g => by
 obtain ⟨hg, r, hr, hiff⟩ := eq_agg W hT xs ys hk
 have hrt : (!r) = t := by rw [Bool.eq_iff_iff, ht, ne_eq, ← hiff]; simp
 subst hrt
 simp only [execOp, he.eval hx, he.eval hy, Sem.run_bind, run_eqGuard_agg W .neq T' x y _ _ hg, Result.andThen_ok, run_neq_struct, hr]
 simp
end
end Go.Proofs.YtakbgccddokbbaaGreatDoor
namespace Go.Proofs.YtakbgccddokbbaaGreatDoor
open Go.RowKit
theorem tsh3 : tshape Tryz.prog 3 = some (false, 1) := by kernel_rfl
theorem tze3 : tzero Tryz.prog 3 = some [(Value.int IntKind.i64 0)] := by kernel_rfl
theorem tby3 : Tryz.prog.bytesOf 3 = 8 := by kernel_rfl
theorem tsh4 : tshape Tryz.prog 4 = some (false, 1) := by kernel_rfl
theorem tze4 : tzero Tryz.prog 4 = some [(Value.bool false)] := by kernel_rfl
theorem tsh5 : tshape Tryz.prog 5 = some (false, 1) := by kernel_rfl
theorem tze5 : tzero Tryz.prog 5 = some [(Value.int IntKind.u8 0)] := by kernel_rfl
theorem tby5 : Tryz.prog.bytesOf 5 = 1 := by kernel_rfl
theorem tsh22 : tshape Tryz.prog 22 = some (false, 1) := by kernel_rfl
theorem tze22 : tzero Tryz.prog 22 = some [(Value.slice none 0 0)] := by kernel_rfl
theorem tsl22 : tslice Tryz.prog 22 = some (54, 2) := by kernel_rfl
theorem tsh23 : tshape Tryz.prog 23 = some (false, 1) := by kernel_rfl
theorem tsl23 : tslice Tryz.prog 23 = some (3, 1) := by kernel_rfl
theorem tsh25 : tshape Tryz.prog 25 = some (false, 1) := by kernel_rfl
theorem tsl25 : tslice Tryz.prog 25 = some (5, 1) := by kernel_rfl
theorem tsh27 : tshape Tryz.prog 27 = some (true, 3) := by kernel_rfl
theorem tze27 : tzero Tryz.prog 27 = some [(Value.slice none 0 0), (Value.int IntKind.i64 0), (Value.int IntKind.i64 0)] := by kernel_rfl
theorem tsh32 : tshape Tryz.prog 32 = some (true, 15) := by kernel_rfl
theorem tze32 : tzero Tryz.prog 32 = some [(Value.int IntKind.i64 0), (Value.int IntKind.i64 0), (Value.int IntKind.i64 0), (Value.int IntKind.i64 0), (Value.int IntKind.i64 0), (Value.int IntKind.i64 0), (Value.int IntKind.i64 0), (Value.int IntKind.i64 0), (Value.int IntKind.i64 0), (Value.int IntKind.i64 0), (Value.int IntKind.i64 0), (Value.int IntKind.i64 0), (Value.int IntKind.i64 0), (Value.bool false), (Value.slice none 0 0)] := by kernel_rfl
theorem tsh33 : tshape Tryz.prog 33 = some (false, 1) := by kernel_rfl
theorem tsl33 : tslice Tryz.prog 33 = some (70, 4) := by kernel_rfl
theorem tsh34 : tshape Tryz.prog 34 = some (false, 1) := by kernel_rfl
theorem tsl34 : tslice Tryz.prog 34 = some (72, 8) := by kernel_rfl
theorem tsh36 : tshape Tryz.prog 36 = some (true, 7) := by kernel_rfl
theorem tze36 : tzero Tryz.prog 36 = some [(Value.int IntKind.u8 0), (Value.int IntKind.i64 0), (Value.int IntKind.i64 0), (Value.int IntKind.i64 0), (Value.bool false), (Value.int IntKind.i64 0), (Value.int IntKind.i64 0)] := by kernel_rfl
theorem tsh38 : tshape Tryz.prog 38 = some (true, 27) := by kernel_rfl
theorem tze38 : tzero Tryz.prog 38 = some [(Value.int IntKind.i64 0), (Value.int IntKind.i64 0), (Value.bool false), (Value.int IntKind.i64 0), (Value.int IntKind.i64 0), (Value.int IntKind.i64 0), (Value.int IntKind.i64 0), (Value.int IntKind.i64 0), (Value.int IntKind.i64 0), (Value.int IntKind.i64 0), (Value.int IntKind.i64 0), (Value.int IntKind.i64 0), (Value.int IntKind.i64 0), (Value.int IntKind.i64 0), (Value.int IntKind.i64 0), (Value.int IntKind.i64 0), (Value.bool false), (Value.slice none 0 0), (Value.slice none 0 0), (Value.slice none 0 0), (Value.int IntKind.u8 0), (Value.int IntKind.i64 0), (Value.int IntKind.i64 0), (Value.int IntKind.i64 0), (Value.bool false), (Value.int IntKind.i64 0), (Value.int IntKind.i64 0)] := by kernel_rfl
theorem tby38 : Tryz.prog.bytesOf 38 = 264 := by kernel_rfl
theorem tsh39 : tshape Tryz.prog 39 = some (false, 1) := by kernel_rfl
theorem tze39 : tzero Tryz.prog 39 = some [(Value.int IntKind.i64 0)] := by kernel_rfl
theorem tsh54 : tshape Tryz.prog 54 = some (true, 2) := by kernel_rfl
theorem tze54 : tzero Tryz.prog 54 = some [(Value.int IntKind.u8 0), (Value.slice none 0 0)] := by kernel_rfl
theorem tby54 : Tryz.prog.bytesOf 54 = 32 := by kernel_rfl
theorem tsh56 : tshape Tryz.prog 56 = some (false, 1) := by kernel_rfl
theorem tze56 : tzero Tryz.prog 56 = some [(Value.slice none 0 0)] := by kernel_rfl
theorem tsl56 : tslice Tryz.prog 56 = some (38, 27) := by kernel_rfl
theorem tsh70 : tshape Tryz.prog 70 = some (true, 4) := by kernel_rfl
theorem tze70 : tzero Tryz.prog 70 = some [(Value.int IntKind.i64 0), (Value.int IntKind.i64 0), (Value.int IntKind.i64 0), (Value.bool false)] := by kernel_rfl
theorem tby70 : Tryz.prog.bytesOf 70 = 32 := by kernel_rfl
theorem tsh72 : tshape Tryz.prog 72 = some (true, 8) := by kernel_rfl
theorem tze72 : tzero Tryz.prog 72 = some [(Value.int IntKind.i64 0), (Value.int IntKind.i64 0), (Value.int IntKind.i64 0), (Value.int IntKind.i64 0), (Value.int IntKind.u8 0), (Value.int IntKind.i64 0), (Value.bool false), (Value.bool false)] := by kernel_rfl
theorem tby72 : Tryz.prog.bytesOf 72 = 56 := by kernel_rfl
theorem tsh91 : tshape Tryz.prog 91 = some (false, 1) := by kernel_rfl
theorem tsh102 : tshape Tryz.prog 102 = some (true, 13) := by kernel_rfl
theorem tze102 : tzero Tryz.prog 102 = some [(Value.int IntKind.i64 0), (Value.int IntKind.i64 0), (Value.int IntKind.i64 0), (Value.int IntKind.i64 0), (Value.int IntKind.i64 0), (Value.int IntKind.i64 0), (Value.int IntKind.i64 0), (Value.int IntKind.i64 0), (Value.int IntKind.i64 0), (Value.int IntKind.i64 0), (Value.int IntKind.i64 0), (Value.int IntKind.i64 0), (Value.int IntKind.i64 0)] := by kernel_rfl
theorem tsh116 : tshape Tryz.prog 116 = some (false, 1) := by kernel_rfl
theorem tsh118 : tshape Tryz.prog 118 = some (true, 2) := by kernel_rfl
theorem tze118 : tzero Tryz.prog 118 = some [(Value.int IntKind.i64 0), Value.nilFunc] := by kernel_rfl
theorem tsh129 : tshape Tryz.prog 129 = some (false, 1) := by kernel_rfl
theorem tze129 : tzero Tryz.prog 129 = some [(Value.int IntKind.u32 0)] := by kernel_rfl
theorem tsh136 : tshape Tryz.prog 136 = some (false, 1) := by kernel_rfl
theorem tsh146 : tshape Tryz.prog 146 = some (false, 1) := by kernel_rfl
theorem tsl146 : tslice Tryz.prog 146 = some (25, 1) := by kernel_rfl
theorem tar153 : tarray Tryz.prog 153 = some (11, 25, 1) := by kernel_rfl
theorem tsh156 : tshape Tryz.prog 156 = some (true, 2) := by kernel_rfl
theorem tze156 : tzero Tryz.prog 156 = some [(Value.int IntKind.i64 0), (Value.int IntKind.i64 0)] := by kernel_rfl
theorem tsh160 : tshape Tryz.prog 160 = some (false, 1) := by kernel_rfl
theorem tsh161 : tshape Tryz.prog 161 = some (false, 1) := by kernel_rfl
theorem tar167 : tarray Tryz.prog 167 = some (17, 23, 1) := by kernel_rfl
theorem tsl173 : tslice Tryz.prog 173 = some (23, 1) := by kernel_rfl
theorem tze184 : tzero Tryz.prog 184 = some [(Value.pointer none), (Value.pointer none), (Value.pointer none), (Value.pointer none), (Value.pointer none), (Value.pointer none), (Value.pointer none), (Value.pointer none), (Value.pointer none), (Value.pointer none), (Value.pointer none), (Value.pointer none), (Value.pointer none)] := by kernel_rfl
theorem tar184 : tarray Tryz.prog 184 = some (13, 161, 1) := by kernel_rfl
theorem tar185 : tarray Tryz.prog 185 = some (13, 156, 2) := by kernel_rfl
theorem tfl27_0 : tfield Tryz.prog 27 0 = some (0, 1) := by kernel_rfl
theorem tfl27_1 : tfield Tryz.prog 27 1 = some (1, 1) := by kernel_rfl
theorem tfl27_2 : tfield Tryz.prog 27 2 = some (2, 1) := by kernel_rfl
theorem tfl32_0 : tfield Tryz.prog 32 0 = some (0, 1) := by kernel_rfl
theorem tfl32_1 : tfield Tryz.prog 32 1 = some (1, 1) := by kernel_rfl
theorem tfl32_2 : tfield Tryz.prog 32 2 = some (2, 1) := by kernel_rfl
theorem tfl32_3 : tfield Tryz.prog 32 3 = some (3, 1) := by kernel_rfl
theorem tfl32_4 : tfield Tryz.prog 32 4 = some (4, 1) := by kernel_rfl
theorem tfl32_5 : tfield Tryz.prog 32 5 = some (5, 1) := by kernel_rfl
theorem tfl32_6 : tfield Tryz.prog 32 6 = some (6, 1) := by kernel_rfl
theorem tfl32_7 : tfield Tryz.prog 32 7 = some (7, 1) := by kernel_rfl
theorem tfl32_8 : tfield Tryz.prog 32 8 = some (8, 1) := by kernel_rfl
theorem tfl32_9 : tfield Tryz.prog 32 9 = some (9, 1) := by kernel_rfl
theorem tfl32_10 : tfield Tryz.prog 32 10 = some (10, 1) := by kernel_rfl
theorem tfl32_11 : tfield Tryz.prog 32 11 = some (11, 1) := by kernel_rfl
theorem tfl32_12 : tfield Tryz.prog 32 12 = some (12, 1) := by kernel_rfl
theorem tfl32_13 : tfield Tryz.prog 32 13 = some (13, 1) := by kernel_rfl
theorem tfl32_14 : tfield Tryz.prog 32 14 = some (14, 1) := by kernel_rfl
theorem tfl36_0 : tfield Tryz.prog 36 0 = some (0, 1) := by kernel_rfl
theorem tfl36_1 : tfield Tryz.prog 36 1 = some (1, 1) := by kernel_rfl
theorem tfl36_2 : tfield Tryz.prog 36 2 = some (2, 1) := by kernel_rfl
theorem tfl36_3 : tfield Tryz.prog 36 3 = some (3, 1) := by kernel_rfl
theorem tfl36_4 : tfield Tryz.prog 36 4 = some (4, 1) := by kernel_rfl
theorem tfl36_5 : tfield Tryz.prog 36 5 = some (5, 1) := by kernel_rfl
theorem tfl36_6 : tfield Tryz.prog 36 6 = some (6, 1) := by kernel_rfl
theorem tfl38_0 : tfield Tryz.prog 38 0 = some (0, 1) := by kernel_rfl
theorem tfl38_1 : tfield Tryz.prog 38 1 = some (1, 1) := by kernel_rfl
theorem tfl38_2 : tfield Tryz.prog 38 2 = some (2, 1) := by kernel_rfl
theorem tfl38_3 : tfield Tryz.prog 38 3 = some (3, 15) := by kernel_rfl
theorem tfl38_4 : tfield Tryz.prog 38 4 = some (18, 1) := by kernel_rfl
theorem tfl38_5 : tfield Tryz.prog 38 5 = some (19, 1) := by kernel_rfl
theorem tfl38_6 : tfield Tryz.prog 38 6 = some (20, 7) := by kernel_rfl
theorem tfl54_0 : tfield Tryz.prog 54 0 = some (0, 1) := by kernel_rfl
theorem tfl54_1 : tfield Tryz.prog 54 1 = some (1, 1) := by kernel_rfl
theorem tfl70_0 : tfield Tryz.prog 70 0 = some (0, 1) := by kernel_rfl
theorem tfl70_1 : tfield Tryz.prog 70 1 = some (1, 1) := by kernel_rfl
theorem tfl70_2 : tfield Tryz.prog 70 2 = some (2, 1) := by kernel_rfl
theorem tfl70_3 : tfield Tryz.prog 70 3 = some (3, 1) := by kernel_rfl
theorem tfl72_0 : tfield Tryz.prog 72 0 = some (0, 1) := by kernel_rfl
theorem tfl72_4 : tfield Tryz.prog 72 4 = some (4, 1) := by kernel_rfl
theorem tfl72_5 : tfield Tryz.prog 72 5 = some (5, 1) := by kernel_rfl
theorem tfl72_6 : tfield Tryz.prog 72 6 = some (6, 1) := by kernel_rfl
theorem tfl72_7 : tfield Tryz.prog 72 7 = some (7, 1) := by kernel_rfl
theorem tfl118_0 : tfield Tryz.prog 118 0 = some (0, 1) := by kernel_rfl
theorem tfl118_1 : tfield Tryz.prog 118 1 = some (1, 1) := by kernel_rfl
theorem tfl156_0 : tfield Tryz.prog 156 0 = some (0, 1) := by kernel_rfl
theorem tfl156_1 : tfield Tryz.prog 156 1 = some (1, 1) := by kernel_rfl
theorem tpl27_0_1_2 : tplaces Tryz.prog 27 [0, 1, 2] = some [(0, 1), (1, 1), (2, 1)] := by kernel_rfl
theorem tpl27_1_2 : tplaces Tryz.prog 27 [1, 2] = some [(1, 1), (2, 1)] := by kernel_rfl
theorem tpl27_2 : tplaces Tryz.prog 27 [2] = some [(2, 1)] := by kernel_rfl
theorem tpl32_ : tplaces Tryz.prog 32 [] = some [] := by kernel_rfl
theorem tpl36_0_1_2_5 : tplaces Tryz.prog 36 [0, 1, 2, 5] = some [(0, 1), (1, 1), (2, 1), (5, 1)] := by kernel_rfl
theorem tpl38_ : tplaces Tryz.prog 38 [] = some [] := by kernel_rfl
theorem tpl54_ : tplaces Tryz.prog 54 [] = some [] := by kernel_rfl
theorem tpl54_0 : tplaces Tryz.prog 54 [0] = some [(0, 1)] := by kernel_rfl
theorem tpl54_0_1 : tplaces Tryz.prog 54 [0, 1] = some [(0, 1), (1, 1)] := by kernel_rfl
theorem tpl70_0_1_2_3 : tplaces Tryz.prog 70 [0, 1, 2, 3] = some [(0, 1), (1, 1), (2, 1), (3, 1)] := by kernel_rfl
theorem tpl72_0_1_2_3_4_5 : tplaces Tryz.prog 72 [0, 1, 2, 3, 4, 5] = some [(0, 1), (1, 1), (2, 1), (3, 1), (4, 1), (5, 1)] := by kernel_rfl
theorem tpl102_0_1_2_3_4_5_6_7_8_9_10_11_12 : tplaces Tryz.prog 102 [0, 1, 2, 3, 4, 5, 6, 7, 8, 9, 10, 11, 12] = some [(0, 1), (1, 1), (2, 1), (3, 1), (4, 1), (5, 1), (6, 1), (7, 1), (8, 1), (9, 1), (10, 1), (11, 1), (12, 1)] := by kernel_rfl
theorem tpl118_0_1 : tplaces Tryz.prog 118 [0, 1] = some [(0, 1), (1, 1)] := by kernel_rfl
theorem tpl156_0_1 : tplaces Tryz.prog 156 [0, 1] = some [(0, 1), (1, 1)] := by kernel_rfl
theorem tpl184_0_1_2_3_4_5_6_7_8_9_10_11_12 : tplaces Tryz.prog 184 [0, 1, 2, 3, 4, 5, 6, 7, 8, 9, 10, 11, 12] = some [(0, 1), (1, 1), (2, 1), (3, 1), (4, 1), (5, 1), (6, 1), (7, 1), (8, 1), (9, 1), (10, 1), (11, 1), (12, 1)] := by kernel_rfl
theorem tzr22_1 : zrow Tryz.prog 22 1 = some [(Value.int IntKind.u8 0), (Value.slice none 0 0)] := by kernel_rfl
theorem tzr23_0 : zrow Tryz.prog 23 0 = some [] := by kernel_rfl
theorem tzr23_1 : zrow Tryz.prog 23 1 = some [(Value.int IntKind.i64 0)] := by kernel_rfl
theorem tzr25_0 : zrow Tryz.prog 25 0 = some [] := by kernel_rfl
theorem tzr25_1 : zrow Tryz.prog 25 1 = some [(Value.int IntKind.u8 0)] := by kernel_rfl
theorem tzr25_4 : zrow Tryz.prog 25 4 = some [(Value.int IntKind.u8 0), (Value.int IntKind.u8 0), (Value.int IntKind.u8 0), (Value.int IntKind.u8 0)] := by kernel_rfl
theorem tzr33_0 : zrow Tryz.prog 33 0 = some [] := by kernel_rfl
theorem tzr33_1 : zrow Tryz.prog 33 1 = some [(Value.int IntKind.i64 0), (Value.int IntKind.i64 0), (Value.int IntKind.i64 0), (Value.bool false)] := by kernel_rfl
theorem tzr34_0 : zrow Tryz.prog 34 0 = some [] := by kernel_rfl
theorem tzr34_1 : zrow Tryz.prog 34 1 = some [(Value.int IntKind.i64 0), (Value.int IntKind.i64 0), (Value.int IntKind.i64 0), (Value.int IntKind.i64 0), (Value.int IntKind.u8 0), (Value.int IntKind.i64 0), (Value.bool false), (Value.bool false)] := by kernel_rfl
theorem tzr56_1 : zrow Tryz.prog 56 1 = some [(Value.int IntKind.i64 0), (Value.int IntKind.i64 0), (Value.bool false), (Value.int IntKind.i64 0), (Value.int IntKind.i64 0), (Value.int IntKind.i64 0), (Value.int IntKind.i64 0), (Value.int IntKind.i64 0), (Value.int IntKind.i64 0), (Value.int IntKind.i64 0), (Value.int IntKind.i64 0), (Value.int IntKind.i64 0), (Value.int IntKind.i64 0), (Value.int IntKind.i64 0), (Value.int IntKind.i64 0), (Value.int IntKind.i64 0), (Value.bool false), (Value.slice none 0 0), (Value.slice none 0 0), (Value.slice none 0 0), (Value.int IntKind.u8 0), (Value.int IntKind.i64 0), (Value.int IntKind.i64 0), (Value.int IntKind.i64 0), (Value.bool false), (Value.int IntKind.i64 0), (Value.int IntKind.i64 0)] := by kernel_rfl
theorem tzr146_2 : zrow Tryz.prog 146 2 = some [(Value.slice none 0 0), (Value.slice none 0 0)] := by kernel_rfl
theorem tzr173_2 : zrow Tryz.prog 173 2 = some [(Value.slice none 0 0), (Value.slice none 0 0)] := by kernel_rfl
theorem teq36 : teq Tryz.prog 36 = some [true, true, true, true, false, true, true] := by kernel_rfl
theorem teq70 : teq Tryz.prog 70 = some [true, true, true, false] := by kernel_rfl
theorem teq72 : teq Tryz.prog 72 = some [true, true, true, true, true, true, false, false] := by kernel_rfl
theorem teq102 : teq Tryz.prog 102 = some [true, true, true, true, true, true, true, true, true, true, true, true, true] := by kernel_rfl
abbrev zN (f : FuncId) : Prop := ∀ args w, (callFunc f args).run Tryz.prog w = .ok (.enter f args) w
theorem en7 : zN 7 := enters_fn Tryz.func7 (by kernel_rfl) rfl
theorem en9 : zN 9 := enters_fn Tryz.func9 (by kernel_rfl) rfl
theorem en10 : zN 10 := enters_fn Tryz.func10 (by kernel_rfl) rfl
theorem en11 : zN 11 := enters_fn Tryz.func11 (by kernel_rfl) rfl
theorem en12 : zN 12 := enters_fn Tryz.func12 (by kernel_rfl) rfl
theorem en13 : zN 13 := enters_fn Tryz.func13 (by kernel_rfl) rfl
theorem en14 : zN 14 := enters_fn Tryz.func14 (by kernel_rfl) rfl
theorem en16 : zN 16 := enters_fn Tryz.func16 (by kernel_rfl) rfl
theorem en17 : zN 17 := enters_fn Tryz.func17 (by kernel_rfl) rfl
theorem en18 : zN 18 := enters_fn Tryz.func18 (by kernel_rfl) rfl
theorem en19 : zN 19 := enters_fn Tryz.func19 (by kernel_rfl) rfl
theorem en20 : zN 20 := enters_fn Tryz.func20 (by kernel_rfl) rfl
theorem en21 : zN 21 := enters_fn Tryz.func21 (by kernel_rfl) rfl
theorem en24 : zN 24 := enters_fn Tryz.func24 (by kernel_rfl) rfl
theorem en25 : zN 25 := enters_fn Tryz.func25 (by kernel_rfl) rfl
theorem en26 : zN 26 := enters_fn Tryz.func26 (by kernel_rfl) rfl
theorem en27 : zN 27 := enters_fn Tryz.func27 (by kernel_rfl) rfl
theorem en28 : zN 28 := enters_fn Tryz.func28 (by kernel_rfl) rfl
theorem en29 : zN 29 := enters_fn Tryz.func29 (by kernel_rfl) rfl
theorem en30 : zN 30 := enters_fn Tryz.func30 (by kernel_rfl) rfl
theorem en31 : zN 31 := enters_fn Tryz.func31 (by kernel_rfl) rfl
theorem en32 : zN 32 := enters_fn Tryz.func32 (by kernel_rfl) rfl
theorem en34 : zN 34 := enters_fn Tryz.func34 (by kernel_rfl) rfl
theorem en35 : zN 35 := enters_fn Tryz.func35 (by kernel_rfl) rfl
theorem en36 : zN 36 := enters_fn Tryz.func36 (by kernel_rfl) rfl
theorem en37 : zN 37 := enters_fn Tryz.func37 (by kernel_rfl) rfl
theorem en45 : zN 45 := enters_fn Tryz.func45 (by kernel_rfl) rfl
theorem en46 : zN 46 := enters_fn Tryz.func46 (by kernel_rfl) rfl
theorem en47 : zN 47 := enters_fn Tryz.func47 (by kernel_rfl) rfl
theorem en48 : zN 48 := enters_fn Tryz.func48 (by kernel_rfl) rfl
theorem en49 : zN 49 := enters_fn Tryz.func49 (by kernel_rfl) rfl
theorem en50 : zN 50 := enters_fn Tryz.func50 (by kernel_rfl) rfl
theorem en51 : zN 51 := enters_fn Tryz.func51 (by kernel_rfl) rfl
theorem en52 : zN 52 := enters_fn Tryz.func52 (by kernel_rfl) rfl
theorem en53 : zN 53 := enters_fn Tryz.func53 (by kernel_rfl) rfl
theorem en54 : zN 54 := enters_fn Tryz.func54 (by kernel_rfl) rfl
theorem en55 : zN 55 := enters_fn Tryz.func55 (by kernel_rfl) rfl
theorem en56 : zN 56 := enters_fn Tryz.func56 (by kernel_rfl) rfl
theorem en57 : zN 57 := enters_fn Tryz.func57 (by kernel_rfl) rfl
theorem en58 : zN 58 := enters_fn Tryz.func58 (by kernel_rfl) rfl
theorem en59 : zN 59 := enters_fn Tryz.func59 (by kernel_rfl) rfl
theorem en60 : zN 60 := enters_fn Tryz.func60 (by kernel_rfl) rfl
theorem en61 : zN 61 := enters_fn Tryz.func61 (by kernel_rfl) rfl
theorem en68 : zN 68 := enters_fn Tryz.func68 (by kernel_rfl) rfl
theorem en69 : zN 69 := enters_fn Tryz.func69 (by kernel_rfl) rfl
theorem en70 : zN 70 := enters_fn Tryz.func70 (by kernel_rfl) rfl
theorem en71 : zN 71 := enters_fn Tryz.func71 (by kernel_rfl) rfl
theorem en72 : zN 72 := enters_fn Tryz.func72 (by kernel_rfl) rfl
theorem en73 : zN 73 := enters_fn Tryz.func73 (by kernel_rfl) rfl
theorem en74 : zN 74 := enters_fn Tryz.func74 (by kernel_rfl) rfl
theorem en75 : zN 75 := enters_fn Tryz.func75 (by kernel_rfl) rfl
theorem en76 : zN 76 := enters_fn Tryz.func76 (by kernel_rfl) rfl
theorem en77 : zN 77 := enters_fn Tryz.func77 (by kernel_rfl) rfl
theorem en78 : zN 78 := enters_fn Tryz.func78 (by kernel_rfl) rfl
theorem en79 : zN 79 := enters_fn Tryz.func79 (by kernel_rfl) rfl
theorem en80 : zN 80 := enters_fn Tryz.func80 (by kernel_rfl) rfl
theorem en81 : zN 81 := enters_fn Tryz.func81 (by kernel_rfl) rfl
theorem en82 : zN 82 := enters_fn Tryz.func82 (by kernel_rfl) rfl
theorem en83 : zN 83 := enters_fn Tryz.func83 (by kernel_rfl) rfl
theorem en84 : zN 84 := enters_fn Tryz.func84 (by kernel_rfl) rfl
theorem en85 : zN 85 := enters_fn Tryz.func85 (by kernel_rfl) rfl
theorem en86 : zN 86 := enters_fn Tryz.func86 (by kernel_rfl) rfl
theorem en87 : zN 87 := enters_fn Tryz.func87 (by kernel_rfl) rfl
theorem en88 : zN 88 := enters_fn Tryz.func88 (by kernel_rfl) rfl
theorem en89 : zN 89 := enters_fn Tryz.func89 (by kernel_rfl) rfl
theorem en90 : zN 90 := enters_fn Tryz.func90 (by kernel_rfl) rfl
theorem en91 : zN 91 := enters_fn Tryz.func91 (by kernel_rfl) rfl
theorem en92 : zN 92 := enters_fn Tryz.func92 (by kernel_rfl) rfl
theorem en93 : zN 93 := enters_fn Tryz.func93 (by kernel_rfl) rfl
theorem en94 : zN 94 := enters_fn Tryz.func94 (by kernel_rfl) rfl
theorem en95 : zN 95 := enters_fn Tryz.func95 (by kernel_rfl) rfl
theorem en96 : zN 96 := enters_fn Tryz.func96 (by kernel_rfl) rfl
theorem en97 : zN 97 := enters_fn Tryz.func97 (by kernel_rfl) rfl
theorem en98 : zN 98 := enters_fn Tryz.func98 (by kernel_rfl) rfl
theorem en99 : zN 99 := enters_fn Tryz.func99 (by kernel_rfl) rfl
theorem en100 : zN 100 := enters_fn Tryz.func100 (by kernel_rfl) rfl
theorem en101 : zN 101 := enters_fn Tryz.func101 (by kernel_rfl) rfl
theorem en102 : zN 102 := enters_fn Tryz.func102 (by kernel_rfl) rfl
theorem en103 : zN 103 := enters_fn Tryz.func103 (by kernel_rfl) rfl
theorem en104 : zN 104 := enters_fn Tryz.func104 (by kernel_rfl) rfl
theorem en105 : zN 105 := enters_fn Tryz.func105 (by kernel_rfl) rfl
theorem en106 : zN 106 := enters_fn Tryz.func106 (by kernel_rfl) rfl
theorem en107 : zN 107 := enters_fn Tryz.func107 (by kernel_rfl) rfl
theorem en108 : zN 108 := enters_fn Tryz.func108 (by kernel_rfl) rfl
theorem en109 : zN 109 := enters_fn Tryz.func109 (by kernel_rfl) rfl
theorem en110 : zN 110 := enters_fn Tryz.func110 (by kernel_rfl) rfl
theorem en111 : zN 111 := enters_fn Tryz.func111 (by kernel_rfl) rfl
theorem en112 : zN 112 := enters_fn Tryz.func112 (by kernel_rfl) rfl
theorem en113 : zN 113 := enters_fn Tryz.func113 (by kernel_rfl) rfl
theorem en114 : zN 114 := enters_fn Tryz.func114 (by kernel_rfl) rfl
theorem en115 : zN 115 := enters_fn Tryz.func115 (by kernel_rfl) rfl
theorem en116 : zN 116 := enters_fn Tryz.func116 (by kernel_rfl) rfl
theorem en117 : zN 117 := enters_fn Tryz.func117 (by kernel_rfl) rfl
theorem en118 : zN 118 := enters_fn Tryz.func118 (by kernel_rfl) rfl
theorem en119 : zN 119 := enters_fn Tryz.func119 (by kernel_rfl) rfl
theorem en120 : zN 120 := enters_fn Tryz.func120 (by kernel_rfl) rfl
theorem en121 : zN 121 := enters_fn Tryz.func121 (by kernel_rfl) rfl
theorem en122 : zN 122 := enters_fn Tryz.func122 (by kernel_rfl) rfl
theorem en123 : zN 123 := enters_fn Tryz.func123 (by kernel_rfl) rfl
theorem en124 : zN 124 := enters_fn Tryz.func124 (by kernel_rfl) rfl
theorem en125 : zN 125 := enters_fn Tryz.func125 (by kernel_rfl) rfl
theorem en126 : zN 126 := enters_fn Tryz.func126 (by kernel_rfl) rfl
theorem en127 : zN 127 := enters_fn Tryz.func127 (by kernel_rfl) rfl
theorem en128 : zN 128 := enters_fn Tryz.func128 (by kernel_rfl) rfl
theorem en129 : zN 129 := enters_fn Tryz.func129 (by kernel_rfl) rfl
theorem en130 : zN 130 := enters_fn Tryz.func130 (by kernel_rfl) rfl
theorem en131 : zN 131 := enters_fn Tryz.func131 (by kernel_rfl) rfl
theorem en132 : zN 132 := enters_fn Tryz.func132 (by kernel_rfl) rfl
theorem en133 : zN 133 := enters_fn Tryz.func133 (by kernel_rfl) rfl
theorem en134 : zN 134 := enters_fn Tryz.func134 (by kernel_rfl) rfl
theorem en135 : zN 135 := enters_fn Tryz.func135 (by kernel_rfl) rfl
theorem en136 : zN 136 := enters_fn Tryz.func136 (by kernel_rfl) rfl
theorem en137 : zN 137 := enters_fn Tryz.func137 (by kernel_rfl) rfl
theorem en138 : zN 138 := enters_fn Tryz.func138 (by kernel_rfl) rfl
theorem en139 : zN 139 := enters_fn Tryz.func139 (by kernel_rfl) rfl
theorem en140 : zN 140 := enters_fn Tryz.func140 (by kernel_rfl) rfl
theorem en141 : zN 141 := enters_fn Tryz.func141 (by kernel_rfl) rfl
theorem en142 : zN 142 := enters_fn Tryz.func142 (by kernel_rfl) rfl
theorem en143 : zN 143 := enters_fn Tryz.func143 (by kernel_rfl) rfl
theorem en144 : zN 144 := enters_fn Tryz.func144 (by kernel_rfl) rfl
theorem en145 : zN 145 := enters_fn Tryz.func145 (by kernel_rfl) rfl
theorem en146 : zN 146 := enters_fn Tryz.func146 (by kernel_rfl) rfl
theorem en147 : zN 147 := enters_fn Tryz.func147 (by kernel_rfl) rfl
theorem en150 : zN 150 := enters_fn Tryz.func150 (by kernel_rfl) rfl
theorem tmx : Tryz.prog.follows .mixedOrders = true := by kernel_rfl
end Go.Proofs.YtakbgccddokbbaaGreatDoor
namespace Go.Proofs.YtakbgccddokbbaaGreatDoor
open Go.RowKit
section
variable {P : Program} {r : Option Nat} {C : Cx} {n : Nat × List Nat} {ops : Array Oper} {Q : Exit → Act → World → Prop} {rest : List Oper} {env : List (Nat × Value)} {R R0 R' : List Res} {Φ : List Fact}
  {d : Nat} {T T' : TypeId} {pos : String} {af : Array Edge} {x y z : Operand} {k e : TypeId} {b m : Nat} {f : Int → Int}
section
variable {P : Program} {C : Cx} {n : Nat × List Nat} {env : List (Nat × Value)} {R R0 : List Res} {Φ : List Fact} {T : TypeId} {x : Operand} {A : Option Addr} {e : TypeId} {s l cap k : Nat} {xs : List Value}
theorem PR.nilCheckO (hx : opv env x = some (.pointer (A.map (·.add k)))) (hD : Del (.row e s (.slice A l cap) l xs) R R0) (hk : k < xs.length) : PR P C n env R Φ (.nilCheck x) T (.pointer (A.map (·.add k))) := fun a' W he hs d pos af g => by
 obtain ⟨q1, _, _⟩ := hD.sep hs.sep
 obtain ⟨b, cur, rfl, _⟩ := row_form q1 hk
 simp [execOp, he.eval hx]
end
end
end Go.Proofs.YtakbgccddokbbaaGreatDoor
