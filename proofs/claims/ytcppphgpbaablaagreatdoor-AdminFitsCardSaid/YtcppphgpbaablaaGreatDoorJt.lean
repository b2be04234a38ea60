/-
The logic of walks: jumps to labels, and states between two parts, when ranges over functions have left marks.
Conditions: none; no program in sight.
-/
import Derived.Test.YtcppphgpbaablaaGreatDoorJr
namespace Go.Proofs.YtcppphgpbaablaaGreatDoor
set_option linter.unusedVariables false
open Go.RowKit
section
variable {P : Program} {r : Option Nat} {C : Cx} {n : Nat × List Nat} {Q : Exit → Act → World → Prop} {env : List (Nat × Value)} {R : List Res} {Φ : List Fact} {c : Code}
theorem Jq.jmpBN {σ : Type} {N : σ → Nat × List Nat} {E : σ → List (Nat × Value)} {Rs : σ → List Res} {Φs : σ → List Fact} {μ : σ → Nat} {s : σ} {l : Nat} (s' : σ) (hn : N s' = n) (hμ : μ s' < μ s) (he : ESub (E s') env) (hr : Rs s' = R) (hf : FSub (Φs s') Φ) :
    Jq C n (Exit.jump l (fun a W => ∃ s', μ s' < μ s ∧ Env (N s') (E s') a ∧ Sat C (Rs s') (Φs s') W) Q) (.goto l) env R Φ := fun a W h1 h2 => by
  subst hr hn
  exact ⟨rfl, s', hμ, h1.sub he, h2.sub hf⟩
theorem Jq.jmpAN {σ : Type} {N : σ → Nat × List Nat} {E : σ → List (Nat × Value)} {Rs : σ → List Res} {Φs : σ → List Fact} {l : Nat} (s' : σ) (hn : N s' = n) (he : ESub (E s') env) (hr : Rs s' = R) (hf : FSub (Φs s') Φ) :
    Jq C n (Exit.jump l (fun a W => ∃ s', Env (N s') (E s') a ∧ Sat C (Rs s') (Φs s') W) Q) (.goto l) env R Φ := fun a W h1 h2 => by
  subst hr hn
  exact ⟨rfl, s', h1.sub he, h2.sub hf⟩
theorem Jc.midN {c' : Code} {σ : Type} (N : σ → Nat × List Nat) (E : σ → List (Nat × Value)) (Rs : σ → List Res) (Φs : σ → List Fact) (first : Jc P r C n (Exit.then (fun a W => ∃ s, Env (N s) (E s) a ∧ Sat C (Rs s) (Φs s) W) Q) c env R Φ)
    (rest : ∀ s, Jc P r C (N s) Q c' (E s) (Rs s) (Φs s)) : Jc P r C n Q (.seq c c') env R Φ := fun a W he hs => by
  refine wpIn_seq (wpIn_mono (first a W he hs) fun e a' W' h => ?_)
  cases e with
  | normal => obtain ⟨s, h1, h2⟩ := h; exact rest s a' W' h1 h2
  | ret => exact h
  | exit id => exact h
  | goto l => exact h
  | panic ch => exact h
  | outgrown => exact h
theorem Jq.midN {σ : Type} {N : σ → Nat × List Nat} {E : σ → List (Nat × Value)} {Rs : σ → List Res} {Φs : σ → List Fact} (s : σ) (hn : N s = n) (he : ESub (E s) env) (hr : Rs s = R) (hf : FSub (Φs s) Φ) : Jq C n (Exit.then (fun a W => ∃ s, Env (N s) (E s) a ∧ Sat C (Rs s) (Φs s) W) Q) .normal env R Φ := fun a W h1 h2 => by
  subst hr hn
  exact ⟨s, h1.sub he, h2.sub hf⟩
theorem Jc.atN {σ : Type} {N : σ → Nat × List Nat} {E : σ → List (Nat × Value)} {Rs : σ → List Res} {Φs : σ → List Fact} (h : ∀ s, Jc P r C (N s) Q c (E s) (Rs s) (Φs s)) (s : σ) (hn : N s = n) (he : ESub (E s) env) (hr : Rs s = R) (hf : FSub (Φs s) Φ) : Jc P r C n Q c env R Φ := by
  subst hr hn
  exact Jc.less he hf (h s)
/-- A scope with one label, which may be reached with other marks. -/
theorem Jc.scopeN {σ : Type} (N : σ → Nat × List Nat) (E : σ → List (Nat × Value)) (Rs : σ → List Res) (Φs : σ → List Fact) (μ : σ → Nat) {l : Nat} {B : Code} (hl : findLabel c l = some (.seq .skip B))
    (pass : ∀ s, Jc P none C (N s) (Exit.jump l (fun a W => ∃ s', μ s' < μ s ∧ Env (N s') (E s') a ∧ Sat C (Rs s') (Φs s') W) Q) B (E s) (Rs s) (Φs s))
    (first : (∀ s, Jc P none C (N s) (Exit.jump l (fun a W => ∃ s', Env (N s') (E s') a ∧ Sat C (Rs s') (Φs s') W) Q) B (E s) (Rs s) (Φs s)) →
      Jc P none C n (Exit.jump l (fun a W => ∃ s', Env (N s') (E s') a ∧ Sat C (Rs s') (Φs s') W) Q) c env R Φ) : Jc P none C n Q (.scope c) env R Φ := fun a W he hs => by
  have hm : ∀ (x : Act × World), ∃ m : Nat, ∀ s, Env (N s) (E s) x.1 → Sat C (Rs s) (Φs s) x.2 → m ≤ μ s ∧ ∃ s', Env (N s') (E s') x.1 ∧ Sat C (Rs s') (Φs s') x.2 ∧ μ s' = m := fun x => by
    by_cases h : ∃ s, Env (N s) (E s) x.1 ∧ Sat C (Rs s) (Φs s) x.2
    · obtain ⟨s, h1, h2⟩ := h
      obtain ⟨m, ⟨s', h3, h4, h5⟩, h6⟩ := least_of (p := fun m => ∃ s, Env (N s) (E s) x.1 ∧ Sat C (Rs s) (Φs s) x.2 ∧ μ s = m) (μ s) ⟨s, h1, h2, rfl⟩
      exact ⟨m, fun t h7 h8 => ⟨h6 _ ⟨t, h7, h8, rfl⟩, s', h3, h4, h5⟩⟩
    · exact ⟨0, fun s h1 h2 => (h ⟨s, h1, h2⟩).elim⟩
  obtain ⟨f, hf⟩ := Classical.axiomOfChoice hm
  refine wpIn_wide.2 (wp_scope_jumps l (fun a W => ∃ s', Env (N s') (E s') a ∧ Sat C (Rs s') (Φs s') W) (fun a W => f (a, W)) hl (wpIn_wide.1 (first (fun s => ?_) a W he hs)) ?_)
  · intro a' W' h1 h2
    refine wpIn_mono (pass s a' W' h1 h2) fun e a2 W2 hq => ?_
    cases e with
    | goto l' => exact ⟨hq.1, let ⟨s', _, h3, h4⟩ := hq.2; ⟨s', h3, h4⟩⟩
    | normal => exact hq
    | exit id => exact hq
    | ret => exact hq
    | panic ch => exact hq
    | outgrown => exact hq
  · rintro a' W' ⟨s, h1, h2⟩
    obtain ⟨_, t, h3, h4, h5⟩ := hf (a', W') s h1 h2
    refine wp_seq (wp_skip ?_)
    refine wpIn_wide.1 (wpIn_mono (pass t a' W' h3 h4) fun e a2 W2 hq => ?_)
    cases e with
    | goto l' =>
      obtain ⟨hl', s', hlt, h6, h7⟩ := hq
      exact ⟨hl', ⟨s', h6, h7⟩, by
        show f (a2, W2) < f (a', W')
        have := (hf (a2, W2) s' h6 h7).1
        omega⟩
    | normal => exact hq
    | exit id => exact hq
    | ret => exact hq
    | panic ch => exact hq
    | outgrown => exact hq
theorem Jq.drop {q : Res} {x : Exit} {R' : List Res} (hd : Del q R R') (k : Jq C n Q x env R' Φ) : Jq C n Q x env R Φ := fun a W he hs => k a W he (hs.take (rs := [q]) ⟨_, hd, rfl⟩)
theorem Sat.takeL {rs R' : List Res} {W : World} (h : Sat C R Φ W) (ht : Take rs R R') : Sat C rs Φ W := by
  obtain ⟨q1, q2⟩ := ht.sep h.sep
  exact ⟨h.ev, q1.less fun b hb => .inl hb, fun b hb => h.ours b ((ht.own b).2 (.inl hb)), h.x0, fun φ hφ => φ.fr _ _ W W (h.facts φ hφ) (Foreign.refl _ _) fun b hb => .inl (hb.imp id fun h => (ht.own b).2 (.inl h))⟩
/-- Less is known, and less is one's own. -/
theorem Jq.lessR {x : Exit} {rs R' : List Res} (ht : Take rs R R') (k : Jq C n Q x env rs Φ) : Jq C n Q x env R Φ := fun a W he hs => k a W he (hs.takeL ht)
theorem Jc.lessR {rs R' : List Res} (ht : Take rs R R') (k : Jc P r C n Q c env rs Φ) : Jc P r C n Q c env R Φ := fun a W he hs => k a W he (hs.takeL ht)
theorem Jl.lessR {ops : Array Oper} {rest : List Oper} {rs R' : List Res} (ht : Take rs R R') (k : Jl P r C n ops Q rest env rs Φ) : Jl P r C n ops Q rest env R Φ := fun a W he hs => k a W he (hs.takeL ht)
theorem Jq.midT {σ : Type} {E : σ → List (Nat × Value)} {Rs : σ → List Res} {Φs : σ → List Fact} {R' : List Res} (s : σ) (he : ESub (E s) env) (ht : Take (Rs s) R R') (hf : FSub (Φs s) Φ) : Jq C n (Exit.then (fun a W => ∃ s, Env n (E s) a ∧ Sat C (Rs s) (Φs s) W) Q) .normal env R Φ :=
  Jq.lessR ht (Jq.mid s he rfl hf)
theorem Jq.againT {K : Exit → Act → World → Prop} {σ : Type} {E : σ → List (Nat × Value)} {Rs : σ → List Res} {Φs : σ → List Fact} {μ : σ → Nat} {s : σ} {R' : List Res} (s' : σ) (hμ : μ s' < μ s) (he : ESub (E s') env) (ht : Take (Rs s') R R') (hf : FSub (Φs s') Φ) :
    Jq C n (Exit.then (fun a W => ∃ s', μ s' < μ s ∧ Env n (E s') a ∧ Sat C (Rs s') (Φs s') W) K) .normal env R Φ := Jq.lessR ht (Jq.again s' hμ he rfl hf)
/-- To look at a goal while a walk is typed: nothing but what is known. -/
def Peek (env : List (Nat × Value)) (R : List Res) (Φ : List Fact) : Prop := env.length + R.length + Φ.length = 0 ∧ False
theorem Jc.peek {c : Code} (h : Peek env R Φ) : Jc P r C n Q c env R Φ := h.2.elim
theorem Jl.peek {ops : Array Oper} {rest : List Oper} (h : Peek env R Φ) : Jl P r C n ops Q rest env R Φ := h.2.elim
theorem Jq.peek {x : Exit} (h : Peek env R Φ) : Jq C n Q x env R Φ := h.2.elim
end
end Go.Proofs.YtcppphgpbaablaaGreatDoor
