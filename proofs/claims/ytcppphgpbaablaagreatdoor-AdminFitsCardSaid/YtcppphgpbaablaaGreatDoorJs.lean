/-
The logic of walks: jumps to labels.
Conditions: none; no program in sight.
-/
import Derived.Test.YtcppphgpbaablaaGreatDoorJm
namespace Go.Proofs.YtcppphgpbaablaaGreatDoor
set_option linter.unusedVariables false
open Go.RowKit

theorem least_of {p : Nat → Prop} : ∀ n, p n → ∃ m, p m ∧ ∀ k, p k → m ≤ k := by
  intro n
  induction n using Nat.strongRecOn with
  | _ n ih =>
    intro hn
    by_cases h : ∃ k, k < n ∧ p k
    · obtain ⟨k, hk, hp⟩ := h
      exact ih k hk hp
    · exact ⟨n, hn, fun k hk => Nat.le_of_not_lt fun hlt => h ⟨k, hlt, hk⟩⟩

section
variable {P : Program} {r : Option Nat} {C : Cx} {n : Nat × List Nat} {Q : Exit → Act → World → Prop} {env : List (Nat × Value)} {R : List Res} {Φ : List Fact} {c : Code}
theorem Jq.jmpN {l : Nat} {J : Act → World → Prop} (h : Jq C n Q .normal env R Φ) : Jq C n (Exit.jump l J Q) .normal env R Φ := h
theorem Jq.jmpR {l : Nat} {J : Act → World → Prop} (h : Jq C n Q .ret env R Φ) : Jq C n (Exit.jump l J Q) .ret env R Φ := h
theorem Jq.jmpX {l id : Nat} {J : Act → World → Prop} (h : Jq C n Q (.exit id) env R Φ) : Jq C n (Exit.jump l J Q) (.exit id) env R Φ := h
/-- A sequence, with a family of states between. -/
theorem Jc.mid {c' : Code} {σ : Type} (E : σ → List (Nat × Value)) (Rs : σ → List Res) (Φs : σ → List Fact) (first : Jc P r C n (Exit.then (fun a W => ∃ s, Env n (E s) a ∧ Sat C (Rs s) (Φs s) W) Q) c env R Φ)
    (rest : ∀ s, Jc P r C n Q c' (E s) (Rs s) (Φs s)) : Jc P r C n Q (.seq c c') env R Φ := fun a W he hs => by
  refine wpIn_seq (wpIn_mono (first a W he hs) fun e a' W' h => ?_)
  cases e with
  | normal => obtain ⟨s, h1, h2⟩ := h; exact rest s a' W' h1 h2
  | ret => exact h
  | exit id => exact h
  | goto l => exact h
  | panic ch => exact h
  | outgrown => exact h
theorem Jq.mid {σ : Type} {E : σ → List (Nat × Value)} {Rs : σ → List Res} {Φs : σ → List Fact} (s : σ) (he : ESub (E s) env) (hr : Rs s = R) (hf : FSub (Φs s) Φ) : Jq C n (Exit.then (fun a W => ∃ s, Env n (E s) a ∧ Sat C (Rs s) (Φs s) W) Q) .normal env R Φ := fun a W h1 h2 => by
  subst hr
  exact ⟨s, h1.sub he, h2.sub hf⟩
theorem Jq.fact0 (φ' : Fact) {x : Exit} (h : ∀ X W, φ'.p X W) (k : Jq C n Q x env R (φ' :: Φ)) : Jq C n Q x env R Φ := fun a W h1 h2 => k a W h1 (h2.add (h _ _))
/-- A jump back. -/
theorem Jq.jmpB {σ : Type} {E : σ → List (Nat × Value)} {Rs : σ → List Res} {Φs : σ → List Fact} {μ : σ → Nat} {s : σ} {l : Nat} (s' : σ) (hμ : μ s' < μ s) (he : ESub (E s') env) (hr : Rs s' = R) (hf : FSub (Φs s') Φ) :
    Jq C n (Exit.jump l (fun a W => ∃ s', μ s' < μ s ∧ Env n (E s') a ∧ Sat C (Rs s') (Φs s') W) Q) (.goto l) env R Φ := fun a W h1 h2 => by
  subst hr
  exact ⟨rfl, s', hμ, h1.sub he, h2.sub hf⟩
theorem Jq.jmpA {σ : Type} {E : σ → List (Nat × Value)} {Rs : σ → List Res} {Φs : σ → List Fact} {l : Nat} (s' : σ) (he : ESub (E s') env) (hr : Rs s' = R) (hf : FSub (Φs s') Φ) :
    Jq C n (Exit.jump l (fun a W => ∃ s', Env n (E s') a ∧ Sat C (Rs s') (Φs s') W) Q) (.goto l) env R Φ := fun a W h1 h2 => by
  subst hr
  exact ⟨rfl, s', h1.sub he, h2.sub hf⟩
/-- A state that is one of a family's. -/
theorem Jc.at_ {σ : Type} {E : σ → List (Nat × Value)} {Rs : σ → List Res} {Φs : σ → List Fact} (h : ∀ s, Jc P r C n Q c (E s) (Rs s) (Φs s)) (s : σ) (he : ESub (E s) env) (hr : Rs s = R) (hf : FSub (Φs s) Φ) : Jc P r C n Q c env R Φ := by
  subst hr
  exact Jc.less he hf (h s)

/-- A scope with one label: what stands behind the label is walked once, from any of the states in which it is reached. -/
theorem Jc.scope {σ : Type} (E : σ → List (Nat × Value)) (Rs : σ → List Res) (Φs : σ → List Fact) (μ : σ → Nat) {l : Nat} {B : Code} (hl : findLabel c l = some (.seq .skip B))
    (pass : ∀ s, Jc P none C n (Exit.jump l (fun a W => ∃ s', μ s' < μ s ∧ Env n (E s') a ∧ Sat C (Rs s') (Φs s') W) Q) B (E s) (Rs s) (Φs s))
    (first : (∀ s, Jc P none C n (Exit.jump l (fun a W => ∃ s', Env n (E s') a ∧ Sat C (Rs s') (Φs s') W) Q) B (E s) (Rs s) (Φs s)) →
      Jc P none C n (Exit.jump l (fun a W => ∃ s', Env n (E s') a ∧ Sat C (Rs s') (Φs s') W) Q) c env R Φ) : Jc P none C n Q (.scope c) env R Φ := fun a W he hs => by
  have hm : ∀ (x : Act × World), ∃ m : Nat, ∀ s, Env n (E s) x.1 → Sat C (Rs s) (Φs s) x.2 → m ≤ μ s ∧ ∃ s', Env n (E s') x.1 ∧ Sat C (Rs s') (Φs s') x.2 ∧ μ s' = m := fun x => by
    by_cases h : ∃ s, Env n (E s) x.1 ∧ Sat C (Rs s) (Φs s) x.2
    · obtain ⟨s, h1, h2⟩ := h
      obtain ⟨m, ⟨s', h3, h4, h5⟩, h6⟩ := least_of (p := fun m => ∃ s, Env n (E s) x.1 ∧ Sat C (Rs s) (Φs s) x.2 ∧ μ s = m) (μ s) ⟨s, h1, h2, rfl⟩
      exact ⟨m, fun t h7 h8 => ⟨h6 _ ⟨t, h7, h8, rfl⟩, s', h3, h4, h5⟩⟩
    · exact ⟨0, fun s h1 h2 => (h ⟨s, h1, h2⟩).elim⟩
  obtain ⟨f, hf⟩ := Classical.axiomOfChoice hm
  refine wpIn_wide.2 (wp_scope_jumps l (fun a W => ∃ s', Env n (E s') a ∧ Sat C (Rs s') (Φs s') W) (fun a W => f (a, W)) hl (wpIn_wide.1 (first (fun s => ?_) a W he hs)) ?_)
  · intro a' W' h1 h2
    refine wpIn_mono (pass s a' W' h1 h2) fun e a2 W2 hq => ?_
    cases e with
    | goto l' => exact ⟨hq.1, let ⟨s', _, h3, h4⟩ := hq.2; ⟨s', h3, h4⟩⟩
    | normal => exact hq
    | exit id => exact hq
    | ret => exact hq
    | panic ch => exact hq
    | outgrown => exact hq
  · rintro a' W' ⟨s, h1, h2⟩
    obtain ⟨_, t, h3, h4, h5⟩ := hf (a', W') s h1 h2
    refine wp_seq (wp_skip ?_)
    refine wpIn_wide.1 (wpIn_mono (pass t a' W' h3 h4) fun e a2 W2 hq => ?_)
    cases e with
    | goto l' =>
      obtain ⟨hl', s', hlt, h6, h7⟩ := hq
      exact ⟨hl', ⟨s', h6, h7⟩, by
        show f (a2, W2) < f (a', W')
        have := (hf (a2, W2) s' h6 h7).1
        omega⟩
    | normal => exact hq
    | exit id => exact hq
    | ret => exact hq
    | panic ch => exact hq
    | outgrown => exact hq
end
end Go.Proofs.YtcppphgpbaablaaGreatDoor
