/-
What package-level variables hold, by the datum that they read as.
-/
import Derived.Test.YtcppphgpbaablaaDoorOpenG
import Derived.LaidMore
import Derived.Stop.Joined
import Derived.MakeChecks
namespace Go.Proofs.YtcppphgpbaablaaDoor
set_option linter.unusedVariables false
open Go.RowKit Go.ChangeShapes Go.WideShapes Go.Joins
/-- A type's cells, read as a datum: plain data d, the cells that it has, what is known of the memory behind, which datum it is. -/
def OpensX (P : Program) (t : TypeId) {α : Type} (cs : α → List Value) (φ : α → List Fact) (dt : α → DataW Unit → Prop) : Prop :=
  ∀ (w : World) (fuel : Nat) (l : List Value) (x : DataW Unit × List MemPlace), DataW.trod (fun _ => ()) P w 0 (fun _ => true) false fuel t l = some x → ∃ d, l = cs d ∧ (∀ ψ ∈ φ d, ψ.p (fun _ => False) w) ∧ dt d x.1
section
variable {P : Program} {t e : TypeId} {α β : Type} {cs : α → List Value} {φ : α → List Fact} {dt : α → DataW Unit → Prop}
theorem OpensX.int {k : IntKind} (ht : P.underlying t = some (.int k)) : OpensX P t (fun n : Int => [.int k n]) (fun _ => []) (fun n D => D = .lit (.int k n)) := fun w fuel l x h => by
  obtain ⟨n, rfl, hx, _⟩ := DataW.trod_int ht h
  exact ⟨n, rfl, by simp, by rw [hx]⟩
def All2 (dt : α → DataW Unit → Prop) (ds : List α) (Ds : List (DataW Unit)) : Prop := Ds.length = ds.length ∧ ∀ (i : Nat) d D, ds[i]? = some d → Ds[i]? = some D → dt d D
theorem All2.head {d : α} {ds : List α} {D : DataW Unit} {Ds : List (DataW Unit)} (h : All2 dt (d :: ds) (D :: Ds)) : dt d D ∧ All2 dt ds Ds :=
  ⟨h.2 0 d D rfl rfl, by simpa using h.1, fun i d' D' h1 h2 => h.2 (i + 1) d' D' (by simpa using h1) (by simpa using h2)⟩
theorem OpensX.array {n s : Nat} (ht : P.underlying t = some (.array n e)) (hs : P.cellsOf e = s) (hn : P.cellsOf t = n * s) (h : OpensX P e cs φ dt) (hl : ∀ d, (cs d).length = s) :
    OpensX P t (fun ds : List α => ds.flatMap cs) (fun ds => ds.flatMap φ) (fun ds D => ds.length = n ∧ ∃ Ds, D = .agg Ds ∧ All2 dt ds Ds) := fun w fuel l x hx => by
  obtain ⟨xs, m, _, rfl, hlen, hxs, hel⟩ := DataW.trod_array ht hx
  rw [hs] at hel
  rw [hn] at hlen
  have key : ∀ k, k ≤ n → ∃ ds : List α, ds.length = k ∧ l.take (k * s) = ds.flatMap cs ∧ (∀ ψ ∈ ds.flatMap φ, ψ.p (fun _ => False) w) ∧ ∀ (i : Nat) d D, ds[i]? = some d → (xs.map (·.1))[i]? = some D → dt d D := by
    intro k
    induction k with
    | zero => exact fun _ => ⟨[], rfl, by simp, by simp, by simp⟩
    | succ k ih =>
      intro hk
      obtain ⟨ds, h1, h2, h3, h4⟩ := ih (by omega)
      have h5 := hel k (by omega)
      rw [List.getElem?_eq_getElem (show k < xs.length by omega)] at h5
      obtain ⟨d, g1, g2, g3⟩ := h w m _ _ h5
      refine ⟨ds ++ [d], by simp [h1], by rw [Nat.add_mul, Nat.one_mul, List.take_add, h2, g1, List.flatMap_append]; simp, fun ψ hψ => ?_, fun i d' D' hd hD => ?_⟩
      · rw [List.flatMap_append] at hψ
        rcases List.mem_append.1 hψ with hψ | hψ
        · exact h3 ψ hψ
        · exact g2 ψ (by simpa using hψ)
      · by_cases hi : i < ds.length
        · rw [List.getElem?_append_left hi] at hd
          exact h4 i d' D' hd hD
        · rw [List.getElem?_append_right (by omega)] at hd
          have hi0 : i = k := by
            have := (List.getElem?_eq_some_iff.1 hd).1
            simp at this; omega
          subst hi0
          rw [h1, Nat.sub_self] at hd
          simp only [List.getElem?_cons_zero, Option.some.injEq] at hd
          subst hd
          rw [List.getElem?_map, List.getElem?_eq_getElem (show i < xs.length by omega)] at hD
          simp only [Option.map_some, Option.some.injEq] at hD
          subst hD
          exact g3
  obtain ⟨ds, h1, h2, h3, h4⟩ := key n (Nat.le_refl _)
  exact ⟨ds, by show l = ds.flatMap cs; rw [← h2, List.take_of_length_le (by omega)], h3, h1, _, rfl, by simp [h1, hxs], h4⟩
/-- A struct's fields, from a place on. -/
def OpensXF (P : Program) (fs : List Field) (off N : Nat) {α : Type} (cs : α → List Value) (φ : α → List Fact) (dt : α → List (DataW Unit) → Prop) : Prop :=
  ∀ (w : World) (n : Nat) (l : List Value) (Ds : List (DataW Unit)), l.length = N → Ds.length = fs.length → (∀ (i : Nat) f D, fs[i]? = some f → Ds[i]? = some D → ∃ pl, DataW.trod (fun _ => ()) P w 0 (fun _ => true) false n f.type ((l.drop f.offset).take (P.cellsOf f.type)) = some (D, pl)) →
    ∃ d, l.drop off = cs d ∧ (∀ ψ ∈ φ d, ψ.p (fun _ => False) w) ∧ dt d Ds
theorem OpensXF.nil {N : Nat} : OpensXF P [] N N (fun _ : Unit => []) (fun _ => []) (fun _ Ds => Ds = []) := fun w n l Ds hl h1 _ => ⟨(), by simp [← hl], by simp, by simpa using h1⟩
theorem OpensXF.cons {f : Field} {fs : List Field} {off N s : Nat} {cs2 : β → List Value} {φ2 : β → List Fact} {dt2 : β → List (DataW Unit) → Prop} (hs : P.cellsOf f.type = s) (ho : f.offset = off) (h : OpensX P f.type cs φ dt) (k : OpensXF P fs (off + s) N cs2 φ2 dt2) :
    OpensXF P (f :: fs) off N (fun d : α × β => cs d.1 ++ cs2 d.2) (fun d => φ d.1 ++ φ2 d.2) (fun d Ds => ∃ D Ds', Ds = D :: Ds' ∧ dt d.1 D ∧ dt2 d.2 Ds') := fun w n l Ds hl hD hx => by
  match Ds, hD with
  | D :: Ds', hD =>
    obtain ⟨pl, hy⟩ := hx 0 f D rfl rfl
    rw [hs, ho] at hy
    obtain ⟨d, h1, h2, h3⟩ := h w n _ _ hy
    obtain ⟨d2, k1, k2, k3⟩ := k w n l Ds' hl (by simpa using hD) fun i f' D' hf hD' => hx (i + 1) f' D' (by simpa using hf) (by simpa using hD')
    refine ⟨(d, d2), ?_, fun ψ hψ => ?_, D, Ds', rfl, h3, k3⟩
    · show _ = cs d ++ cs2 d2
      rw [← h1, ← k1, ← List.drop_drop, List.take_append_drop]
    · rcases List.mem_append.1 hψ with hψ | hψ
      · exact h2 ψ hψ
      · exact k2 ψ hψ
theorem OpensX.struct {fs : Array Field} {N : Nat} {dtF : α → List (DataW Unit) → Prop} (ht : P.underlying t = some (.struct fs)) (hN : P.cellsOf t = N) (h : OpensXF P fs.toList 0 N cs φ dtF) : OpensX P t cs φ (fun d D => ∃ Ds, D = .agg Ds ∧ dtF d Ds) := fun w fuel l x hx => by
  obtain ⟨xs, n, _, rfl, hl, hlen, hf⟩ := DataW.trod_struct ht hx
  obtain ⟨d, h1, h2, h3⟩ := h w n l (xs.map (·.1)) (by rw [hl, hN]) (by simp [hlen]) fun i f D hfi hD => by
    have hi' : fs[i]? = some f := by simpa using hfi
    have := hf i f hi'
    rw [List.getElem?_map] at hD
    cases hx : xs[i]? with
    | none => rw [hx] at hD; cases hD
    | some y =>
      rw [hx] at hD this
      simp only [Option.map_some, Option.some.injEq] at hD
      subst hD
      exact ⟨y.2, this⟩
  exact ⟨d, by simpa using h1, h2, _, rfl, h3⟩
/-- A package-level variable that reads as a datum. -/
theorem laid_rd {w : World} {n : String} {d : DataW Unit} {ps : List MemPlace} {r : List (String × DataW Unit)} {g : Nat} {ty : TypeId} (h : DataW.LaidVars P w ((n, d) :: r) ps) (hg : P.globalNamed n = some g) (ht : (P.globals[g]?).map (·.type) = some ty) (ho : OpensX P ty cs φ dt) :
    (∃ y, dt y d ∧ (Fact.rd (some ⟨g, 0, none⟩) (cs y)).p (fun _ => False) w ∧ (∀ ψ ∈ φ y, ψ.p (fun _ => False) w)) ∧ ∃ q, DataW.LaidVars P w r q := by
  obtain ⟨g0, t0, cs0, f0, p0, q0, hg0, ht0, hv0, hd0, hr, _⟩ := h
  obtain rfl := Option.some.inj (hg.symm.trans hg0)
  obtain rfl := Option.some.inj (ht.symm.trans ht0)
  obtain ⟨y, h1, h2, h3⟩ := ho w f0 _ _ hd0
  refine ⟨⟨y, h3, fun j u hu => ?_, h2⟩, q0, hr⟩
  have hc := World.var?_cell hg hv0 j
  have hcell : w.cell? ⟨g, j, none⟩ = some u := by
    rw [← h1] at hu
    have : cs0[j]? = some u := by simpa using hu
    rw [← this]
    simpa using hc
  have e : (⟨g, 0, none⟩ : Addr).add j = ⟨g, j, none⟩ := by unfold Addr.add; split <;> simp_all
  exact ⟨⟨g, 0, none⟩, rfl, by have := cell_lt hcell; exact this, id, by rw [e]; exact hcell⟩
end
end Go.Proofs.YtcppphgpbaablaaDoor
