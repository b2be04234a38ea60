/-
What comes in, by its type: numbers, slices, structs, slices of these.
-/
import Derived.Test.YtcppphgpbaablaaGreatDoorOpen
import Derived.Deep.Slices
import Derived.Lib.SmallJoins
namespace Go.Proofs.YtcppphgpbaablaaGreatDoor
set_option linter.unusedVariables false
open Go.RowKit Go.ChangeShapes Go.WideShapes Go.Joins

/-- A type's cells, read: plain data d, the cells that it has, what is known of the memory behind, what else is known of it. -/
def Opens (P : Program) (t : TypeId) {α : Type} (cs : α → List Value) (φ : α → List Fact) (sd : α → Prop) : Prop :=
  ∀ (H : Type) (enc : TypeId × Value → H) (w : World) (fuel : Nat) (l : List Value) (x : DataW H × List MemPlace), DataW.trod enc P w 0 (fun _ => true) true fuel t l = some x → ∃ d, l = cs d ∧ (∀ ψ ∈ φ d, ψ.p (fun _ => False) w) ∧ sd d
section
variable {P : Program} {t e : TypeId} {α β : Type} {cs : α → List Value} {φ : α → List Fact} {sd : α → Prop}
theorem Opens.int {k : IntKind} (ht : P.underlying t = some (.int k)) : Opens P t (fun n : Int => [.int k n]) (fun _ => []) (fun n => (Lit.int k n).wf = true) := fun H enc w fuel l x h => by
  obtain ⟨n, rfl, _, hw⟩ := DataW.trod_int ht h
  exact ⟨n, rfl, by simp, hw⟩
theorem u8_wf {n : Int} (h : (Lit.int .u8 n).wf = true) : ∃ x : UInt8, n = x.toNat := by
  simp [Lit.wf, IntKind.min, IntKind.max, IntKind.signed, IntKind.bits] at h
  exact ⟨UInt8.ofNat n.toNat, by simp; omega⟩
theorem Opens.u8 (ht : P.underlying t = some (.int .u8)) : Opens P t (fun n : UInt8 => [.int .u8 n.toNat]) (fun _ => []) (fun _ => True) := fun H enc w fuel l x h => by
  obtain ⟨n, rfl, _, hw⟩ := DataW.trod_int ht h
  obtain ⟨y, rfl⟩ := u8_wf hw
  exact ⟨y, rfl, by simp, trivial⟩
theorem Opens.bool (ht : P.underlying t = some .bool) : Opens P t (fun b : Bool => [.bool b]) (fun _ => []) (fun _ => True) := fun H enc w fuel l x h => by
  cases fuel with
  | zero => simp [DataW.trod] at h
  | succ n =>
    unfold DataW.trod at h
    rw [ht] at h
    split at h <;> simp_all
/-- The same, said otherwise. -/
theorem Opens.map (h : Opens P t cs φ sd) (f : α → β) {cs' : β → List Value} {φ' : β → List Fact} {sd' : β → Prop} (h1 : ∀ d, sd d → cs d = cs' (f d)) (h2 : ∀ d w, sd d → (∀ ψ ∈ φ d, ψ.p (fun _ => False) w) → ∀ ψ ∈ φ' (f d), ψ.p (fun _ => False) w) (h3 : ∀ d, sd d → sd' (f d)) : Opens P t cs' φ' sd' := fun H enc w fuel l x hx => by
  obtain ⟨d, rfl, hf, hs⟩ := h H enc w fuel l x hx
  exact ⟨f d, h1 d hs, h2 d w hs hf, h3 d hs⟩
theorem cells_at {w : World} {a : Addr} {s : Nat} {l : List Value} (h : w.cells? 0 a s = some l) : l.length = s ∧ ∀ (j : Nat) u, l[j]? = some u → w.cell? (a.add j) = some u := by
  obtain ⟨_, h2, h3⟩ := World.cells?_some h
  exact ⟨h2, fun j u hu => by
    have hj := (List.getElem?_eq_some_iff.1 hu).1
    have := h3 j (by omega)
    rw [this, hu]⟩
/-- A slice. -/
theorem Opens.slice (ht : P.underlying t = some (.slice e)) (s : Nat) (hs : P.cellsOf e = s) (h : Opens P e cs φ sd) (hl : ∀ d, (cs d).length = s) :
    Opens P t (fun z : (Option Addr × Nat) × List α => [.slice z.1.1 z.2.length z.1.2]) (fun z => .rd z.1.1 (z.2.flatMap cs) :: z.2.flatMap φ) (fun z => z.2.length ≤ maxLen ∧ z.2.length ≤ z.1.2 ∧ ∀ d ∈ z.2, sd d) := fun H enc w fuel l x hx => by
  rcases Go.Deep.open_slice ht hx with ⟨rfl, _⟩ | ⟨a, len, cap, m, n, D, Pl, rfl, _, hlc, hm, hmm, _, hel⟩
  · exact ⟨((none, 0), []), rfl, fun ψ hψ => by
      obtain rfl : ψ = _ := by simpa using hψ
      exact Fact.rd_nil _ _ _, Nat.zero_le _, Nat.zero_le _, fun d hd => by simp at hd⟩
  · have hmc : m = cap := by simpa using hmm
    subst hmc
    have key : ∀ k, k ≤ len → ∃ ds : List α, ds.length = k ∧ (Fact.rd (some a) (ds.flatMap cs)).p (fun _ => False) w ∧ (∀ ψ ∈ ds.flatMap φ, ψ.p (fun _ => False) w) ∧ ∀ d ∈ ds, sd d := by
      intro k
      induction k with
      | zero => exact fun _ => ⟨[], rfl, Fact.rd_nil _ _ _, by simp, by simp⟩
      | succ k ih =>
        intro hk
        obtain ⟨ds, h1, h2, h3, h4⟩ := ih (by omega)
        obtain ⟨cs', g1, g2⟩ := hel k (by omega)
        obtain ⟨d, rfl, g3, g4⟩ := h H enc w n cs' _ g2
        rw [hs] at g1
        obtain ⟨g5, g6⟩ := cells_at g1
        refine ⟨ds ++ [d], by simp [h1], fun j u hu => ?_, fun ψ hψ => ?_, fun x hx => ?_⟩
        · have hfl : (ds.flatMap cs).length = k * s := by
            rw [← h1]
            clear h1 h2 h3 h4 hk ih hu
            induction ds with
            | nil => simp
            | cons y ds ih => simp only [List.flatMap_cons, List.length_append, List.length_cons, hl, ih, Nat.add_mul]; omega
          rw [List.flatMap_append, List.flatMap_cons, List.flatMap_nil, List.append_nil] at hu
          by_cases hj : j < (ds.flatMap cs).length
          · rw [List.getElem?_append_left hj] at hu
            exact h2 j u hu
          · rw [List.getElem?_append_right (by omega), hfl] at hu
            have := g6 _ u hu
            rw [add_add, show k * s + (j - k * s) = j by omega] at this
            have hb := cell_lt this
            rw [add_block] at hb
            exact ⟨a, rfl, hb, id, this⟩
        · rw [List.flatMap_append] at hψ
          rcases List.mem_append.1 hψ with hψ | hψ
          · exact h3 ψ hψ
          · exact g3 ψ (by simpa using hψ)
        · rcases List.mem_append.1 hx with hx | hx
          · exact h4 x hx
          · obtain rfl : x = d := by simpa using hx
            exact g4
    obtain ⟨ds, h1, h2, h3, h4⟩ := key len (Nat.le_refl _)
    refine ⟨((some a, m), ds), by simp [h1], fun ψ hψ => ?_, by simp only; omega, by simp only; omega, h4⟩
    rcases List.mem_cons.1 hψ with rfl | hψ
    · exact h2
    · exact h3 ψ hψ
/-- A struct's fields, from a place on. -/
def OpensF (P : Program) (fs : List Field) (off N : Nat) {α : Type} (cs : α → List Value) (φ : α → List Fact) (sd : α → Prop) : Prop :=
  ∀ (H : Type) (enc : TypeId × Value → H) (w : World) (n : Nat) (l : List Value), l.length = N → (∀ f ∈ fs, ∃ y, DataW.trod enc P w 0 (fun _ => true) true n f.type ((l.drop f.offset).take (P.cellsOf f.type)) = some y) →
    ∃ d, l.drop off = cs d ∧ (∀ ψ ∈ φ d, ψ.p (fun _ => False) w) ∧ sd d
theorem OpensF.nil {N : Nat} : OpensF P [] N N (fun _ : Unit => []) (fun _ => []) (fun _ => True) := fun H enc w n l hl _ => ⟨(), by simp [← hl], by simp, trivial⟩
theorem OpensF.cons {f : Field} {fs : List Field} {off N s : Nat} {cs2 : β → List Value} {φ2 : β → List Fact} {sd2 : β → Prop} (hs : P.cellsOf f.type = s) (ho : f.offset = off) (h : Opens P f.type cs φ sd) (k : OpensF P fs (off + s) N cs2 φ2 sd2) :
    OpensF P (f :: fs) off N (fun d : α × β => cs d.1 ++ cs2 d.2) (fun d => φ d.1 ++ φ2 d.2) (fun d => sd d.1 ∧ sd2 d.2) := fun H enc w n l hl hx => by
  obtain ⟨y, hy⟩ := hx f (List.mem_cons_self ..)
  rw [hs, ho] at hy
  obtain ⟨d, h1, h2, h3⟩ := h H enc w n _ _ hy
  obtain ⟨d2, k1, k2, k3⟩ := k H enc w n l hl fun f hf => hx f (List.mem_cons_of_mem _ hf)
  refine ⟨(d, d2), ?_, fun ψ hψ => ?_, h3, k3⟩
  · show _ = cs d ++ cs2 d2
    rw [← h1, ← k1, ← List.drop_drop, List.take_append_drop]
  · rcases List.mem_append.1 hψ with hψ | hψ
    · exact h2 ψ hψ
    · exact k2 ψ hψ
theorem Opens.struct {fs : Array Field} {N : Nat} (ht : P.underlying t = some (.struct fs)) (hN : P.cellsOf t = N) (h : OpensF P fs.toList 0 N cs φ sd) : Opens P t cs φ sd := fun H enc w fuel l x hx => by
  obtain ⟨xs, n, _, _, hl, hlen, hf⟩ := DataW.trod_struct ht hx
  obtain ⟨d, h1, h2, h3⟩ := h H enc w n l (by rw [hl, hN]) fun f hm => by
    obtain ⟨i, hi⟩ := List.mem_iff_getElem?.1 hm
    have hi' : fs[i]? = some f := by simpa using hi
    have := hf i f hi'
    have hlt : i < xs.length := by rw [hlen]; exact (Array.getElem?_eq_some_iff.1 hi').1
    rw [List.getElem?_eq_getElem hlt] at this
    exact ⟨_, this⟩
  exact ⟨d, by simpa using h1, h2, h3⟩
/-- A struct that comes in. -/
theorem open_struct {fs : Array Field} {H : Type} {enc : TypeId × Value → H} {w : World} {r : Reach} {b0 : Nat} {v : Value} {y : DataW H} {p : List MemPlace} (ht : P.underlying t = some (.struct fs)) (ho : Opens P t cs φ sd)
    (hv : Value.okWide P w r b0 t v) (h : DataW.Trod enc P w 0 (fun _ => true) true t v y p) : ∃ d, v = .agg (cs d).toArray ∧ (∀ ψ ∈ φ d, ψ.p (fun _ => False) w) ∧ sd d := by
  obtain ⟨l, rfl, _⟩ := okWide_struct ht hv
  obtain ⟨fuel, hf⟩ := h
  obtain ⟨d, h1, h2, h3⟩ := ho H enc w fuel _ _ hf
  refine ⟨d, ?_, h2, h3⟩
  rw [← h1]
  simp [Value.cells]
/-- A slice that comes in. -/
theorem open_slice' {H : Type} {enc : TypeId × Value → H} {w : World} {r : Reach} {b0 : Nat} {v : Value} {y : DataW H} {p : List MemPlace} (ht : P.underlying t = some (.slice e)) (ho : Opens P t cs φ sd)
    (hv : Value.okWide P w r b0 t v) (h : DataW.Trod enc P w 0 (fun _ => true) true t v y p) : ∃ d, [v] = cs d ∧ (∀ ψ ∈ φ d, ψ.p (fun _ => False) w) ∧ sd d := by
  have hcl := okWide_slice ht hv
  obtain ⟨fuel, hf⟩ := h
  rw [hcl] at hf
  exact ho H enc w fuel _ _ hf
theorem flatMap_one {f : α → Value} (l : List α) : l.flatMap (fun x => [f x]) = l.map f := by induction l <;> simp_all
/-- Bytes. -/
theorem Opens.bytes (ht : P.underlying t = some (.slice e)) (he : P.underlying e = some (.int .u8)) (hc : P.cellsOf e = 1) :
    Opens P t (fun z : (Option Addr × Nat) × List UInt8 => [.slice z.1.1 z.2.length z.1.2]) (fun z => [.rd z.1.1 (u8s z.2)]) (fun z => z.2.length ≤ maxLen ∧ z.2.length ≤ z.1.2) :=
  (Opens.slice ht 1 hc (Opens.u8 he) (fun _ => rfl)).map id (fun _ _ => rfl) (fun d w _ h ψ hψ => by
    obtain rfl : ψ = _ := by simpa using hψ
    have := h _ (List.mem_cons_self ..)
    rw [flatMap_one] at this
    exact this) fun d h => ⟨h.1, h.2.1⟩
/-- Numbers. -/
theorem Opens.ints (ht : P.underlying t = some (.slice e)) (he : P.underlying e = some (.int .i64)) (hc : P.cellsOf e = 1) :
    Opens P t (fun z : (Option Addr × Nat) × List Int => [.slice z.1.1 z.2.length z.1.2]) (fun z => [.rd z.1.1 (z.2.map (Value.int .i64))]) (fun z => z.2.length ≤ maxLen ∧ z.2.length ≤ z.1.2 ∧ ∀ n ∈ z.2, (Lit.int .i64 n).wf = true) :=
  (Opens.slice ht 1 hc (Opens.int he) (fun _ => rfl)).map id (fun _ _ => rfl) (fun d w _ h ψ hψ => by
    obtain rfl : ψ = _ := by simpa using hψ
    have := h _ (List.mem_cons_self ..)
    rw [flatMap_one] at this
    exact this) fun d h => h
end
end Go.Proofs.YtcppphgpbaablaaGreatDoor
