/-
What slices that come in are: rows that can be read.
-/
import Derived.Test.YtcppphgpbaablaaDoorJm
import Derived.OpenShut
import Derived.ChangeSlices
import Derived.ChangeSame
import Derived.Below
namespace Go.Proofs.YtcppphgpbaablaaDoor
set_option linter.unusedVariables false
open Go.RowKit Go.ChangeShapes

theorem cell_lt {w : World} {a : Addr} {v : Value} (h : w.cell? a = some v) : a.block < w.heap.size := by
  unfold World.cell? at h
  cases hb : w.heap[a.block]? with
  | none => simp [hb] at h
  | some o => exact (Array.getElem?_eq_some_iff.1 hb).1

theorem rd_open {w : World} {a : Addr} {k : IntKind} {n : Nat} {zs : List Int} (hn : n ≤ zs.length) (hc : ∀ i, i < zs.length → w.cell? (a.add i) = some (.int k (zs.getD i 0))) :
    (Fact.rd (some a) ((zs.take n).map (Value.int k))).p (fun _ => False) w := by
  intro j u hu
  have hj : j < n := by
    have := (List.getElem?_eq_some_iff.1 hu).1
    simp at this
    omega
  have hj' : j < zs.length := by omega
  have h := hc j hj'
  refine ⟨a, rfl, by have := cell_lt h; rwa [add_block] at this, id, ?_⟩
  rw [h]
  simp [List.getElem?_map, List.getElem?_take, hj, List.getElem?_eq_getElem hj'] at hu
  subst hu
  simp [List.getD_eq_getElem?_getD, List.getElem?_eq_getElem hj']

theorem okWide_slice {P : Program} {w : World} {r : Reach} {b0 : Nat} {t e : TypeId} {v : Value} (ht : P.underlying t = some (.slice e)) (h : Value.okWide P w r b0 t v) : v.cells.toList = [v] := by
  simp only [Value.okWide, ht, Cell.okWide] at h
  cases v <;> simp_all [Cell.ok, Value.cells]

/-- A row of numbers that comes in. -/
theorem open_row {P : Program} {H : Type} {enc : TypeId × Value → H} {w : World} {r : Reach} {b0 : Nat} {t e : TypeId} {k : IntKind} {v : Value} {y : DataW H} {p : List MemPlace} (ht : P.underlying t = some (.slice e)) (he : P.underlying e = some (.int k)) (hc : P.cellsOf e = 1)
    (hv : Value.okWide P w r b0 t v) (h : DataW.Trod enc P w 0 (fun _ => true) true t v y p) :
    ∃ (A : Option Addr) (c : Nat) (l : List Int), v = .slice A l.length c ∧ (Fact.rd A (l.map (Value.int k))).p (fun _ => False) w ∧ l.length ≤ maxLen ∧ l.length ≤ c ∧ ∀ n ∈ l, (Lit.int k n).wf = true := by
  obtain ⟨fuel, hf⟩ := h
  have hcl := okWide_slice ht hv
  rcases open_ints ht he hc hf with ⟨hcs, _⟩ | ⟨a, l, c, zs, hcs, _, hl, hm, hz, _, hcell, hwz⟩
  · rw [hcl] at hcs
    simp at hcs
    subst hcs
    exact ⟨none, 0, [], rfl, Fact.rd_nil _ _ _, Nat.zero_le _, Nat.zero_le _, fun _ h => by simp at h⟩
  · rw [hcl] at hcs
    simp at hcs hz
    subst hcs
    have hln : (zs.take l).length = l := by simp; omega
    exact ⟨some a, c, zs.take l, by rw [hln], rd_open (by omega) hcell, by rw [hln]; omega, by rw [hln]; exact hl, fun n hn => hwz n (List.mem_of_mem_take hn)⟩

/-- Bytes that come in. -/
theorem open_u8s {P : Program} {H : Type} {enc : TypeId × Value → H} {w : World} {r : Reach} {b0 : Nat} {t e : TypeId} {v : Value} {y : DataW H} {p : List MemPlace} (ht : P.underlying t = some (.slice e)) (he : P.underlying e = some (.int .u8)) (hc : P.cellsOf e = 1)
    (hv : Value.okWide P w r b0 t v) (h : DataW.Trod enc P w 0 (fun _ => true) true t v y p) :
    ∃ (A : Option Addr) (c : Nat) (l : List UInt8), v = .slice A l.length c ∧ (Fact.rd A (u8s l)).p (fun _ => False) w ∧ l.length ≤ maxLen ∧ l.length ≤ c := by
  obtain ⟨A, c, l, rfl, h1, h2, h3, h4⟩ := open_row ht he hc hv h
  refine ⟨A, c, l.map fun z => UInt8.ofNat z.toNat, by simp, ?_, by simpa using h2, by simpa using h3⟩
  have e : u8s (l.map fun z => UInt8.ofNat z.toNat) = l.map (Value.int .u8) := by
    simp only [u8s, List.map_map]
    refine List.map_congr_left fun n hn => ?_
    have hz := h4 n hn
    simp [Lit.wf, IntKind.min, IntKind.max, IntKind.signed, IntKind.bits] at hz
    simp
    omega
  rw [e]
  exact h1
end Go.Proofs.YtcppphgpbaablaaDoor
