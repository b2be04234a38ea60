/-
What a disk that comes in is: bytes that can be read, two numbers.
-/
import Derived.Test.YthlmleemapeohaaDiskA
import Derived.OpenShut
import Derived.ChangeSlices
import Derived.ChangeSame
import Derived.Lib.SmallJoins
import Derived.Below
namespace Go.Proofs.Ythlmleemapeohaa
open Go.RowKit Go.Joins Go.ChangeShapes

theorem cell_lt {w : World} {a : Addr} {v : Value} (h : w.cell? a = some v) : a.block < w.heap.size := by
  unfold World.cell? at h
  cases hb : w.heap[a.block]? with
  | none => simp [hb] at h
  | some o => exact (Array.getElem?_eq_some_iff.1 hb).1

/-- A row of bytes that came in. -/
theorem rd_bytes {w : World} {a : Addr} {n : Nat} {zs : List Int} (hn : n ≤ zs.length) (hc : ∀ i, i < zs.length → w.cell? (a.add i) = some (.int .u8 (zs.getD i 0))) (hw : ∀ z ∈ zs, (Lit.int .u8 z).wf = true) :
    ∃ l : List UInt8, l.length = n ∧ Rd w 0 w.heap.size (some a) (u8s l) := by
  refine ⟨(zs.take n).map fun z => UInt8.ofNat z.toNat, by simp; omega, fun j u hu => ?_⟩
  have hj : j < n := by
    have := (List.getElem?_eq_some_iff.1 hu).1
    simp [u8s] at this
    omega
  have hj' : j < zs.length := by omega
  have h := hc j hj'
  refine ⟨a, rfl, Nat.zero_le _, by have := cell_lt h; rwa [add_block] at this, ?_⟩
  rw [h]
  have hz := hw zs[j] (List.getElem_mem hj')
  simp [Lit.wf, IntKind.min, IntKind.max, IntKind.signed, IntKind.bits] at hz
  simp [u8s, List.getElem?_map, List.getElem?_take, hj, List.getElem?_eq_getElem hj'] at hu
  subst hu
  simp [List.getD_eq_getElem?_getD, List.getElem?_eq_getElem hj']
  omega

theorem open_disk {H : Type} {enc : TypeId × Value → H} {w : World} {r : Reach} {b0 : Nat} {v : Value} {y : DataW H} {p : List MemPlace} (hv : Value.okWide Try.prog w r b0 24 v)
    (h : DataW.Trod enc Try.prog w 0 (fun _ => true) true 24 v y p) :
    ∃ (A : Option Addr) (c : Nat) (d : Dk), v = .agg #[.slice A d.b.length c, .int .i64 d.s, .int .i64 d.r] ∧ Rd w 0 w.heap.size A (u8s d.b) ∧ d.b.length ≤ maxLen ∧ d.b.length ≤ c := by
  obtain ⟨c0, c1, c2, y0, y1, y2, m, rfl, rfl, rfl, hy0, hy1, hy2⟩ := open_agg3 Try.underlying24 (by kernel_rfl) (by kernel_rfl) hv h
  obtain ⟨s, e1, _, _⟩ := DataW.trod_int Try.underlying3 hy1
  obtain ⟨x, e2, _, _⟩ := DataW.trod_int Try.underlying3 hy2
  simp at e1 e2
  subst e1 e2
  rcases open_ints Try.underlying22 Try.underlying5 (by kernel_rfl) hy0 with ⟨hcs, _⟩ | ⟨a, l, c, zs, hcs, _, hl, hm, hz, _, hcell, hwz⟩
  · simp at hcs
    subst hcs
    exact ⟨none, 0, ⟨[], s, x⟩, rfl, Rd.nil, Nat.zero_le _, Nat.zero_le _⟩
  · simp at hcs hz
    subst hcs
    obtain ⟨bs, hb, hr⟩ := rd_bytes (n := l) (by omega) hcell hwz
    subst hb
    exact ⟨some a, c, ⟨bs, s, x⟩, rfl, hr, by simp only; omega, hl⟩

end Go.Proofs.Ythlmleemapeohaa
