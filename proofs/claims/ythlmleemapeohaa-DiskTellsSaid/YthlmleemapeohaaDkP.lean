/-
Disks, plainly.
-/
import Derived.Test.YthlmleemapeohaaJm
namespace Go.Proofs.Ythlmleemapeohaa
set_option linter.unusedVariables false
open Go.RowKit
structure Dk where
  b : List UInt8
  s : Int
  r : Int
def Dk.room (d : Dk) : Int := min (max d.r 0) 65536
def Dk.own (d : Dk) : Dk := ⟨d.b.take d.room.toNat, min (max d.s 0) (d.b.take d.room.toNat).length, d.room⟩
theorem Dk.own_len (d : Dk) : d.own.b.length ≤ d.b.length := by simp [Dk.own]; omega
theorem Dk.own_fit (d : Dk) : (d.own.b.length : Int) ≤ d.own.r ∧ 0 ≤ d.own.s ∧ d.own.s ≤ d.own.b.length ∧ 0 ≤ d.own.r ∧ d.own.r ≤ 65536 := by
  simp [Dk.own, Dk.room]; omega
/-- A disk that counts as it is. -/
def Dk.ok (d : Dk) : Prop := (d.b.length : Int) ≤ d.r ∧ 0 ≤ d.s ∧ d.s ≤ d.b.length ∧ d.r ≤ 65536
theorem Dk.own_ok (d : Dk) : d.own.ok := by have := d.own_fit; exact ⟨this.1, this.2.1, this.2.2.1, this.2.2.2.2⟩
theorem Dk.ok_own {d : Dk} (h : d.ok) : d.own = d := by
  obtain ⟨b, s, r⟩ := d
  obtain ⟨h1, h2, h3, h4⟩ := h
  simp only at h1 h2 h3 h4
  have h0 : (min (max r 0) 65536) = r := by omega
  simp only [Dk.own, Dk.room, h0]
  rw [List.take_of_length_le (by omega)]
  congr 1
  omega
theorem Dk.own_own (d : Dk) : d.own.own = d.own := Dk.ok_own d.own_ok
def Dk.sync (d : Dk) : Dk := ⟨d.own.b, d.own.b.length, d.own.r⟩
def Dk.left (d : Dk) (keep : Int) : Nat := (d.own.s + min (max keep 0) (d.own.b.length - d.own.s)).toNat
def Dk.crash (d : Dk) (keep : Int) : Dk := ⟨d.own.b.take (d.left keep), d.left keep, d.own.r⟩
theorem Dk.left_le (d : Dk) (keep : Int) : d.left keep ≤ d.own.b.length := by
  have := d.own_fit
  unfold Dk.left
  omega
theorem Dk.left_eq (d : Dk) (keep : Int) : (d.left keep : Int) = d.own.s + min (max keep 0) (d.own.b.length - d.own.s) := by
  have := d.own_fit
  unfold Dk.left
  omega
theorem Dk.crash_len (d : Dk) (keep : Int) : (d.crash keep).b.length = d.left keep := by
  have := d.left_le keep
  simp [Dk.crash]; omega
theorem Dk.sync_ok (d : Dk) : d.sync.ok := by have := d.own_fit; refine ⟨?_, ?_, ?_, ?_⟩ <;> simp only [Dk.sync] <;> omega
theorem Dk.crash_ok (d : Dk) (keep : Int) : (d.crash keep).ok := by
  have := d.own_fit
  have h1 := d.left_le keep
  have h2 := d.crash_len keep
  refine ⟨?_, ?_, ?_, ?_⟩
  · rw [h2]; simp only [Dk.crash]; omega
  · simp only [Dk.crash]; omega
  · rw [h2]; simp only [Dk.crash]; omega
  · simp only [Dk.crash]; omega
def Dk.fits (d : Dk) (b : List UInt8) : Prop := ((d.own.b ++ b).length : Int) ≤ d.own.r
instance (d : Dk) (b : List UInt8) : Decidable (d.fits b) := by unfold Dk.fits; infer_instance
def Dk.app (d : Dk) (b : List UInt8) : Dk := if d.fits b then ⟨d.own.b ++ b, d.own.s, d.own.r⟩ else d.own
def Dk.appE (d : Dk) (b : List UInt8) : Int := if d.fits b then 0 else 30
def Dk.swap (d : Dk) (b : List UInt8) : Dk := if (b.length : Int) ≤ d.own.r then ⟨b, b.length, d.own.r⟩ else d.own
def Dk.swapE (d : Dk) (b : List UInt8) : Int := if (b.length : Int) ≤ d.own.r then 0 else 30
def Dk.new (room : Int) : Dk := ⟨[], 0, min (max room 0) 65536⟩
theorem new_own (room : Int) : (⟨[], 0, room⟩ : Dk).own = Dk.new room := by
  unfold Dk.own Dk.new Dk.room
  simp
theorem Dk.app_ok (d : Dk) (b : List UInt8) : (d.app b).ok := by
  unfold Dk.app
  have := d.own_fit
  split
  · rename_i h
    unfold Dk.fits at h
    refine ⟨h, this.2.1, ?_, this.2.2.2.2⟩
    simp only [List.length_append]; omega
  · exact d.own_ok
theorem Dk.swap_ok (d : Dk) (b : List UInt8) : (d.swap b).ok := by
  unfold Dk.swap
  have := d.own_fit
  split
  · rename_i h
    exact ⟨h, by simp only; omega, Int.le_refl _, this.2.2.2.2⟩
  · exact d.own_ok
abbrev OAd := Option Addr × Nat
def Dk.cs (d : Dk) (x : OAd) : List Value := [.slice x.1 d.b.length x.2, .int .i64 d.s, .int .i64 d.r]
def Dk.v (d : Dk) (x : OAd) : Value := .agg #[.slice x.1 d.b.length x.2, .int .i64 d.s, .int .i64 d.r]
def Dk.row (d : Dk) (x : OAd) : Res := .row 5 1 (.slice x.1 d.b.length x.2) d.b.length (u8s d.b)
/-- Bytes in parts. -/
abbrev Ps := List (OAd × List UInt8)
def psv (zs : Ps) : List Value := zs.map fun z => .slice z.1.1 z.2.length z.1.2
def Fact.ps (zs : Ps) : Fact := ⟨fun X W => ∀ z ∈ zs, (Fact.rd z.1.1 (u8s z.2)).p X W, fun X X' W W' h hf hx z hz => (Fact.rd z.1.1 (u8s z.2)).fr X X' W W' (h z hz) hf hx⟩
def solid (zs : Ps) : Ps := zs.filter fun z => decide (0 < z.2.length)
def flat (zs : Ps) : List UInt8 := zs.flatMap (·.2)
theorem solid_flat (zs : Ps) : flat (solid zs) = flat zs := by
  induction zs with
  | nil => rfl
  | cons z zs ih =>
    unfold solid flat at *
    by_cases h : 0 < z.2.length
    · rw [List.filter_cons_of_pos (by simpa using h)]
      simp only [List.flatMap_cons, ih]
    · rw [List.filter_cons_of_neg (by simpa using h), ih]
      have : z.2 = [] := List.eq_nil_of_length_eq_zero (by omega)
      simp [this]
theorem solid_mem {zs : Ps} {z : OAd × List UInt8} (h : z ∈ solid zs) : z ∈ zs ∧ 0 < z.2.length := by
  have := List.mem_filter.1 h
  exact ⟨this.1, by simpa using this.2⟩
theorem solid_len (zs : Ps) : (solid zs).length ≤ zs.length := List.length_filter_le ..
theorem solid_succ {zs : Ps} {k : Nat} (h : k < zs.length) : solid (zs.take (k + 1)) = solid (zs.take k) ++ (if 0 < zs[k].2.length then [zs[k]] else []) := by
  rw [List.take_succ_eq_append_getElem h]
  unfold solid
  rw [List.filter_append]
  congr 1
  by_cases h0 : 0 < zs[k].2.length <;> simp [h0]
theorem solid_at {zs : Ps} {k : Nat} (h : k < zs.length) (h0 : 0 < zs[k].2.length) : (solid (zs.take k)).length < (solid zs).length ∧ (solid zs)[(solid (zs.take k)).length]? = some zs[k] := by
  have e : solid zs = solid (zs.take k) ++ zs[k] :: solid (zs.drop (k + 1)) := by
    have : zs = zs.take k ++ zs[k] :: zs.drop (k + 1) := by simp
    conv => lhs; rw [this]
    unfold solid
    rw [List.filter_append, List.filter_cons_of_pos (by simpa using h0)]
  rw [e]
  exact ⟨by simp, by simp⟩
theorem flat_take {zs : Ps} {k : Nat} (h : k < zs.length) : flat (zs.take (k + 1)) = flat (zs.take k) ++ zs[k].2 := by
  rw [List.take_succ_eq_append_getElem h]; unfold flat; rw [List.flatMap_append]; simp
theorem flat_le (zs : Ps) (k : Nat) : (flat (zs.take k)).length ≤ (flat zs).length := by
  have : flat zs = flat (zs.take k) ++ flat (zs.drop k) := by unfold flat; rw [← List.flatMap_append, List.take_append_drop]
  rw [this, List.length_append]; omega
end Go.Proofs.Ythlmleemapeohaa
