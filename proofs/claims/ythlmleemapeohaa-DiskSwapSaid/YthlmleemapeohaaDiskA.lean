/-
Contracts of the disk's functions: within, Clone, Own, Free, all.
-/
import Derived.Test.YthlmleemapeohaaRows
import Derived.Test.YthlmleemapeohaaStr
namespace Go.Proofs.Ythlmleemapeohaa
open Go.RowKit

theorem info_u8 : (Try.prog.info? 5).map (fun i => (i.zero, i.size, i.bytes)) = some (some (.int .u8 0), 1, 1) := by kernel_rfl

theorem ret_i {k : IntKind} {a b : Int} (h : a = b) : Ending.returned (.int k a) = .returned (.int k b) := by rw [h]
theorem ret_b {a b : Bool} (h : a = b) : Ending.returned (.bool a) = .returned (.bool b) := by rw [h]

theorem within_any (n top : Int) (w : World) :
    Calls Try.prog 27 #[.int .i64 n, .int .i64 top] w fun e w' => e = .returned (.int .i64 (min (max n 0) top)) ∧ w = w' := by
  go_enter Try.func27, Try.ntmps27
  go_wp2
  all_goals (go_ret; refine ⟨ret_i ?_, rfl⟩; omega)

set_option maxHeartbeats 400000 in
theorem clone_any (lo : Nat) (A : Option Addr) (c : Nat) (l : List UInt8) (w : World) (hr : Rd w lo w.heap.size A (u8s l)) (hn : l.length ≤ 1000000) :
    Calls Try.prog 28 #[.slice A l.length c] w fun e w' => ∃ A' c', e = .returned (.slice A' l.length c') ∧
      w'.ownsRow w.heap.size 5 1 (.slice A' l.length c') l.length (u8s l) ∧ Below w.heap.size w w' := by
  obtain ⟨i0, hi0, hz0, hz1, hz2⟩ := info_parts info_u8
  have hnil := fun (w : World) (A : Option Addr) (n c : Nat) => Lib.run_eql_slice_nil (P := Try.prog) w 22 5 A n c 0 0 Try.underlying22
  cases A with
  | none =>
    have hl : l = [] := by simpa [u8s] using hr.none_
    subst hl
    go_enter Try.func28, Try.ntmps28
    go_wp2
    go_ret
    exact ⟨none, 0, rfl, World.ownsRow_nil _ _ _ _, Below.refl _ _⟩
  | some ad =>
    go_enter Try.func28, Try.ntmps28
    go_wp2_with (at_builtin; refine wpl_append _ rfl (.tmp 5) (.tmp 6) _ rfl w.heap.size 5 i0 _ 1 1 Try.underlying22 hi0 hz0 hz1 hz2 rfl (by omega) (.slice (some ⟨w.heap.size, 0, none⟩) 0 0) 0 [] rfl (World.ownsRow_made w #[] 0 (Nat.le_refl _) (by unfold maxLen; omega) rfl) lo w.heap.size (some ad) l.length c (u8s l) rfl (by simp) (hr.alloc (Nat.le_refl _) _) (u8s_one l) (by unfold maxLen; omega) (by omega) (by simp) ?_; intro A' c' w' hown hg hat)
    go_ret
    refine ⟨A', c', ?_, ?_, ?_⟩
    · simp
    · simpa using hown
    · exact ((Below.refl _ _).alloc (Nat.le_refl _) _).grown hg (by simp) (by simp [Value.ownBlock])

/-- A disk as data. -/
structure Dk where
  b : List UInt8
  s : Int
  r : Int
def Dk.room (d : Dk) : Int := min (max d.r 0) 65536
def Dk.own (d : Dk) : Dk := ⟨d.b.take d.room.toNat, min (max d.s 0) (d.b.take d.room.toNat).length, d.room⟩

set_option maxHeartbeats 400000 in
theorem own_any (lo : Nat) (A : Option Addr) (c : Nat) (d : Dk) (w : World) (hr : Rd w lo w.heap.size A (u8s d.b)) (hn : d.b.length ≤ 1000000) (hc : d.b.length ≤ c) :
    Calls Try.prog 10 #[.agg #[.slice A d.b.length c, .int .i64 d.s, .int .i64 d.r]] w fun e w' =>
      ∃ A' c', e = .returned (.agg #[.slice A' d.own.b.length c', .int .i64 d.own.s, .int .i64 d.own.r]) ∧
      w'.ownsRow w.heap.size 5 1 (.slice A' d.own.b.length c') d.own.b.length (u8s d.own.b) ∧ Below w.heap.size w w' := by
  have hlen : (d.b.take d.room.toNat).length = (min (d.b.length : Int) d.room).toNat := by simp [Dk.room]; omega
  have hmn := ite_min
  go_enter Try.func10, Try.ntmps10
  go_wp2_with (go_at_call 27; refine (within_any _ _ _).mono ?_; rintro e w' ⟨rfl, rfl⟩)
  rw [show (min (↑d.b.length) (min (max d.r 0) 65536)).toNat = d.own.b.length from by simp [Dk.own, Dk.room]; omega]
  refine (clone_any lo A c d.own.b _ ?_ ?_).mono ?_
  · simp only [Dk.own, ← u8s_take]
    exact ((hr.alloc (Nat.le_refl _) _).alloc (by simp) _).wide (Nat.le_refl _) (by simp; omega) |>.take _
  · simp [Dk.own]; omega
  rintro e w1 ⟨A1, c1, rfl, hown, hb⟩
  obtain ⟨hc1, hf1⟩ := bcell hb
  have hz := hb.size
  simp only [World.size_alloc] at hz
  go_wp2_with (go_at_call 27; refine (within_any _ _ _).mono ?_; rintro e w' ⟨rfl, rfl⟩)
  refine bodyPost_ret (v := .agg #[.slice A1 d.own.b.length c1, .int .i64 d.own.s, .int .i64 d.own.r]) (by simp [results, Try.results10, go_sem, hc1, Dk.own, Dk.room]) rfl ⟨A1, c1, rfl, ?_, ?_⟩
  · refine own_set (own_set (own_set (own_base hown (by simp; omega)) ?_ _) ?_ _) ?_ _ <;> exact own_ne hown (by simp)
  · exact (((((Below.refl _ _).alloc (Nat.le_refl _) _).alloc (by simp) _).trans (hb.mono (by simp; omega))).setCell (by simp) _ |>.setCell (by simp) _).setCell (by simp) _

theorem Dk.own_len (d : Dk) : d.own.b.length ≤ d.b.length := by simp [Dk.own]; omega
theorem Dk.own_fit (d : Dk) : (d.own.b.length : Int) ≤ d.own.r ∧ 0 ≤ d.own.s ∧ d.own.s ≤ d.own.b.length ∧ 0 ≤ d.own.r ∧ d.own.r ≤ 65536 := by
  simp [Dk.own, Dk.room]; omega
theorem Dk.own_own (d : Dk) : d.own.own = d.own := by
  have h := d.own_fit
  obtain ⟨x, hx⟩ : ∃ x, x = d.own := ⟨_, rfl⟩
  rw [← hx] at h ⊢
  obtain ⟨b, s, r⟩ := x
  simp only at h
  have h1 : (min (max r 0) 65536) = r := by omega
  simp only [Dk.own, Dk.room, h1]
  rw [List.take_of_length_le (by omega)]
  congr 1
  omega

theorem equal_any (lo lo' : Nat) (A B : Option Addr) (c c' : Nat) (l m : List UInt8) (w : World) (hr : Rd w lo w.heap.size A (u8s l)) (hr' : Rd w lo' w.heap.size B (u8s m)) :
    Calls Try.prog 30 #[.slice A l.length c, .slice B m.length c'] w fun e w' => e = .returned (.bool (decide (l = m))) ∧ w = w' := by
  have e1 := run_string (P := Try.prog) Try.underlying22 Try.underlying5 Try.underlying9 hr c
  have e2 := run_string (P := Try.prog) Try.underlying22 Try.underlying5 Try.underlying9 hr' c'
  go_enter Try.func30, Try.ntmps30
  go_wp2
  go_ret
  refine ⟨ret_b ?_, rfl⟩; rw [Bool.eq_iff_iff]; simp [Array.getD]
theorem same_any (lo lo' : Nat) (A B : Option Addr) (c c' : Nat) (l m : List UInt8) (w : World) (hr : Rd w lo w.heap.size A (u8s l)) (hr' : Rd w lo' w.heap.size B (u8s m)) :
    Calls Try.prog 12 #[.slice A l.length c, .slice B m.length c'] w fun e w' => e = .returned (.bool (decide (l = m))) ∧ w = w' := by
  have e1 := run_string (P := Try.prog) Try.underlying22 Try.underlying5 Try.underlying9 hr c
  have e2 := run_string (P := Try.prog) Try.underlying22 Try.underlying5 Try.underlying9 hr' c'
  go_enter Try.func12, Try.ntmps12
  go_wp2
  go_ret
  refine ⟨ret_b ?_, rfl⟩; rw [Bool.eq_iff_iff]; simp [Array.getD]
end Go.Proofs.Ythlmleemapeohaa
