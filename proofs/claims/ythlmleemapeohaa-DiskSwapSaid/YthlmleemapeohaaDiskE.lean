/-
Contracts of the disk's functions: Append, Swap, Free, New.
-/
import Derived.Test.YthlmleemapeohaaDiskD
namespace Go.Proofs.Ythlmleemapeohaa
open Go.RowKit

def Dk.app (d : Dk) (b : List UInt8) : Dk := if ((d.own.b ++ b).length : Int) ≤ d.own.r then ⟨d.own.b ++ b, d.own.s, d.own.r⟩ else d.own
def Dk.appE (d : Dk) (b : List UInt8) : Int := if ((d.own.b ++ b).length : Int) ≤ d.own.r then 0 else 30
def Dk.swap (d : Dk) (b : List UInt8) : Dk := if (b.length : Int) ≤ d.own.r then ⟨b, b.length, d.own.r⟩ else d.own
def Dk.swapE (d : Dk) (b : List UInt8) : Int := if (b.length : Int) ≤ d.own.r then 0 else 30

set_option maxHeartbeats 400000 in
theorem append_any (lo lo' : Nat) (A B : Option Addr) (c c' : Nat) (d : Dk) (b : List UInt8) (w : World) (hr : Rd w lo w.heap.size A (u8s d.b)) (hn : d.b.length ≤ 500000) (hc : d.b.length ≤ c)
    (hrb : Rd w lo' w.heap.size B (u8s b)) (hnb : b.length ≤ 500000) :
    Calls Try.prog 11 #[.agg #[.slice A d.b.length c, .int .i64 d.s, .int .i64 d.r], .slice B b.length c'] w fun e w' =>
      ∃ A' c', e = .returned (.tuple #[.agg #[.slice A' (d.app b).b.length c', .int .i64 (d.app b).s, .int .i64 (d.app b).r], .int .i64 (d.appE b)]) ∧
      w'.ownsRow w.heap.size 5 1 (.slice A' (d.app b).b.length c') (d.app b).b.length (u8s (d.app b).b) ∧ Below w.heap.size w w' := by
  go_enter Try.func11, Try.ntmps11
  go_wp2_with fail
  obtain ⟨W0, hW0⟩ : ∃ W0, ((w.alloc (.cells #[.slice A d.b.length c, .int .i64 d.s, .int .i64 d.r] 24)).alloc (.cells #[.slice none 0 0, .int .i64 0, .int .i64 0] 24)) = W0 := ⟨_, rfl⟩
  have hz : w.heap.size + 2 ≤ W0.heap.size := by rw [← hW0]; simp
  have hb0 : Bk W0 w.heap.size 24 #[.slice A d.b.length c, .int .i64 d.s, .int .i64 d.r] := by rw [← hW0]; exact (Bk.new _ _ _).alloc _
  have hb1 : Bk W0 (w.heap.size + 1) 24 #[.slice none 0 0, .int .i64 0, .int .i64 0] := by rw [← hW0]; simpa using (Bk.new (w.alloc (.cells #[.slice A d.b.length c, .int .i64 d.s, .int .i64 d.r] 24)) 24 #[.slice none 0 0, .int .i64 0, .int .i64 0])
  have hbel : Below w.heap.size w W0 := by rw [← hW0]; exact ((Below.refl _ _).alloc (Nat.le_refl _) _).alloc (by simp) _
  rw [hW0]
  clear hW0
  refine (own_any lo A c d _ ((hr.below hbel (Nat.le_refl _)).wide (Nat.le_refl _) (by omega)) (by omega) hc).mono ?_
  rintro e W1 ⟨A1, c1, rfl, hown1, hb⟩
  have hz1 := hb.size
  have bw1 : Below w.heap.size w W1 := hbel.trans (hb.mono (by omega))
  have k0 := hb0.below hb (by omega)
  have k1 := hb1.below hb (by omega)
  have e0 : W1.cell? ⟨w.heap.size, 0, none⟩ = _ := k0.cell 0
  have e1 : W1.cell? ⟨w.heap.size, 1, none⟩ = _ := k0.cell 1
  have e2 : W1.cell? ⟨w.heap.size, 2, none⟩ = _ := k0.cell 2
  have f0 := k0.frozen 0
  have f1 := k0.frozen 1
  have f2 := k0.frozen 2
  go_wp2_with fail
  obtain ⟨W3, hW3⟩ : ∃ W3, ((((W1.setCell ⟨w.heap.size, 0, none⟩ (.slice A1 d.own.b.length c1)).setCell ⟨w.heap.size, 1, none⟩ (.int .i64 d.own.s)).setCell ⟨w.heap.size, 2, none⟩ (.int .i64 d.own.r)).alloc (.cells #[.slice A1 d.own.b.length c1, .slice B b.length c'] 22)) = W3 := ⟨_, rfl⟩
  have o3 : ∀ k, k ≠ w.heap.size → k < W1.heap.size → W3.heap[k]? = W1.heap[k]? := fun k h1 h2 => by
    rw [← hW3]; exact (Below.heap_alloc _ _ _ (by simpa [World.setCell] using h2)).trans ((heap_set h1).trans ((heap_set h1).trans (heap_set h1)))
  have hz3 : W3.heap.size = W1.heap.size + 1 := by rw [← hW3]; simp [World.setCell]
  have b3 : Bk W3 W1.heap.size 22 #[.slice A1 d.own.b.length c1, .slice B b.length c'] := by
    rw [← hW3]
    simpa [World.setCell] using Bk.new (((W1.setCell ⟨w.heap.size, 0, none⟩ (.slice A1 d.own.b.length c1)).setCell ⟨w.heap.size, 1, none⟩ (.int .i64 d.own.s)).setCell ⟨w.heap.size, 2, none⟩ (.int .i64 d.own.r)) 22 #[.slice A1 d.own.b.length c1, .slice B b.length c']
  have bw3 : Below w.heap.size w W3 := by
    rw [← hW3]; exact (((bw1.setCell (by simp) _).setCell (by simp) _).setCell (by simp) _).alloc (by simp [World.setCell]; omega) _
  have hown3 : W3.ownsRow W0.heap.size 5 1 (.slice A1 d.own.b.length c1) d.own.b.length (u8s d.own.b) := own_keep hown1 fun g hg => by
    have := hown1.lt g hg
    exact o3 g (by omega) this.2
  have k3 : Bk W3 (w.heap.size + 1) 24 #[.slice none 0 0, .int .i64 0, .int .i64 0] := k1.keep (o3 _ (by omega) (by omega))
  rw [hW3]
  clear hW3 e0 e1 e2 f0 f1 f2 k0 k1 hb0 hb1
  have hfit := d.own_fit
  have hl := d.own_len
  refine (put_any 0 W1.heap.size A1 (some ⟨W1.heap.size, 0, none⟩) c1 2 d.own d.own.s [(A1, d.own.b.length, c1), (B, b.length, c')] [d.own.b, b] W3 ((Rd.of_bk (cs := [.slice A1 d.own.b.length c1, .slice B b.length c']) b3).wide (Nat.le_refl _) (by omega))
    ⟨⟨rfl, (Rd.of_own hown3).wide (Nat.zero_le _) (Nat.le_refl _)⟩, ⟨rfl, (hrb.below bw3 (Nat.le_refl _)).wide (Nat.zero_le _) (by omega)⟩, trivial⟩ (by simp) (by simp; omega) hfit.2.2.2.1).mono ?_
  rintro e W4 ⟨hb4, hres⟩
  simp only [List.flatten_cons, List.flatten_nil, List.append_nil] at hres
  have k4 := k3.below hb4 (by omega)
  have bw4 : Below w.heap.size w W4 := bw3.trans (hb4.mono (by omega))
  have g0 : W4.cell? ⟨w.heap.size + 1, 0, none⟩ = _ := k4.cell 0
  have g1 : W4.cell? ⟨w.heap.size + 1, 1, none⟩ = _ := k4.cell 1
  have g2 : W4.cell? ⟨w.heap.size + 1, 2, none⟩ = _ := k4.cell 2
  have h0 := k4.frozen 0
  have h1 := k4.frozen 1
  have h2 := k4.frozen 2
  rcases hres with ⟨hle, A5, c5, rfl, hown5⟩ | ⟨hgt, rfl⟩
  · have ea : d.app b = ⟨d.own.b ++ b, d.own.s, d.own.r⟩ := by unfold Dk.app; rw [if_pos hle]
    have ee : d.appE b = 0 := by unfold Dk.appE; rw [if_pos hle]
    have Ha := Lib.hid ea
    have He := Lib.hid ee
    clear ea ee
    go_wp2
    refine bodyPost_ret (v := .tuple #[.agg #[.slice A5 (d.own.b ++ b).length c5, .int .i64 d.own.s, .int .i64 d.own.r], .int .i64 0]) (by simp [results, Try.results11, go_sem, g0, g1, g2]) rfl ⟨A5, c5, by rw [Ha.out, He.out], ?_, ?_⟩
    · rw [Ha.out]
      have n0 : (Value.slice A5 (d.own.b ++ b).length c5).ownBlock ≠ some (w.heap.size + 1) := own_ne hown5 (.inl (by omega))
      exact own_base (own_set (own_set (own_set hown5 n0 _) n0 _) n0 _) (by omega)
    · exact ((bw4.setCell (by simp) _).setCell (by simp) _).setCell (by simp) _
  · have ea : d.app b = d.own := by unfold Dk.app; rw [if_neg (by omega)]
    have ee : d.appE b = 30 := by unfold Dk.appE; rw [if_neg (by omega)]
    have Ha := Lib.hid ea
    have He := Lib.hid ee
    have hown5 := own_below hown3 hb4 (Nat.le_refl _)
    clear ea ee
    go_wp2
    refine bodyPost_ret (v := .tuple #[.agg #[.slice A1 d.own.b.length c1, .int .i64 d.own.s, .int .i64 d.own.r], .int .i64 30]) (by simp [results, Try.results11, go_sem, g0, g1, g2]) rfl ⟨A1, c1, by rw [Ha.out, He.out], ?_, ?_⟩
    · rw [Ha.out]
      have n0 : (Value.slice A1 d.own.b.length c1).ownBlock ≠ some (w.heap.size + 1) := own_ne hown5 (.inl (by omega))
      exact own_base (own_set (own_set (own_set hown5 n0 _) n0 _) n0 _) (by omega)
    · exact ((bw4.setCell (by simp) _).setCell (by simp) _).setCell (by simp) _

set_option maxHeartbeats 400000 in
theorem swap_any (lo lo' : Nat) (A B : Option Addr) (c c' : Nat) (d : Dk) (b : List UInt8) (w : World) (hr : Rd w lo w.heap.size A (u8s d.b)) (hn : d.b.length ≤ 500000) (hc : d.b.length ≤ c)
    (hrb : Rd w lo' w.heap.size B (u8s b)) (hnb : b.length ≤ 500000) :
    Calls Try.prog 17 #[.agg #[.slice A d.b.length c, .int .i64 d.s, .int .i64 d.r], .slice B b.length c'] w fun e w' =>
      ∃ A' c', e = .returned (.tuple #[.agg #[.slice A' (d.swap b).b.length c', .int .i64 (d.swap b).s, .int .i64 (d.swap b).r], .int .i64 (d.swapE b)]) ∧
      w'.ownsRow w.heap.size 5 1 (.slice A' (d.swap b).b.length c') (d.swap b).b.length (u8s (d.swap b).b) ∧ Below w.heap.size w w' := by
  go_enter Try.func17, Try.ntmps17
  go_wp2_with fail
  obtain ⟨W0, hW0⟩ : ∃ W0, ((w.alloc (.cells #[.slice A d.b.length c, .int .i64 d.s, .int .i64 d.r] 24)).alloc (.cells #[.slice none 0 0, .int .i64 0, .int .i64 0] 24)) = W0 := ⟨_, rfl⟩
  have hz : w.heap.size + 2 ≤ W0.heap.size := by rw [← hW0]; simp
  have hb1 : Bk W0 (w.heap.size + 1) 24 #[.slice none 0 0, .int .i64 0, .int .i64 0] := by rw [← hW0]; simpa using (Bk.new (w.alloc (.cells #[.slice A d.b.length c, .int .i64 d.s, .int .i64 d.r] 24)) 24 #[.slice none 0 0, .int .i64 0, .int .i64 0])
  have hbel : Below w.heap.size w W0 := by rw [← hW0]; exact ((Below.refl _ _).alloc (Nat.le_refl _) _).alloc (by simp) _
  rw [hW0]
  clear hW0
  refine (own_any lo A c d _ ((hr.below hbel (Nat.le_refl _)).wide (Nat.le_refl _) (by omega)) (by omega) hc).mono ?_
  rintro e W1 ⟨A1, c1, rfl, hown1, hb⟩
  have hz1 := hb.size
  have bw1 : Below w.heap.size w W1 := hbel.trans (hb.mono (by omega))
  have k1 := hb1.below hb (by omega)
  go_wp2_with fail
  obtain ⟨W3, hW3⟩ : ∃ W3, (W1.alloc (.cells #[.slice B b.length c'] 22)) = W3 := ⟨_, rfl⟩
  have hz3 : W3.heap.size = W1.heap.size + 1 := by rw [← hW3]; simp
  have b3 : Bk W3 W1.heap.size 22 #[.slice B b.length c'] := by rw [← hW3]; exact Bk.new _ _ _
  have bw3 : Below w.heap.size w W3 := by rw [← hW3]; exact bw1.alloc (by omega) _
  have hown3 : W3.ownsRow W0.heap.size 5 1 (.slice A1 d.own.b.length c1) d.own.b.length (u8s d.own.b) := by rw [← hW3]; exact hown1.alloc _
  have k3 : Bk W3 (w.heap.size + 1) 24 #[.slice none 0 0, .int .i64 0, .int .i64 0] := by rw [← hW3]; exact k1.alloc _
  rw [hW3]
  clear hW3 k1 hb1
  have hfit := d.own_fit
  have hl := d.own_len
  refine (put_any 0 W1.heap.size A1 (some ⟨W1.heap.size, 0, none⟩) c1 1 d.own b.length [(B, b.length, c')] [b] W3 ((Rd.of_bk (cs := [.slice B b.length c']) b3).wide (Nat.le_refl _) (by omega))
    ⟨⟨rfl, (hrb.below bw3 (Nat.le_refl _)).wide (Nat.zero_le _) (by omega)⟩, trivial⟩ (by simp) (by simp; omega) hfit.2.2.2.1).mono ?_
  rintro e W4 ⟨hb4, hres⟩
  simp only [List.flatten_cons, List.flatten_nil, List.append_nil] at hres
  have k4 := k3.below hb4 (by omega)
  have bw4 : Below w.heap.size w W4 := bw3.trans (hb4.mono (by omega))
  have g0 : W4.cell? ⟨w.heap.size + 1, 0, none⟩ = _ := k4.cell 0
  have g1 : W4.cell? ⟨w.heap.size + 1, 1, none⟩ = _ := k4.cell 1
  have g2 : W4.cell? ⟨w.heap.size + 1, 2, none⟩ = _ := k4.cell 2
  have h0 := k4.frozen 0
  have h1 := k4.frozen 1
  have h2 := k4.frozen 2
  rcases hres with ⟨hle, A5, c5, rfl, hown5⟩ | ⟨hgt, rfl⟩
  · have ea : d.swap b = ⟨b, b.length, d.own.r⟩ := by unfold Dk.swap; rw [if_pos hle]
    have ee : d.swapE b = 0 := by unfold Dk.swapE; rw [if_pos hle]
    have Ha := Lib.hid ea
    have He := Lib.hid ee
    clear ea ee
    go_wp2
    refine bodyPost_ret (v := .tuple #[.agg #[.slice A5 b.length c5, .int .i64 b.length, .int .i64 d.own.r], .int .i64 0]) (by simp [results, Try.results17, go_sem, g0, g1, g2]) rfl ⟨A5, c5, by rw [Ha.out, He.out], ?_, ?_⟩
    · rw [Ha.out]
      have n0 : (Value.slice A5 b.length c5).ownBlock ≠ some (w.heap.size + 1) := own_ne hown5 (.inl (by omega))
      exact own_base (own_set (own_set (own_set hown5 n0 _) n0 _) n0 _) (by omega)
    · exact ((bw4.setCell (by simp) _).setCell (by simp) _).setCell (by simp) _
  · have ea : d.swap b = d.own := by unfold Dk.swap; rw [if_neg (by omega)]
    have ee : d.swapE b = 30 := by unfold Dk.swapE; rw [if_neg (by omega)]
    have Ha := Lib.hid ea
    have He := Lib.hid ee
    have hown5 := own_below hown3 hb4 (Nat.le_refl _)
    clear ea ee
    go_wp2
    refine bodyPost_ret (v := .tuple #[.agg #[.slice A1 d.own.b.length c1, .int .i64 d.own.s, .int .i64 d.own.r], .int .i64 30]) (by simp [results, Try.results17, go_sem, g0, g1, g2]) rfl ⟨A1, c1, by rw [Ha.out, He.out], ?_, ?_⟩
    · rw [Ha.out]
      have n0 : (Value.slice A1 d.own.b.length c1).ownBlock ≠ some (w.heap.size + 1) := own_ne hown5 (.inl (by omega))
      exact own_base (own_set (own_set (own_set hown5 n0 _) n0 _) n0 _) (by omega)
    · exact ((bw4.setCell (by simp) _).setCell (by simp) _).setCell (by simp) _

theorem free_any (A : Option Addr) (c : Nat) (d : Dk) (w : World) (hn : d.b.length ≤ 500000) :
    Calls Try.prog 24 #[.agg #[.slice A d.b.length c, .int .i64 d.s, .int .i64 d.r]] w fun e w' => e = .returned (.int .i64 (d.own.r - d.own.b.length)) ∧ Below w.heap.size w w' := by
  have hmn := ite_min
  have hfit : d.room - min (d.b.length : Int) d.room = d.own.r - d.own.b.length := by simp [Dk.own, Dk.room]; omega
  have hf := Lib.hid hfit
  have h0 : min (max d.r 0) 65536 = d.room := rfl
  have hr0 : 0 ≤ d.room ∧ d.room ≤ 65536 := by unfold Dk.room; omega
  go_enter Try.func24, Try.ntmps24
  go_wp2_with (go_at_call 27; refine (within_any _ _ _).mono ?_; rintro e w' ⟨rfl, rfl⟩; rw [h0])
  go_ret
  exact ⟨ret_i (by rw [← hf.out]), (Below.refl _ _).alloc (Nat.le_refl _) _⟩

def Dk.new (room : Int) : Dk := ⟨[], 0, min (max room 0) 65536⟩
theorem new_own (room : Int) : (⟨[], 0, room⟩ : Dk).own = Dk.new room := by
  unfold Dk.own Dk.new Dk.room
  simp

set_option maxHeartbeats 400000 in
theorem new_any (room : Int) (w : World) :
    Calls Try.prog 19 #[.int .i64 room] w fun e w' => ∃ A' c', e = .returned (.agg #[.slice A' (Dk.new room).b.length c', .int .i64 (Dk.new room).s, .int .i64 (Dk.new room).r]) ∧
      w'.ownsRow w.heap.size 5 1 (.slice A' (Dk.new room).b.length c') (Dk.new room).b.length (u8s (Dk.new room).b) ∧ Below w.heap.size w w' := by
  go_enter Try.func19, Try.ntmps19
  go_wp2_with fail
  refine (own_any 0 none 0 ⟨[], 0, room⟩ _ Rd.nil (by simp) (by simp)).mono ?_
  rintro e W1 ⟨A1, c1, rfl, hown1, hb⟩
  rw [new_own] at hown1 ⊢
  have hz1 := hb.size
  simp only [World.size_alloc] at hz1
  have k1 := (Bk.new w 24 #[.slice none 0 0, .int .i64 0, .int .i64 0]).below hb (by simp)
  have g0 : W1.cell? ⟨w.heap.size, 0, none⟩ = _ := k1.cell 0
  have g1 : W1.cell? ⟨w.heap.size, 1, none⟩ = _ := k1.cell 1
  have g2 : W1.cell? ⟨w.heap.size, 2, none⟩ = _ := k1.cell 2
  have h0 := k1.frozen 0
  have h1 := k1.frozen 1
  have h2 := k1.frozen 2
  go_wp2
  refine bodyPost_ret (v := .agg #[.slice A1 (Dk.new room).b.length c1, .int .i64 (Dk.new room).s, .int .i64 (Dk.new room).r]) (by simp [results, Try.results19, go_sem, g0, g1, g2]) rfl ⟨A1, c1, rfl, ?_, ?_⟩
  · have n0 : (Value.slice A1 (Dk.new room).b.length c1).ownBlock ≠ some w.heap.size := own_ne hown1 (.inl (by simp))
    exact own_base (own_set (own_set (own_set hown1 n0 _) n0 _) n0 _) (by simp)
  · exact (((((Below.refl _ _).alloc (Nat.le_refl _) _).trans (hb.mono (by simp))).setCell (Nat.le_refl _) _).setCell (Nat.le_refl _) _).setCell (Nat.le_refl _) _

end Go.Proofs.Ythlmleemapeohaa
