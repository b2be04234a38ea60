/-
The law DiskSwap: what a swap put there is all that there is, and safe. Plain facts (the walk is to come).
-/
import Derived.Test.YthlmleemapeohaaLOwn
namespace Go.Proofs.Ythlmleemapeohaa
open Go.RowKit

theorem Dk.own_fits (b : List UInt8) (s r : Int) (h0 : 0 ≤ r) (h1 : r ≤ 65536) (hb : (b.length : Int) ≤ r) (hs : 0 ≤ s) (hs' : s ≤ b.length) : (⟨b, s, r⟩ : Dk).own = ⟨b, s, r⟩ := by
  have hr : (⟨b, s, r⟩ : Dk).room = r := by simp only [Dk.room]; omega
  show Dk.mk _ _ _ = _
  have hx : List.take (⟨b, s, r⟩ : Dk).room.toNat b = b := List.take_of_length_le (by rw [hr]; omega)
  show Dk.mk (List.take (⟨b, s, r⟩ : Dk).room.toNat b) (min (max s 0) ((List.take (⟨b, s, r⟩ : Dk).room.toNat b).length : Int)) (⟨b, s, r⟩ : Dk).room = _
  rw [hx, hr]
  simp only [Dk.mk.injEq, true_and, and_true]
  omega
/-- There is no room: the disk stays. -/
theorem Dk.swap_full (d : Dk) (b : List UInt8) (h : d.own.r < b.length) : d.swap b = d.own ∧ d.swapE b = 30 := by
  have h' : ¬ (b.length : Int) ≤ d.own.r := by omega
  simp [Dk.swap, Dk.swapE, h']
/-- There is room. -/
theorem Dk.swap_ok (d : Dk) (b : List UInt8) (h : (b.length : Int) ≤ d.own.r) : d.swap b = ⟨b, b.length, d.own.r⟩ ∧ d.swapE b = 0 := by
  simp [Dk.swap, Dk.swapE, h]
theorem Dk.swapped_own (d : Dk) (b : List UInt8) (h : (b.length : Int) ≤ d.own.r) : (⟨b, b.length, d.own.r⟩ : Dk).own = ⟨b, b.length, d.own.r⟩ := by
  have := d.own_fit
  exact Dk.own_fits _ _ _ (by omega) (by omega) h (by omega) (Int.le_refl _)
/-- A crash leaves what is safe. -/
theorem Dk.safe_crash (b : List UInt8) (r k : Int) (h : (⟨b, b.length, r⟩ : Dk).own = ⟨b, b.length, r⟩) : (⟨b, b.length, r⟩ : Dk).crash k = ⟨b, b.length, r⟩ := by
  have hl : (⟨b, b.length, r⟩ : Dk).left k = b.length := by
    unfold Dk.left
    rw [h]
    simp only
    omega
  unfold Dk.crash
  rw [hl, h, List.take_length]
theorem Dk.safe_app (b m : List UInt8) (r : Int) (h : (⟨b, b.length, r⟩ : Dk).own = ⟨b, b.length, r⟩) :
    ((b.length : Int) + m.length ≤ r → (⟨b, b.length, r⟩ : Dk).app m = ⟨b ++ m, b.length, r⟩ ∧ (⟨b, b.length, r⟩ : Dk).appE m = 0) ∧
    (¬ (b.length : Int) + m.length ≤ r → (⟨b, b.length, r⟩ : Dk).app m = ⟨b, b.length, r⟩ ∧ (⟨b, b.length, r⟩ : Dk).appE m = 30) := by
  unfold Dk.app Dk.appE
  rw [h]
  constructor
  · intro hr
    have h1 : ((b ++ m).length : Int) ≤ r := by simp; omega
    exact ⟨if_pos h1, if_pos h1⟩
  · intro hr
    have h1 : ¬ ((b ++ m).length : Int) ≤ r := by simp; omega
    exact ⟨if_neg h1, if_neg h1⟩
/-- A crash can take what was put behind. -/
theorem Dk.app_crash (b m : List UInt8) (r : Int) (h : (⟨b ++ m, b.length, r⟩ : Dk).own = ⟨b ++ m, b.length, r⟩) : ((⟨b ++ m, b.length, r⟩ : Dk).crash 0) = ⟨b, b.length, r⟩ := by
  have hl : (⟨b ++ m, b.length, r⟩ : Dk).left 0 = b.length := by
    unfold Dk.left
    rw [h]
    simp only [List.length_append]
    omega
  unfold Dk.crash
  rw [hl, h]
  simp

/-- What is appended behind what is safe. -/
theorem Dk.safe_app_case (b more : List UInt8) (r : Int) (h0 : 0 ≤ r) (h1 : r ≤ 65536) (hb : (b.length : Int) ≤ r) (hb2 : b.length ≤ 200) (hm2 : more.length ≤ 200) :
    ∃ a : Dk, (⟨b, b.length, r⟩ : Dk).app more = a ∧ a.b.length ≤ 400 ∧ a.crash 0 = ⟨b, b.length, r⟩ ∧
      (((b.length : Int) + more.length ≤ r ∧ (⟨b, b.length, r⟩ : Dk).appE more = 0 ∧ (a.sync.b.length : Int) = b.length + more.length) ∨ (r < (b.length : Int) + more.length ∧ (⟨b, b.length, r⟩ : Dk).appE more = 30)) := by
  have ho := Dk.own_fits b b.length r h0 h1 hb (by omega) (Int.le_refl _)
  have hA := Dk.safe_app b more r ho
  by_cases hf : (b.length : Int) + more.length ≤ r
  · obtain ⟨h2, h3⟩ := hA.1 hf
    have ho' := Dk.own_fits (b ++ more) b.length r h0 h1 (by simp; omega) (by omega) (by simp; omega)
    refine ⟨_, h2, by simp; omega, Dk.app_crash b more r ho', .inl ⟨hf, h3, ?_⟩⟩
    show ((⟨b ++ more, b.length, r⟩ : Dk).own.b.length : Int) = _
    rw [ho']
    simp
  · obtain ⟨h2, h3⟩ := hA.2 hf
    exact ⟨_, h2, by simp only; omega, Dk.safe_crash b r 0 ho, .inr ⟨by omega, h3⟩⟩

set_option maxRecDepth 20000 in
set_option maxHeartbeats 4000000 in
theorem diskSwap_any (lo lob lom : Nat) (A B M : Option Addr) (c cb cm : Nat) (d : Dk) (b more : List UInt8) (keep : Int) (w : World) (hr : Rd w lo w.heap.size A (u8s d.b)) (hn : d.b.length ≤ maxLen) (hc : d.b.length ≤ c)
    (hrb : Rd w lob w.heap.size B (u8s b)) (hnb : b.length ≤ maxLen) (hrm : Rd w lom w.heap.size M (u8s more)) (hnm : more.length ≤ maxLen) :
    Calls Try.prog 7 #[.agg #[.slice A d.b.length c, .int .i64 d.s, .int .i64 d.r], .slice B b.length cb, .slice M more.length cm, .int .i64 keep] w fun e w' => e = .returned (.bool true) ∧ Below w.heap.size w w' := by
  go_enter Try.func7, Try.ntmps7
  go_wp2_with fail
  obtain ⟨W0, hW0⟩ : ∃ W0, w.alloc (.cells #[.slice A d.b.length c, .int .i64 d.s, .int .i64 d.r] 24) = W0 := ⟨_, rfl⟩
  have hz : w.heap.size + 1 ≤ W0.heap.size := by rw [← hW0]; simp
  have hb0 : Bk W0 w.heap.size 24 #[.slice A d.b.length c, .int .i64 d.s, .int .i64 d.r] := by rw [← hW0]; exact Bk.new _ _ _
  have hbel : Below w.heap.size w W0 := by rw [← hW0]; exact (Below.refl _ _).alloc (Nat.le_refl _) _
  rw [hW0]
  clear hW0
  refine (great_any A d.b.length c d.s d.r _ hn).mono ?_
  rintro e W1 ⟨rfl, hb1⟩
  have k1 := hb0.below hb1 hb0.lt
  have bw1 : Below w.heap.size w W1 := hbel.trans (hb1.mono (by omega))
  have hz1 := bw1.size
  by_cases hg : 400 < d.b.length
  · rw [decide_eq_true hg]
    go_wp2_with fail
    refine (wakes_any _).mono ?_
    rintro e W2 ⟨rfl, hb2⟩
    go_wp2
    go_ret
    exact ⟨ret_b rfl, bw1.trans (hb2.mono (by omega))⟩
  rw [decide_eq_false hg]
  by_cases hgb : (200 : Int) < b.length
  · go_wp2_with fail
    refine (wakes_any _).mono ?_
    rintro e W2 ⟨rfl, hb2⟩
    go_wp2
    go_ret
    exact ⟨ret_b rfl, bw1.trans (hb2.mono (by omega))⟩
  by_cases hgm : (200 : Int) < more.length
  · go_wp2_with fail
    refine (wakes_any _).mono ?_
    rintro e W2 ⟨rfl, hb2⟩
    go_wp2
    go_ret
    exact ⟨ret_b rfl, bw1.trans (hb2.mono (by omega))⟩
  have hol := d.own_len
  have hlt1 := k1.lt
  have e0 : W1.cell? ⟨w.heap.size, 0, none⟩ = _ := k1.cell 0
  have e1 : W1.cell? ⟨w.heap.size, 1, none⟩ = _ := k1.cell 1
  have e2 : W1.cell? ⟨w.heap.size, 2, none⟩ = _ := k1.cell 2
  go_wp2_with fail
  refine (swap_any lo lob A B c cb d b _ ((hr.below bw1 (Nat.le_refl _)).wide (Nat.le_refl _) (by omega)) (by omega) hc ((hrb.below bw1 (Nat.le_refl _)).wide (Nat.le_refl _) (by omega)) (by omega)).mono ?_
  rintro e W2 ⟨As, cs, rfl, o2, hb2⟩
  have hz2 := hb2.size
  have bw2 : Below w.heap.size w W2 := bw1.trans (hb2.mono (by omega))
  have k2 := k1.below hb2 hlt1
  clear e0 e1 e2 k1 hb0
  by_cases hfit : (b.length : Int) ≤ d.own.r
  · obtain ⟨hs, he⟩ := d.swap_ok b hfit
    rw [hs, he]
    rw [hs] at o2
    simp only at o2
    obtain ⟨W3, hW3⟩ : ∃ W3, W2.alloc (.cells #[.slice As b.length cs, .int .i64 b.length, .int .i64 d.own.r] 24) = W3 := ⟨_, rfl⟩
    have bw3 : Below w.heap.size w W3 := by rw [← hW3]; exact bw2.alloc bw2.size _
    have k3 : Bk W3 w.heap.size 24 #[.slice A d.b.length c, .int .i64 d.s, .int .i64 d.r] := by rw [← hW3]; exact k2.alloc _
    have s3 : Bk W3 W2.heap.size 24 #[.slice As b.length cs, .int .i64 b.length, .int .i64 d.own.r] := by rw [← hW3]; exact Bk.new _ _ _
    have o3 : W3.ownsRow W1.heap.size 5 1 (.slice As b.length cs) b.length (u8s b) := by rw [← hW3]; exact o2.alloc _
    have hz3 := bw3.size
    have e0 : W3.cell? ⟨w.heap.size, 0, none⟩ = _ := k3.cell 0
    have e1 : W3.cell? ⟨w.heap.size, 1, none⟩ = _ := k3.cell 1
    have e2 : W3.cell? ⟨w.heap.size, 2, none⟩ = _ := k3.cell 2
    have g0 : W3.cell? ⟨W2.heap.size, 0, none⟩ = _ := s3.cell 0
    have g1 : W3.cell? ⟨W2.heap.size, 1, none⟩ = _ := s3.cell 1
    have g2 : W3.cell? ⟨W2.heap.size, 2, none⟩ = _ := s3.cell 2
    go_wp2_with fail
    have hso := d.swapped_own b hfit
    have hof := d.own_fit
    refine (crash_any _ As cs ⟨b, b.length, d.own.r⟩ keep _ (Rd.of_own o3) (by simp only; omega) (own_cap o3)).mono ?_
    rw [Dk.safe_crash b _ keep hso]
    rintro e W4 ⟨Ac, cc, rfl, o4, hb4⟩
    simp only at o4
    clear hW3 e0 e1 e2 g0 g1 g2
    have hz4 := hb4.size
    have bw4 : Below w.heap.size w W4 := bw3.trans (hb4.mono (by omega))
    obtain ⟨W5, hW5⟩ : ∃ W5, W4.alloc (.cells #[.slice Ac b.length cc, .int .i64 b.length, .int .i64 d.own.r] 24) = W5 := ⟨_, rfl⟩
    have bw5 : Below w.heap.size w W5 := by rw [← hW5]; exact bw4.alloc bw4.size _
    have s5 : Bk W5 W2.heap.size 24 #[.slice As b.length cs, .int .i64 b.length, .int .i64 d.own.r] := by rw [← hW5]; exact (s3.below hb4 s3.lt).alloc _
    have q5 : Bk W5 W4.heap.size 24 #[.slice Ac b.length cc, .int .i64 b.length, .int .i64 d.own.r] := by rw [← hW5]; exact Bk.new _ _ _
    have o5 : W5.ownsRow W1.heap.size 5 1 (.slice As b.length cs) b.length (u8s b) := by rw [← hW5]; exact (own_below o3 hb4 (Nat.le_refl _)).alloc _
    have c5 : W5.ownsRow W3.heap.size 5 1 (.slice Ac b.length cc) b.length (u8s b) := by rw [← hW5]; exact o4.alloc _
    have hz5 := bw5.size
    have g0 : W5.cell? ⟨W2.heap.size, 0, none⟩ = _ := s5.cell 0
    have g1 : W5.cell? ⟨W2.heap.size, 1, none⟩ = _ := s5.cell 1
    have g2 : W5.cell? ⟨W2.heap.size, 2, none⟩ = _ := s5.cell 2
    go_wp2_with fail
    obtain ⟨a, ha, hal, hac, hcase⟩ := Dk.safe_app_case b more d.own.r (by omega) (by omega) hfit (by omega) (by omega)
    refine (append_any _ lom As M cs cm ⟨b, b.length, d.own.r⟩ more _ (Rd.of_own o5) (by simp only; omega) (own_cap o5) ((hrm.below bw5 (Nat.le_refl _)).wide (Nat.le_refl _) (by omega)) (by omega)).mono ?_
    rw [ha]
    clear ha hW5 g0 g1 g2
    rintro e W6 ⟨Aa, ca, rfl, o6, hb6⟩
    have hz6 := hb6.size
    have bw6 : Below w.heap.size w W6 := bw5.trans (hb6.mono (by omega))
    obtain ⟨W7, hW7⟩ : ∃ W7, W6.alloc (.cells #[.slice Aa a.b.length ca, .int .i64 a.s, .int .i64 a.r] 24) = W7 := ⟨_, rfl⟩
    have bw7 : Below w.heap.size w W7 := by rw [← hW7]; exact bw6.alloc bw6.size _
    have s7 : Bk W7 W2.heap.size 24 #[.slice As b.length cs, .int .i64 b.length, .int .i64 d.own.r] := by rw [← hW7]; exact (s5.below hb6 s5.lt).alloc _
    have q7 : Bk W7 W4.heap.size 24 #[.slice Ac b.length cc, .int .i64 b.length, .int .i64 d.own.r] := by rw [← hW7]; exact (q5.below hb6 q5.lt).alloc _
    have a7 : Bk W7 W6.heap.size 24 #[.slice Aa a.b.length ca, .int .i64 a.s, .int .i64 a.r] := by rw [← hW7]; exact Bk.new _ _ _
    have c7 : W7.ownsRow W3.heap.size 5 1 (.slice Ac b.length cc) b.length (u8s b) := by rw [← hW7]; exact (own_below c5 hb6 (Nat.le_refl _)).alloc _
    have o7 : W7.ownsRow W5.heap.size 5 1 (.slice Aa a.b.length ca) a.b.length (u8s a.b) := by rw [← hW7]; exact o6.alloc _
    have hz7 := bw7.size
    have g0 : W7.cell? ⟨W4.heap.size, 0, none⟩ = _ := q7.cell 0
    have g1 : W7.cell? ⟨W4.heap.size, 1, none⟩ = _ := q7.cell 1
    have i2 : W7.cell? ⟨W2.heap.size, 2, none⟩ = _ := s7.cell 2
    have j0 : W7.cell? ⟨W6.heap.size, 0, none⟩ = _ := a7.cell 0
    have j1 : W7.cell? ⟨W6.heap.size, 1, none⟩ = _ := a7.cell 1
    have j2 : W7.cell? ⟨W6.heap.size, 2, none⟩ = _ := a7.cell 2
    go_wp2_with fail
    refine (same_true _ lob Ac B cc cb b _ (Rd.of_own c7) ((hrb.below bw7 (Nat.le_refl _)).wide (Nat.le_refl _) (by omega))).mono ?_
    rintro e W8 ⟨rfl, rfl⟩
    clear hW7
    rcases hcase with ⟨hf, he, hpl⟩ | ⟨hf, he⟩
    · rw [he]
      go_wp2_with fail
      replace hpl := Lib.hid hpl
      refine (crash_any _ Aa ca a 0 _ (Rd.of_own o7) (by omega) (own_cap o7)).mono ?_
      rw [hac]
      rintro e W9 ⟨A9, c9, rfl, o9, hb9⟩
      simp only at o9
      clear g0 g1 i2 j0 j1 j2
      have hz9 := hb9.size
      have bw9 : Below w.heap.size w W9 := bw7.trans (hb9.mono (by omega))
      obtain ⟨W10, hW10⟩ : ∃ W10, W9.alloc (.cells #[.slice A9 b.length c9, .int .i64 b.length, .int .i64 d.own.r] 24) = W10 := ⟨_, rfl⟩
      have bw10 : Below w.heap.size w W10 := by rw [← hW10]; exact bw9.alloc bw9.size _
      have s10 : Bk W10 W2.heap.size 24 #[.slice As b.length cs, .int .i64 b.length, .int .i64 d.own.r] := by rw [← hW10]; exact (s7.below hb9 s7.lt).alloc _
      have a10 : Bk W10 W6.heap.size 24 #[.slice Aa a.b.length ca, .int .i64 a.s, .int .i64 a.r] := by rw [← hW10]; exact (a7.below hb9 a7.lt).alloc _
      have r10 : Bk W10 W9.heap.size 24 #[.slice A9 b.length c9, .int .i64 b.length, .int .i64 d.own.r] := by rw [← hW10]; exact Bk.new _ _ _
      have p10 : W10.ownsRow W8.heap.size 5 1 (.slice A9 b.length c9) b.length (u8s b) := by rw [← hW10]; exact o9.alloc _
      have o10 : W10.ownsRow W5.heap.size 5 1 (.slice Aa a.b.length ca) a.b.length (u8s a.b) := by rw [← hW10]; exact (own_below o7 hb9 (Nat.le_refl _)).alloc _
      have hz10 := bw10.size
      have j0 : W10.cell? ⟨W6.heap.size, 0, none⟩ = _ := a10.cell 0
      have j1 : W10.cell? ⟨W6.heap.size, 1, none⟩ = _ := a10.cell 1
      have j2 : W10.cell? ⟨W6.heap.size, 2, none⟩ = _ := a10.cell 2
      go_wp2_with fail
      refine (sync_any _ Aa ca a _ (Rd.of_own o10) (by omega) (own_cap o10)).mono ?_
      rintro e W11 ⟨A11, c11, rfl, o11, hb11⟩
      clear hW10 j0 j1 j2
      have hz11 := hb11.size
      have bw11 : Below w.heap.size w W11 := bw10.trans (hb11.mono (by omega))
      have haol := a.own_len
      have hasl : a.sync.b.length ≤ a.own.b.length := Nat.le_refl _
      go_wp2_with fail
      refine (crash_any _ A11 c11 a.sync 0 _ (Rd.of_own o11) (by omega) (own_cap o11)).mono ?_
      rw [a.sync_crash]
      rintro e W12 ⟨A12, c12, rfl, o12, hb12⟩
      have hz12 := hb12.size
      have bw12 : Below w.heap.size w W12 := bw11.trans (hb12.mono (by omega))
      obtain ⟨W13, hW13⟩ : ∃ W13, W12.alloc (.cells #[.slice A12 a.sync.b.length c12, .int .i64 a.sync.s, .int .i64 a.sync.r] 24) = W13 := ⟨_, rfl⟩
      have bw13 : Below w.heap.size w W13 := by rw [← hW13]; exact bw12.alloc bw12.size _
      have s13 : Bk W13 W2.heap.size 24 #[.slice As b.length cs, .int .i64 b.length, .int .i64 d.own.r] := by rw [← hW13]; exact ((s10.below hb11 s10.lt).below hb12 (by have := s10.lt; omega)).alloc _
      have r13 : Bk W13 W9.heap.size 24 #[.slice A9 b.length c9, .int .i64 b.length, .int .i64 d.own.r] := by rw [← hW13]; exact ((r10.below hb11 r10.lt).below hb12 (by have := r10.lt; omega)).alloc _
      have q13 : Bk W13 W12.heap.size 24 #[.slice A12 a.sync.b.length c12, .int .i64 a.sync.s, .int .i64 a.sync.r] := by rw [← hW13]; exact Bk.new _ _ _
      have p13 : W13.ownsRow W8.heap.size 5 1 (.slice A9 b.length c9) b.length (u8s b) := by rw [← hW13]; exact (own_below (own_below p10 hb11 (Nat.le_refl _)) hb12 (Nat.le_refl _)).alloc _
      have hz13 := bw13.size
      have ls := s13.lt
      have lr := r13.lt
      have lq := q13.lt
      go_wp2_with fail
      clear hW13
      have hE0 : ∀ {W : World}, Below W13.drew.heap.size W13.drew W → Below W13.heap.size W13 W := fun h => (Below.refl _ _).drew.trans h
      refine wp_region_rg 32 [] [.inl (.pointer (some ⟨W9.heap.size, 0, none⟩)), .inl (.slice A9 b.length c9), .inl (.slice B b.length cb), .inl (.bool true), .inl (.bool true), .inl (.int .i64 (0)), .inl (.bool false), .inl (.bool false), .inl (.pointer (some ⟨W12.heap.size, 0, none⟩)), .inl (.slice A12 a.sync.b.length c12), .inl (.int .i64 ((a.sync.b.length : Int))), .inl (.slice B b.length cb), .inl (.int .i64 ((b.length : Int))), .inl (.slice M more.length cm), .inl (.int .i64 ((more.length : Int))), .inl (.int .i64 ((b.length : Int) + more.length)), .inl (.bool true), .inl (.bool true), .inl (.bool true), .inl (.bool true), .inl (.agg #[.slice As b.length cs, .int .i64 b.length, .int .i64 d.own.r]), .inl (.int .i64 (d.own.r - b.length)), .inl (.pointer (some ⟨W2.heap.size, 2, none⟩)), .inl (.int .i64 (d.own.r)), .inl (.slice B b.length cb), .inl (.int .i64 ((b.length : Int))), .inl (.int .i64 (d.own.r - b.length)), .inl (.bool true), .inl (.bool true), .inl (.bool true), .inl (.bool true), .inl (.bool true)]
          (by kernel_rfl) (by kernel_rfl) rfl rfl ?_ ?_
      · rintro (_ | _ | _ | _ | _ | _ | _ | _ | _ | _ | _ | _ | _ | _ | _ | _ | _ | _ | _ | _ | _ | _ | _ | _ | _ | _ | _ | _ | _ | _ | _ | _ | j) φ h <;> simp at h
      refine RG_det (fun W hE hN => ?_) ?_
      · go_wp2
        exact ⟨⟨rfl, Below.refl _ _⟩, rfl⟩
      refine RG_det (fun W hE hN => ?_) ?_
      · have k := r13.below (hE0 hE) lr
        have e0 : W.cell? ⟨W9.heap.size, 0, none⟩ = _ := k.cell 0
        go_wp2
        exact ⟨⟨rfl, Below.refl _ _⟩, rfl⟩
      refine RG_det (fun W hE hN => ?_) ?_
      · go_wp2
        exact ⟨⟨rfl, Below.refl _ _⟩, rfl⟩
      refine RG_det (fun W hE hN => ?_) ?_
      · go_wp2_with fail
        refine (same_true _ lob A9 B c9 cb b _ ((Rd.of_own (own_below p13 (hE0 hE) (Nat.le_refl _))).wide (Nat.le_refl _) (Nat.le_refl _)) ((hrb.below (bw13.trans ((hE0 hE).mono (by omega))) (Nat.le_refl _)).wide (Nat.le_refl _) (by have := (hE0 hE).size; omega))).mono ?_
        rintro e w1 ⟨rfl, rfl⟩
        go_wp2
        exact ⟨⟨rfl, Below.refl _ _⟩, rfl⟩
      simp only [Act.put, List.setIfInBounds_toArray, List.set_cons_succ, List.set_cons_zero, List.nil_append, List.cons_append]
      refine RG_det (fun W hE hN => ?_) ?_
      · go_wp2
        exact ⟨⟨rfl, Below.refl _ _⟩, rfl⟩
      refine RG_det (fun W hE hN => ?_) ?_
      · go_wp2
        exact ⟨⟨rfl, Below.refl _ _⟩, rfl⟩
      refine RG_det (fun W hE hN => ?_) ?_
      · go_wp2
        exact ⟨⟨rfl, Below.refl _ _⟩, rfl⟩
      refine RG_det (fun W hE hN => ?_) ?_
      · go_wp2
        exact ⟨⟨rfl, Below.refl _ _⟩, rfl⟩
      simp only [Act.put, List.setIfInBounds_toArray, List.set_cons_succ, List.set_cons_zero, List.nil_append, List.cons_append]
      refine RG_det (fun W hE hN => ?_) ?_
      · go_wp2
        exact ⟨⟨rfl, Below.refl _ _⟩, rfl⟩
      refine RG_det (fun W hE hN => ?_) ?_
      · have k := q13.below (hE0 hE) lq
        have e0 : W.cell? ⟨W12.heap.size, 0, none⟩ = _ := k.cell 0
        go_wp2
        exact ⟨⟨rfl, Below.refl _ _⟩, rfl⟩
      refine RG_det (fun W hE hN => ?_) ?_
      · go_wp2
        exact ⟨⟨rfl, Below.refl _ _⟩, rfl⟩
      refine RG_det (fun W hE hN => ?_) ?_
      · go_wp2
        exact ⟨⟨rfl, Below.refl _ _⟩, rfl⟩
      simp only [Act.put, List.setIfInBounds_toArray, List.set_cons_succ, List.set_cons_zero, List.nil_append, List.cons_append]
      refine RG_det (fun W hE hN => ?_) ?_
      · go_wp2
        exact ⟨⟨rfl, Below.refl _ _⟩, rfl⟩
      refine RG_det (fun W hE hN => ?_) ?_
      · go_wp2
        exact ⟨⟨rfl, Below.refl _ _⟩, rfl⟩
      refine RG_det (fun W hE hN => ?_) ?_
      · go_wp2
        exact ⟨⟨rfl, Below.refl _ _⟩, rfl⟩
      refine RG_det (fun W hE hN => ?_) ?_
      · go_wp2
        exact ⟨⟨rfl, Below.refl _ _⟩, rfl⟩
      simp only [Act.put, List.setIfInBounds_toArray, List.set_cons_succ, List.set_cons_zero, List.nil_append, List.cons_append]
      refine RG_det (fun W hE hN => ?_) ?_
      · have hp := hpl.out
        go_wp2
        exact ⟨⟨rfl, Below.refl _ _⟩, rfl⟩
      refine RG_det (fun W hE hN => ?_) ?_
      · go_wp2
        exact ⟨⟨rfl, Below.refl _ _⟩, rfl⟩
      refine RG_det (fun W hE hN => ?_) ?_
      · go_wp2
        exact ⟨⟨rfl, Below.refl _ _⟩, rfl⟩
      refine RG_det (fun W hE hN => ?_) ?_
      · go_wp2
        exact ⟨⟨rfl, Below.refl _ _⟩, rfl⟩
      simp only [Act.put, List.setIfInBounds_toArray, List.set_cons_succ, List.set_cons_zero, List.nil_append, List.cons_append]
      refine RG_det (fun W hE hN => ?_) ?_
      · have k := s13.below (hE0 hE) ls
        have e0 : W.cell? ⟨W2.heap.size, 0, none⟩ = _ := k.cell 0
        have e1 : W.cell? ⟨W2.heap.size, 1, none⟩ = _ := k.cell 1
        have e2 : W.cell? ⟨W2.heap.size, 2, none⟩ = _ := k.cell 2
        go_wp2
        exact ⟨⟨rfl, Below.refl _ _⟩, rfl⟩
      refine RG_det (fun W hE hN => ?_) ?_
      · go_wp2_with fail
        refine (free_any As cs ⟨b, b.length, d.own.r⟩ _ (by simp only; omega)).mono ?_
        rw [hso]
        rintro e w1 ⟨rfl, hbl1⟩
        go_wp2
        exact ⟨⟨rfl, hbl1⟩, rfl⟩
      refine RG_det (fun W hE hN => ?_) ?_
      · go_wp2
        exact ⟨⟨rfl, Below.refl _ _⟩, rfl⟩
      refine RG_det (fun W hE hN => ?_) ?_
      · have k := s13.below (hE0 hE) ls
        have e2 : W.cell? ⟨W2.heap.size, 2, none⟩ = _ := k.cell 2
        go_wp2
        exact ⟨⟨rfl, Below.refl _ _⟩, rfl⟩
      simp only [Act.put, List.setIfInBounds_toArray, List.set_cons_succ, List.set_cons_zero, List.nil_append, List.cons_append]
      refine RG_det (fun W hE hN => ?_) ?_
      · go_wp2
        exact ⟨⟨rfl, Below.refl _ _⟩, rfl⟩
      refine RG_det (fun W hE hN => ?_) ?_
      · go_wp2
        exact ⟨⟨rfl, Below.refl _ _⟩, rfl⟩
      refine RG_det (fun W hE hN => ?_) ?_
      · go_wp2
        exact ⟨⟨rfl, Below.refl _ _⟩, rfl⟩
      refine RG_det (fun W hE hN => ?_) ?_
      · go_wp2
        exact ⟨⟨rfl, Below.refl _ _⟩, rfl⟩
      simp only [Act.put, List.setIfInBounds_toArray, List.set_cons_succ, List.set_cons_zero, List.nil_append, List.cons_append]
      refine RG_det (fun W hE hN => ?_) ?_
      · go_wp2
        exact ⟨⟨rfl, Below.refl _ _⟩, rfl⟩
      refine RG_det (fun W hE hN => ?_) ?_
      · go_wp2
        exact ⟨⟨rfl, Below.refl _ _⟩, rfl⟩
      refine RG_det (fun W hE hN => ?_) ?_
      · go_wp2_with fail
        refine (wakes_any _).mono ?_
        rintro e w1 ⟨rfl, hbl1⟩
        go_wp2
        exact ⟨⟨rfl, hbl1⟩, rfl⟩
      refine RG_det (fun W hE hN => ?_) ?_
      · go_wp2
        exact ⟨⟨rfl, Below.refl _ _⟩, rfl⟩
      simp only [Act.put, List.setIfInBounds_toArray, List.set_cons_succ, List.set_cons_zero, List.nil_append, List.cons_append]
      refine RG_end (fun W hE _ _ => ?_)
      replace hE := hE0 hE
      dsimp only [List.drop]
      go_wp2
      go_ret
      exact ⟨ret_b rfl, bw13.trans (hE.mono (by omega))⟩
    · rw [he]
      go_wp2_with fail
      refine (crash_any _ Aa ca a 0 _ (Rd.of_own o7) (by omega) (own_cap o7)).mono ?_
      rw [hac]
      rintro e W9 ⟨A9, c9, rfl, o9, hb9⟩
      simp only at o9
      clear g0 g1 i2 j0 j1 j2
      have hz9 := hb9.size
      have bw9 : Below w.heap.size w W9 := bw7.trans (hb9.mono (by omega))
      obtain ⟨W10, hW10⟩ : ∃ W10, W9.alloc (.cells #[.slice A9 b.length c9, .int .i64 b.length, .int .i64 d.own.r] 24) = W10 := ⟨_, rfl⟩
      have bw10 : Below w.heap.size w W10 := by rw [← hW10]; exact bw9.alloc bw9.size _
      have s10 : Bk W10 W2.heap.size 24 #[.slice As b.length cs, .int .i64 b.length, .int .i64 d.own.r] := by rw [← hW10]; exact (s7.below hb9 s7.lt).alloc _
      have a10 : Bk W10 W6.heap.size 24 #[.slice Aa a.b.length ca, .int .i64 a.s, .int .i64 a.r] := by rw [← hW10]; exact (a7.below hb9 a7.lt).alloc _
      have r10 : Bk W10 W9.heap.size 24 #[.slice A9 b.length c9, .int .i64 b.length, .int .i64 d.own.r] := by rw [← hW10]; exact Bk.new _ _ _
      have p10 : W10.ownsRow W8.heap.size 5 1 (.slice A9 b.length c9) b.length (u8s b) := by rw [← hW10]; exact o9.alloc _
      have o10 : W10.ownsRow W5.heap.size 5 1 (.slice Aa a.b.length ca) a.b.length (u8s a.b) := by rw [← hW10]; exact (own_below o7 hb9 (Nat.le_refl _)).alloc _
      have hz10 := bw10.size
      have j0 : W10.cell? ⟨W6.heap.size, 0, none⟩ = _ := a10.cell 0
      have j1 : W10.cell? ⟨W6.heap.size, 1, none⟩ = _ := a10.cell 1
      have j2 : W10.cell? ⟨W6.heap.size, 2, none⟩ = _ := a10.cell 2
      go_wp2_with fail
      refine (sync_any _ Aa ca a _ (Rd.of_own o10) (by omega) (own_cap o10)).mono ?_
      rintro e W11 ⟨A11, c11, rfl, o11, hb11⟩
      clear hW10 j0 j1 j2
      have hz11 := hb11.size
      have bw11 : Below w.heap.size w W11 := bw10.trans (hb11.mono (by omega))
      have haol := a.own_len
      have hasl : a.sync.b.length ≤ a.own.b.length := Nat.le_refl _
      go_wp2_with fail
      refine (crash_any _ A11 c11 a.sync 0 _ (Rd.of_own o11) (by omega) (own_cap o11)).mono ?_
      rw [a.sync_crash]
      rintro e W12 ⟨A12, c12, rfl, o12, hb12⟩
      have hz12 := hb12.size
      have bw12 : Below w.heap.size w W12 := bw11.trans (hb12.mono (by omega))
      obtain ⟨W13, hW13⟩ : ∃ W13, W12.alloc (.cells #[.slice A12 a.sync.b.length c12, .int .i64 a.sync.s, .int .i64 a.sync.r] 24) = W13 := ⟨_, rfl⟩
      have bw13 : Below w.heap.size w W13 := by rw [← hW13]; exact bw12.alloc bw12.size _
      have s13 : Bk W13 W2.heap.size 24 #[.slice As b.length cs, .int .i64 b.length, .int .i64 d.own.r] := by rw [← hW13]; exact ((s10.below hb11 s10.lt).below hb12 (by have := s10.lt; omega)).alloc _
      have r13 : Bk W13 W9.heap.size 24 #[.slice A9 b.length c9, .int .i64 b.length, .int .i64 d.own.r] := by rw [← hW13]; exact ((r10.below hb11 r10.lt).below hb12 (by have := r10.lt; omega)).alloc _
      have q13 : Bk W13 W12.heap.size 24 #[.slice A12 a.sync.b.length c12, .int .i64 a.sync.s, .int .i64 a.sync.r] := by rw [← hW13]; exact Bk.new _ _ _
      have p13 : W13.ownsRow W8.heap.size 5 1 (.slice A9 b.length c9) b.length (u8s b) := by rw [← hW13]; exact (own_below (own_below p10 hb11 (Nat.le_refl _)) hb12 (Nat.le_refl _)).alloc _
      have hz13 := bw13.size
      have ls := s13.lt
      have lr := r13.lt
      have lq := q13.lt
      go_wp2_with fail
      clear hW13
      have hE0 : ∀ {W : World}, Below W13.drew.heap.size W13.drew W → Below W13.heap.size W13 W := fun h => (Below.refl _ _).drew.trans h
      refine wp_region_rg 32 [] [.inl (.pointer (some ⟨W9.heap.size, 0, none⟩)), .inl (.slice A9 b.length c9), .inl (.slice B b.length cb), .inl (.bool true), .inl (.bool true), .inl (.int .i64 (30)), .inl (.bool true), .inl (.bool true), .inl undef, .inl undef, .inl undef, .inl undef, .inl undef, .inl undef, .inl undef, .inl undef, .inl undef, .inl (.bool true), .inl (.bool true), .inl (.bool true), .inl (.agg #[.slice As b.length cs, .int .i64 b.length, .int .i64 d.own.r]), .inl (.int .i64 (d.own.r - b.length)), .inl (.pointer (some ⟨W2.heap.size, 2, none⟩)), .inl (.int .i64 (d.own.r)), .inl (.slice B b.length cb), .inl (.int .i64 ((b.length : Int))), .inl (.int .i64 (d.own.r - b.length)), .inl (.bool true), .inl (.bool true), .inl (.bool true), .inl (.bool true), .inl (.bool true)]
          (by kernel_rfl) (by kernel_rfl) rfl rfl ?_ ?_
      · rintro (_ | _ | _ | _ | _ | _ | _ | _ | _ | _ | _ | _ | _ | _ | _ | _ | _ | _ | _ | _ | _ | _ | _ | _ | _ | _ | _ | _ | _ | _ | _ | _ | j) φ h <;> simp at h
      refine RG_det (fun W hE hN => ?_) ?_
      · go_wp2
        exact ⟨⟨rfl, Below.refl _ _⟩, rfl⟩
      refine RG_det (fun W hE hN => ?_) ?_
      · have k := r13.below (hE0 hE) lr
        have e0 : W.cell? ⟨W9.heap.size, 0, none⟩ = _ := k.cell 0
        go_wp2
        exact ⟨⟨rfl, Below.refl _ _⟩, rfl⟩
      refine RG_det (fun W hE hN => ?_) ?_
      · go_wp2
        exact ⟨⟨rfl, Below.refl _ _⟩, rfl⟩
      refine RG_det (fun W hE hN => ?_) ?_
      · go_wp2_with fail
        refine (same_true _ lob A9 B c9 cb b _ ((Rd.of_own (own_below p13 (hE0 hE) (Nat.le_refl _))).wide (Nat.le_refl _) (Nat.le_refl _)) ((hrb.below (bw13.trans ((hE0 hE).mono (by omega))) (Nat.le_refl _)).wide (Nat.le_refl _) (by have := (hE0 hE).size; omega))).mono ?_
        rintro e w1 ⟨rfl, rfl⟩
        go_wp2
        exact ⟨⟨rfl, Below.refl _ _⟩, rfl⟩
      simp only [Act.put, List.setIfInBounds_toArray, List.set_cons_succ, List.set_cons_zero, List.nil_append, List.cons_append]
      refine RG_det (fun W hE hN => ?_) ?_
      · go_wp2
        exact ⟨⟨rfl, Below.refl _ _⟩, rfl⟩
      refine RG_det (fun W hE hN => ?_) ?_
      · go_wp2
        exact ⟨⟨rfl, Below.refl _ _⟩, rfl⟩
      refine RG_det (fun W hE hN => ?_) ?_
      · go_wp2
        exact ⟨⟨rfl, Below.refl _ _⟩, rfl⟩
      refine RG_det (fun W hE hN => ?_) ?_
      · go_wp2
        exact ⟨⟨rfl, Below.refl _ _⟩, rfl⟩
      simp only [Act.put, List.setIfInBounds_toArray, List.set_cons_succ, List.set_cons_zero, List.nil_append, List.cons_append]
      refine RG_det (fun W hE hN => ?_) ?_
      · go_wp2
        exact ⟨⟨rfl, Below.refl _ _⟩, rfl⟩
      refine RG_det (fun W hE hN => ?_) ?_
      · go_wp2
        exact ⟨⟨rfl, Below.refl _ _⟩, rfl⟩
      refine RG_det (fun W hE hN => ?_) ?_
      · go_wp2
        exact ⟨⟨rfl, Below.refl _ _⟩, rfl⟩
      refine RG_det (fun W hE hN => ?_) ?_
      · go_wp2
        exact ⟨⟨rfl, Below.refl _ _⟩, rfl⟩
      simp only [Act.put, List.setIfInBounds_toArray, List.set_cons_succ, List.set_cons_zero, List.nil_append, List.cons_append]
      refine RG_det (fun W hE hN => ?_) ?_
      · go_wp2
        exact ⟨⟨rfl, Below.refl _ _⟩, rfl⟩
      refine RG_det (fun W hE hN => ?_) ?_
      · go_wp2
        exact ⟨⟨rfl, Below.refl _ _⟩, rfl⟩
      refine RG_det (fun W hE hN => ?_) ?_
      · go_wp2
        exact ⟨⟨rfl, Below.refl _ _⟩, rfl⟩
      refine RG_det (fun W hE hN => ?_) ?_
      · go_wp2
        exact ⟨⟨rfl, Below.refl _ _⟩, rfl⟩
      simp only [Act.put, List.setIfInBounds_toArray, List.set_cons_succ, List.set_cons_zero, List.nil_append, List.cons_append]
      refine RG_det (fun W hE hN => ?_) ?_
      · go_wp2
        exact ⟨⟨rfl, Below.refl _ _⟩, rfl⟩
      refine RG_det (fun W hE hN => ?_) ?_
      · go_wp2
        exact ⟨⟨rfl, Below.refl _ _⟩, rfl⟩
      refine RG_det (fun W hE hN => ?_) ?_
      · go_wp2
        exact ⟨⟨rfl, Below.refl _ _⟩, rfl⟩
      refine RG_det (fun W hE hN => ?_) ?_
      · go_wp2
        exact ⟨⟨rfl, Below.refl _ _⟩, rfl⟩
      simp only [Act.put, List.setIfInBounds_toArray, List.set_cons_succ, List.set_cons_zero, List.nil_append, List.cons_append]
      refine RG_det (fun W hE hN => ?_) ?_
      · have k := s13.below (hE0 hE) ls
        have e0 : W.cell? ⟨W2.heap.size, 0, none⟩ = _ := k.cell 0
        have e1 : W.cell? ⟨W2.heap.size, 1, none⟩ = _ := k.cell 1
        have e2 : W.cell? ⟨W2.heap.size, 2, none⟩ = _ := k.cell 2
        go_wp2
        exact ⟨⟨rfl, Below.refl _ _⟩, rfl⟩
      refine RG_det (fun W hE hN => ?_) ?_
      · go_wp2_with fail
        refine (free_any As cs ⟨b, b.length, d.own.r⟩ _ (by simp only; omega)).mono ?_
        rw [hso]
        rintro e w1 ⟨rfl, hbl1⟩
        go_wp2
        exact ⟨⟨rfl, hbl1⟩, rfl⟩
      refine RG_det (fun W hE hN => ?_) ?_
      · go_wp2
        exact ⟨⟨rfl, Below.refl _ _⟩, rfl⟩
      refine RG_det (fun W hE hN => ?_) ?_
      · have k := s13.below (hE0 hE) ls
        have e2 : W.cell? ⟨W2.heap.size, 2, none⟩ = _ := k.cell 2
        go_wp2
        exact ⟨⟨rfl, Below.refl _ _⟩, rfl⟩
      simp only [Act.put, List.setIfInBounds_toArray, List.set_cons_succ, List.set_cons_zero, List.nil_append, List.cons_append]
      refine RG_det (fun W hE hN => ?_) ?_
      · go_wp2
        exact ⟨⟨rfl, Below.refl _ _⟩, rfl⟩
      refine RG_det (fun W hE hN => ?_) ?_
      · go_wp2
        exact ⟨⟨rfl, Below.refl _ _⟩, rfl⟩
      refine RG_det (fun W hE hN => ?_) ?_
      · go_wp2
        exact ⟨⟨rfl, Below.refl _ _⟩, rfl⟩
      refine RG_det (fun W hE hN => ?_) ?_
      · go_wp2
        exact ⟨⟨rfl, Below.refl _ _⟩, rfl⟩
      simp only [Act.put, List.setIfInBounds_toArray, List.set_cons_succ, List.set_cons_zero, List.nil_append, List.cons_append]
      refine RG_det (fun W hE hN => ?_) ?_
      · go_wp2
        exact ⟨⟨rfl, Below.refl _ _⟩, rfl⟩
      refine RG_det (fun W hE hN => ?_) ?_
      · go_wp2
        exact ⟨⟨rfl, Below.refl _ _⟩, rfl⟩
      refine RG_det (fun W hE hN => ?_) ?_
      · go_wp2_with fail
        refine (wakes_any _).mono ?_
        rintro e w1 ⟨rfl, hbl1⟩
        go_wp2
        exact ⟨⟨rfl, hbl1⟩, rfl⟩
      refine RG_det (fun W hE hN => ?_) ?_
      · go_wp2
        exact ⟨⟨rfl, Below.refl _ _⟩, rfl⟩
      simp only [Act.put, List.setIfInBounds_toArray, List.set_cons_succ, List.set_cons_zero, List.nil_append, List.cons_append]
      refine RG_end (fun W hE _ _ => ?_)
      replace hE := hE0 hE
      dsimp only [List.drop]
      go_wp2
      go_ret
      exact ⟨ret_b rfl, bw13.trans (hE.mono (by omega))⟩
  · obtain ⟨hs, he⟩ := d.swap_full b (by omega)
    rw [hs, he]
    rw [hs] at o2
    obtain ⟨W3, hW3⟩ : ∃ W3, W2.alloc (.cells #[.slice As d.own.b.length cs, .int .i64 d.own.s, .int .i64 d.own.r] 24) = W3 := ⟨_, rfl⟩
    have bw3 : Below w.heap.size w W3 := by rw [← hW3]; exact bw2.alloc bw2.size _
    have k3 : Bk W3 w.heap.size 24 #[.slice A d.b.length c, .int .i64 d.s, .int .i64 d.r] := by rw [← hW3]; exact k2.alloc _
    have s3 : Bk W3 W2.heap.size 24 #[.slice As d.own.b.length cs, .int .i64 d.own.s, .int .i64 d.own.r] := by rw [← hW3]; exact Bk.new _ _ _
    have o3 : W3.ownsRow W1.heap.size 5 1 (.slice As d.own.b.length cs) d.own.b.length (u8s d.own.b) := by rw [← hW3]; exact o2.alloc _
    have hz3 := bw3.size
    have e0 : W3.cell? ⟨w.heap.size, 0, none⟩ = _ := k3.cell 0
    have e1 : W3.cell? ⟨w.heap.size, 1, none⟩ = _ := k3.cell 1
    have e2 : W3.cell? ⟨w.heap.size, 2, none⟩ = _ := k3.cell 2
    have g0 : W3.cell? ⟨W2.heap.size, 0, none⟩ = _ := s3.cell 0
    have g1 : W3.cell? ⟨W2.heap.size, 1, none⟩ = _ := s3.cell 1
    have g2 : W3.cell? ⟨W2.heap.size, 2, none⟩ = _ := s3.cell 2
    go_wp2_with fail
    refine (dsame_true _ lo As A cs c d.own d _ d.own_own ((Rd.of_own o3).wide (Nat.le_refl _) (Nat.le_refl _)) ((hr.below bw3 (Nat.le_refl _)).wide (Nat.le_refl _) (by omega)) (by omega) (own_cap o3) (by omega) hc).mono ?_
    rintro e W4 ⟨rfl, hb4⟩
    clear hW3
    have bw4 : Below w.heap.size w W4 := bw3.trans (hb4.mono (by omega))
    have k4 := k3.below hb4 k3.lt
    have hz4 := bw4.size
    have i0 : W4.cell? ⟨w.heap.size, 0, none⟩ = _ := k4.cell 0
    have i1 : W4.cell? ⟨w.heap.size, 1, none⟩ = _ := k4.cell 1
    have i2 : W4.cell? ⟨w.heap.size, 2, none⟩ = _ := k4.cell 2
    have hfl := fld2
    go_wp2_with fail
    refine (own_any lo A c d _ ((hr.below bw4 (Nat.le_refl _)).wide (Nat.le_refl _) (by omega)) (by omega) hc).mono ?_
    rintro e W5 ⟨A5, c5, rfl, o5, hb5⟩
    have bw5 : Below w.heap.size w W5 := bw4.trans (hb5.mono (by omega))
    have hz5 := bw5.size
    have hgt : d.own.r < (b.length : Int) := by omega
    go_wp2_with fail
    refine (wakes_any _).mono ?_
    rintro e W6 ⟨rfl, hb6⟩
    go_wp2
    go_ret
    exact ⟨ret_b rfl, bw5.trans (hb6.mono (by omega))⟩

end Go.Proofs.Ythlmleemapeohaa
