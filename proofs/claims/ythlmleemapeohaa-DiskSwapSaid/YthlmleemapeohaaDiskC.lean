/-
Contracts of the disk's functions: Same, Sync, Crash, Swap, Append, Free, New.
-/
import Derived.Test.YthlmleemapeohaaDiskB
import Derived.Test.YthlmleemapeohaaDraw
namespace Go.Proofs.Ythlmleemapeohaa
open Go.RowKit

/-- A disk that was made. -/
def IsDk (base : Nat) (d : Dk) (u : Value) (W : World) : Prop :=
  ∃ A c, u = .agg #[.slice A d.b.length c, .int .i64 d.s, .int .i64 d.r] ∧ W.ownsRow base 5 1 (.slice A d.b.length c) d.b.length (u8s d.b)

theorem IsDk.below {base B : Nat} {d : Dk} {u : Value} {W W' : World} (h : IsDk base d u W) (hb : Below B W W') (hB : W.heap.size ≤ B) : IsDk base d u W' := by
  obtain ⟨A, c, rfl, h⟩ := h
  exact ⟨A, c, rfl, own_below h hb hB⟩

set_option maxHeartbeats 1000000 in
theorem dsame_any (lo lo' : Nat) (A B : Option Addr) (c c' : Nat) (d d' : Dk) (w : World) (hr : Rd w lo w.heap.size A (u8s d.b)) (hr' : Rd w lo' w.heap.size B (u8s d'.b))
    (hn : d.b.length ≤ 1000000) (hc : d.b.length ≤ c) (hn' : d'.b.length ≤ 1000000) (hc' : d'.b.length ≤ c') :
    Calls Try.prog 13 #[.agg #[.slice A d.b.length c, .int .i64 d.s, .int .i64 d.r], .agg #[.slice B d'.b.length c', .int .i64 d'.s, .int .i64 d'.r]] w fun e w' =>
      e = .returned (.bool (decide (d.own.b = d'.own.b) && d.own.s == d'.own.s && d.own.r == d'.own.r)) ∧ Below w.heap.size w w' := by
  go_enter Try.func13, Try.ntmps13
  go_wp2_with fail
  obtain ⟨W0, hW0⟩ : ∃ W0, ((w.alloc (.cells #[.slice A d.b.length c, .int .i64 d.s, .int .i64 d.r] 24)).alloc (.cells #[.slice B d'.b.length c', .int .i64 d'.s, .int .i64 d'.r] 24)) = W0 := ⟨_, rfl⟩
  have hz : w.heap.size + 2 ≤ W0.heap.size := by rw [← hW0]; simp
  have hb0 : Bk W0 w.heap.size 24 #[.slice A d.b.length c, .int .i64 d.s, .int .i64 d.r] := by rw [← hW0]; exact (Bk.new _ _ _).alloc _
  have hb1 : Bk W0 (w.heap.size + 1) 24 #[.slice B d'.b.length c', .int .i64 d'.s, .int .i64 d'.r] := by rw [← hW0]; simpa using (Bk.new (w.alloc (.cells #[.slice A d.b.length c, .int .i64 d.s, .int .i64 d.r] 24)) 24 #[.slice B d'.b.length c', .int .i64 d'.s, .int .i64 d'.r])
  have hbel : Below w.heap.size w W0 := by rw [← hW0]; exact ((Below.refl _ _).alloc (Nat.le_refl _) _).alloc (by simp) _
  rw [hW0]
  clear hW0
  have hA := hr.below hbel (Nat.le_refl _)
  have hB := hr'.below hbel (Nat.le_refl _)
  have hE0 : ∀ {W : World}, Below W0.drew.heap.size W0.drew W → Below W0.heap.size W0 W := fun h => (Below.refl _ _).drew.trans h
  refine wp_region_rg 4 [] [.inl (.agg #[.slice A d.b.length c, .int .i64 d.s, .int .i64 d.r]), .inr (IsDk W0.heap.size d.own), .inl (.agg #[.slice B d'.b.length c', .int .i64 d'.s, .int .i64 d'.r]), .inr (IsDk W0.heap.size d'.own)]
    (by kernel_rfl) (by kernel_rfl) rfl rfl ?_ ?_
  · rintro (_ | _ | _ | _ | j) φ h <;> simp at h <;> subst h <;> exact fun u W W' hp hb => hp.below hb (Nat.le_refl _)
  refine RG_det (fun W hE _ => ?_) (RG_nd (fun W hE _ => ?_) (fun u1 => RG_det (fun W hE _ => ?_) (RG_nd (fun W hE _ => ?_) (fun u2 => RG_end (fun W hE hN _ => ?_)))))
  · have k := hb0.below (hE0 hE) (by omega)
    have e0 : W.cell? ⟨w.heap.size, 0, none⟩ = _ := k.cell 0
    have e1 : W.cell? ⟨w.heap.size, 1, none⟩ = _ := k.cell 1
    have e2 : W.cell? ⟨w.heap.size, 2, none⟩ = _ := k.cell 2
    go_wp2
    exact ⟨⟨rfl, Below.refl _ _⟩, rfl⟩
  · replace hE := hE0 hE
    have hz' := hE.size
    go_wp2_with (go_at_call 10; refine (own_any lo A c d _ ((hA.below hE (by omega)).wide (Nat.le_refl _) (by omega)) hn hc).mono ?_; rintro e w1 ⟨A1, c1, rfl, hown1, hbl1⟩)
    exact ⟨⟨⟨A1, c1, rfl, own_base hown1 hz'⟩, hbl1, by simp⟩, rfl⟩
  · have k := hb1.below (hE0 hE) (by omega)
    have e0 : W.cell? ⟨w.heap.size + 1, 0, none⟩ = _ := k.cell 0
    have e1 : W.cell? ⟨w.heap.size + 1, 1, none⟩ = _ := k.cell 1
    have e2 : W.cell? ⟨w.heap.size + 1, 2, none⟩ = _ := k.cell 2
    go_wp2
    exact ⟨⟨rfl, Below.refl _ _⟩, rfl⟩
  · replace hE := hE0 hE
    have hz' := hE.size
    go_wp2_with (go_at_call 10; refine (own_any lo' B c' d' _ ((hB.below hE (by omega)).wide (Nat.le_refl _) (by omega)) hn' hc').mono ?_; rintro e w1 ⟨A1, c1, rfl, hown1, hbl1⟩)
    exact ⟨⟨⟨A1, c1, rfl, own_base hown1 hz'⟩, hbl1, by simp⟩, rfl⟩
  obtain ⟨⟨A1, c1, h1, hown1⟩, ⟨A2, c2, h2, hown2⟩, _⟩ := hN
  replace hE := hE0 hE
  obtain rfl : u1 = _ := h1
  obtain rfl : u2 = _ := h2
  dsimp only [List.drop]
  have hz' := hE.size
  have k0 := hb0.below hE (by omega)
  have k1 := hb1.below hE (by omega)
  have e0 : W.cell? ⟨w.heap.size, 0, none⟩ = _ := k0.cell 0
  have e1 : W.cell? ⟨w.heap.size, 1, none⟩ = _ := k0.cell 1
  have e2 : W.cell? ⟨w.heap.size, 2, none⟩ = _ := k0.cell 2
  have f0 := k0.frozen 0
  have f1 := k0.frozen 1
  have f2 := k0.frozen 2
  have e3 : W.cell? ⟨w.heap.size + 1, 0, none⟩ = _ := k1.cell 0
  have e4 : W.cell? ⟨w.heap.size + 1, 1, none⟩ = _ := k1.cell 1
  have e5 : W.cell? ⟨w.heap.size + 1, 2, none⟩ = _ := k1.cell 2
  have f3 := k1.frozen 0
  have f4 := k1.frozen 1
  have f5 := k1.frozen 2
  have n1 := own_ne hown1 (k := w.heap.size) (.inl (by omega))
  have n2 := own_ne hown1 (k := w.heap.size + 1) (.inl (by omega))
  have n3 := own_ne hown2 (k := w.heap.size) (.inl (by omega))
  have n4 := own_ne hown2 (k := w.heap.size + 1) (.inl (by omega))
  have r1 := Rd.of_own hown1
  have r2 := Rd.of_own hown2
  clear k0 k1 hA hB hb0 hb1 hE0 hr hr'
  have hbw : Below w.heap.size w W := hbel.trans (hE.mono (by omega))
  go_wp2_with fail
  refine (equal_any W0.heap.size W0.heap.size A1 A2 c1 c2 d.own.b d'.own.b _ ?_ ?_).mono ?_
  · exact ((((((r1.setCell (.inl (by simp; omega)) _).setCell (.inl (by simp; omega)) _).setCell (.inl (by simp; omega)) _).setCell (.inl (by simp; omega)) _).setCell (.inl (by simp; omega)) _).setCell (.inl (by simp; omega)) _).wide (Nat.le_refl _) (by simp [World.setCell])
  · exact ((((((r2.setCell (.inl (by simp; omega)) _).setCell (.inl (by simp; omega)) _).setCell (.inl (by simp; omega)) _).setCell (.inl (by simp; omega)) _).setCell (.inl (by simp; omega)) _).setCell (.inl (by simp; omega)) _).wide (Nat.le_refl _) (by simp [World.setCell])
  rintro e w1 ⟨rfl, rfl⟩
  by_cases hq1 : d.own.b = d'.own.b
  · rw [decide_eq_true hq1]
    by_cases hq2 : d.own.s = d'.own.s
    · have hq3 : (d.own.s == d'.own.s) = true := by simpa using hq2
      go_wp2
      go_ret
      refine ⟨ret_b ?_, ?_⟩
      · simp [hq3, hq1]
      · exact (((((hbw.setCell (by simp) _).setCell (by simp) _).setCell (by simp) _).setCell (by simp) _).setCell (by simp) _).setCell (by simp) _
    · have hq3 : (d.own.s == d'.own.s) = false := by simpa using hq2
      go_wp2
      go_ret
      refine ⟨ret_b ?_, ?_⟩
      · simp [hq3, hq1]
      · exact (((((hbw.setCell (by simp) _).setCell (by simp) _).setCell (by simp) _).setCell (by simp) _).setCell (by simp) _).setCell (by simp) _
  · rw [decide_eq_false hq1]
    go_wp2
    go_ret
    refine ⟨ret_b ?_, ?_⟩
    · simp [hq1]
    · exact (((((hbw.setCell (by simp) _).setCell (by simp) _).setCell (by simp) _).setCell (by simp) _).setCell (by simp) _).setCell (by simp) _
end Go.Proofs.Ythlmleemapeohaa
