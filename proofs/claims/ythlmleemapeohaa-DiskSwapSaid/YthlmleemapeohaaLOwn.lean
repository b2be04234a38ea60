/-
The law DiskOwn: what is made safe or crashed twice is as once. Plain facts; the walk.
-/
import Derived.Test.YthlmleemapeohaaDiskW
namespace Go.Proofs.Ythlmleemapeohaa
open Go.RowKit

theorem Dk.sync_own (d : Dk) : d.sync.own = d.sync := by
  have h := d.own_fit
  have hx : d.sync.own.b = d.own.b := by
    show d.own.b.take _ = _
    rw [List.take_of_length_le]
    simp only [Dk.room, Dk.sync]; omega
  have hr : d.sync.room = d.own.r := by simp only [Dk.room, Dk.sync]; omega
  show Dk.mk _ _ _ = Dk.mk _ _ _
  have hx' : List.take d.sync.room.toNat d.sync.b = d.own.b := hx
  rw [hx', hr]
  simp only [Dk.sync, Dk.mk.injEq, true_and, and_true]
  omega
theorem Dk.crash_own (d : Dk) (k : Int) : (d.crash k).own = d.crash k := by
  have h := d.own_fit
  have hl := d.left_le k
  have hcl := d.crash_len k
  have hr : (d.crash k).room = d.own.r := by simp only [Dk.room, Dk.crash]; omega
  have hx' : List.take (d.crash k).room.toNat (d.crash k).b = (d.crash k).b := List.take_of_length_le (by rw [hcl, hr]; omega)
  show Dk.mk _ _ _ = _
  rw [hx', hr, hcl]
  simp only [Dk.crash, Dk.mk.injEq, true_and, and_true]
  omega
theorem Dk.sync_sync (d : Dk) : d.sync.sync = d.sync := by
  show Dk.mk _ _ _ = _
  rw [d.sync_own]
  rfl
theorem Dk.sync_crash (d : Dk) (k : Int) : d.sync.crash k = d.sync := by
  have hl : d.sync.left k = d.sync.b.length := by
    unfold Dk.left
    rw [d.sync_own]
    have : d.sync.s = d.sync.b.length := rfl
    omega
  unfold Dk.crash
  rw [hl, d.sync_own, List.take_length]
  rfl
theorem Dk.crash_sync (d : Dk) (k : Int) : (d.crash k).sync = d.crash k := by
  unfold Dk.sync
  rw [d.crash_own, d.crash_len]
  rfl
theorem Dk.crash_crash (d : Dk) (k m : Int) : (d.crash k).crash m = d.crash k := by
  have hs : (d.crash k).s = (d.crash k).b.length := by rw [d.crash_len]; rfl
  have hl : (d.crash k).left m = (d.crash k).b.length := by
    unfold Dk.left
    rw [d.crash_own]
    omega
  have h2 : (d.crash k).crash m = ⟨(d.crash k).own.b.take ((d.crash k).left m), (d.crash k).left m, (d.crash k).own.r⟩ := rfl
  rw [h2, hl, d.crash_own, List.take_length, ← hs]

/-- Same answers true of disks that count alike. -/
theorem dsame_true (lo lo' : Nat) (A B : Option Addr) (c c' : Nat) (d d' : Dk) (w : World) (he : d.own = d'.own) (hr : Rd w lo w.heap.size A (u8s d.b)) (hr' : Rd w lo' w.heap.size B (u8s d'.b))
    (hn : d.b.length ≤ 1000000) (hc : d.b.length ≤ c) (hn' : d'.b.length ≤ 1000000) (hc' : d'.b.length ≤ c') :
    Calls Try.prog 13 #[.agg #[.slice A d.b.length c, .int .i64 d.s, .int .i64 d.r], .agg #[.slice B d'.b.length c', .int .i64 d'.s, .int .i64 d'.r]] w fun e w' =>
      e = .returned (.bool true) ∧ Below w.heap.size w w' :=
  (dsame_any lo lo' A B c c' d d' w hr hr' hn hc hn' hc').mono (by rintro e w' ⟨rfl, h⟩; exact ⟨by simp [he], h⟩)
theorem same_true (lo lo' : Nat) (A B : Option Addr) (c c' : Nat) (l : List UInt8) (w : World) (hr : Rd w lo w.heap.size A (u8s l)) (hr' : Rd w lo' w.heap.size B (u8s l)) :
    Calls Try.prog 12 #[.slice A l.length c, .slice B l.length c'] w fun e w' => e = .returned (.bool true) ∧ w' = w :=
  (same_any lo lo' A B c c' l l w hr hr').mono (by rintro e w' ⟨rfl, h⟩; exact ⟨by simp, h.symm⟩)

/-- One of the facts that are given. -/
theorem phNd_at {Φs : List Ph} {vs : List Value} {W : World} (j : Nat) (φ : Value → World → Prop) (u : Value) : ∀ {js : List Nat}, phNd Φs vs W js → js.contains j = true → Φs[j]? = some (.inr φ) → vs.getD j undef = u → φ u W
  | [], _, h, _, _ => by simp at h
  | i :: js, hN, hj, hφ, hv => by
    subst hv
    unfold phNd at hN
    by_cases e : j = i
    · subst e
      rw [hφ] at hN
      exact hN.1
    · have hj' : js.contains j = true := by
        simp only [List.contains_cons, Bool.or_eq_true, beq_iff_eq] at hj
        exact hj.resolve_left e
      split at hN
      · exact phNd_at j φ _ hN.2 hj' hφ rfl
      · exact phNd_at j φ _ hN hj' hφ rfl

/-- A block of other things is no row of these. -/
theorem own_bk_ne {w : World} {base b : Nat} {e T : TypeId} {size n : Nat} {v : Value} {xs : List Value} {cs : Array Value} (h : w.ownsRow base e size v n xs) (k : Bk w b T cs) (hT : T ≠ e) : v.ownBlock ≠ some b := by
  intro hb
  rcases h.2 with ⟨rfl, _⟩ | ⟨g, cap, cur, rfl, _, hh, _⟩
  · cases hb
  · obtain rfl : g = b := by injection hb
    unfold Bk at k
    rw [k] at hh
    injection hh with hh
    injection hh with _ ht
    exact hT ht


set_option maxHeartbeats 8000000 in
theorem diskOwn_any (lo : Nat) (A : Option Addr) (c : Nat) (d : Dk) (n m : Int) (w : World) (hr : Rd w lo w.heap.size A (u8s d.b)) (hn : d.b.length ≤ maxLen) (hc : d.b.length ≤ c) :
    Calls Try.prog 4 #[.agg #[.slice A d.b.length c, .int .i64 d.s, .int .i64 d.r], .int .i64 n, .int .i64 m] w fun e w' => e = .returned (.bool true) ∧ Below w.heap.size w w' := by
  go_enter Try.func4, Try.ntmps4
  go_wp2_with fail
  obtain ⟨W0, hW0⟩ : ∃ W0, w.alloc (.cells #[.slice A d.b.length c, .int .i64 d.s, .int .i64 d.r] 24) = W0 := ⟨_, rfl⟩
  have hz : w.heap.size + 1 ≤ W0.heap.size := by rw [← hW0]; simp
  have hb0 : Bk W0 w.heap.size 24 #[.slice A d.b.length c, .int .i64 d.s, .int .i64 d.r] := by rw [← hW0]; exact Bk.new _ _ _
  have hbel : Below w.heap.size w W0 := by rw [← hW0]; exact (Below.refl _ _).alloc (Nat.le_refl _) _
  rw [hW0]
  clear hW0
  refine (great_any A d.b.length c d.s d.r _ hn).mono ?_
  rintro e W1 ⟨rfl, hb1⟩
  have k1 := hb0.below hb1 hb0.lt
  have bw1 : Below w.heap.size w W1 := hbel.trans (hb1.mono (by omega))
  have hz1 := bw1.size
  by_cases hg : 400 < d.b.length
  · rw [decide_eq_true hg]
    go_wp2_with fail
    refine (wakes_any _).mono ?_
    rintro e W2 ⟨rfl, hb2⟩
    go_wp2
    go_ret
    exact ⟨ret_b rfl, bw1.trans (hb2.mono (by omega))⟩
  rw [decide_eq_false hg]
  replace hg : d.b.length ≤ 400 := by omega
  have hol := d.own_len
  have hlt1 := k1.lt
  go_wp2_with fail
  have hE0 : ∀ {W : World}, Below W1.drew.heap.size W1.drew W → Below W1.heap.size W1 W := fun h => (Below.refl _ _).drew.trans h
  refine wp_region_rg 10 [7, 8, 9] [.inl (.agg #[.slice A d.b.length c, .int .i64 d.s, .int .i64 d.r]), .inr (IsDk W1.heap.size d.own), .inl (.agg #[.slice A d.b.length c, .int .i64 d.s, .int .i64 d.r]), .inr (IsDk W1.heap.size d.sync), .inl (.agg #[.slice A d.b.length c, .int .i64 d.s, .int .i64 d.r]), .inl (.int .i64 n), .inr (IsDk W1.heap.size (d.crash n)),
      .inr (IsNew W1.heap.size 24 #[.slice none 0 0, .int .i64 0, .int .i64 0]), .inr (IsNew W1.heap.size 24 #[.slice none 0 0, .int .i64 0, .int .i64 0]), .inr (IsNew W1.heap.size 24 #[.slice none 0 0, .int .i64 0, .int .i64 0])]
    (by kernel_rfl) (by kernel_rfl) rfl rfl ?_ ?_
  · rintro (_ | _ | _ | _ | _ | _ | _ | _ | _ | _ | j) φ h <;> simp at h <;> subst h <;> exact fun u W W' hp hb => hp.below hb (Nat.le_refl _)
  refine RG_det (fun W hE _ => ?_) (RG_nd (fun W hE _ => ?_) (fun u1 => RG_det (fun W hE _ => ?_) (RG_nd (fun W hE _ => ?_) (fun u3 => RG_det (fun W hE _ => ?_) (RG_det (fun W hE _ => ?_) (RG_nd (fun W hE _ => ?_) (fun u6 => RG_nd (fun W hE _ => ?_) (fun u7 => RG_nd (fun W hE _ => ?_) (fun u8 => RG_nd (fun W hE _ => ?_) (fun u9 => RG_end (fun W hE hN hdis => ?_)))))))))))
  · have k := k1.below (hE0 hE) (by omega)
    have e0 : W.cell? ⟨w.heap.size, 0, none⟩ = _ := k.cell 0
    have e1 : W.cell? ⟨w.heap.size, 1, none⟩ = _ := k.cell 1
    have e2 : W.cell? ⟨w.heap.size, 2, none⟩ = _ := k.cell 2
    go_wp2
    exact ⟨⟨rfl, Below.refl _ _⟩, rfl⟩
  · replace hE := hE0 hE
    have hz' := hE.size
    go_wp2_with fail
    refine (own_any lo A c d _ ((hr.below (bw1.trans (hE.mono (by omega))) (Nat.le_refl _)).wide (Nat.le_refl _) (by omega)) (by omega) hc).mono ?_
    rintro e w1 ⟨A1, c1, rfl, hown1, hbl1⟩
    go_wp2
    exact ⟨⟨⟨A1, c1, rfl, own_base hown1 hz'⟩, hbl1, by simp⟩, rfl⟩
  · have k := k1.below (hE0 hE) (by omega)
    have e0 : W.cell? ⟨w.heap.size, 0, none⟩ = _ := k.cell 0
    have e1 : W.cell? ⟨w.heap.size, 1, none⟩ = _ := k.cell 1
    have e2 : W.cell? ⟨w.heap.size, 2, none⟩ = _ := k.cell 2
    go_wp2
    exact ⟨⟨rfl, Below.refl _ _⟩, rfl⟩
  · replace hE := hE0 hE
    have hz' := hE.size
    go_wp2_with fail
    refine (sync_any lo A c d _ ((hr.below (bw1.trans (hE.mono (by omega))) (Nat.le_refl _)).wide (Nat.le_refl _) (by omega)) (by omega) hc).mono ?_
    rintro e w1 ⟨A1, c1, rfl, hown1, hbl1⟩
    go_wp2
    exact ⟨⟨⟨A1, c1, rfl, own_base hown1 hz'⟩, hbl1, by simp⟩, rfl⟩
  · have k := k1.below (hE0 hE) (by omega)
    have e0 : W.cell? ⟨w.heap.size, 0, none⟩ = _ := k.cell 0
    have e1 : W.cell? ⟨w.heap.size, 1, none⟩ = _ := k.cell 1
    have e2 : W.cell? ⟨w.heap.size, 2, none⟩ = _ := k.cell 2
    go_wp2
    exact ⟨⟨rfl, Below.refl _ _⟩, rfl⟩
  · go_wp2
    exact ⟨⟨rfl, Below.refl _ _⟩, rfl⟩
  · replace hE := hE0 hE
    have hz' := hE.size
    go_wp2_with fail
    refine (crash_any lo A c d n _ ((hr.below (bw1.trans (hE.mono (by omega))) (Nat.le_refl _)).wide (Nat.le_refl _) (by omega)) (by omega) hc).mono ?_
    rintro e w1 ⟨A1, c1, rfl, hown1, hbl1⟩
    go_wp2
    exact ⟨⟨⟨A1, c1, rfl, own_base hown1 hz'⟩, hbl1, by simp⟩, rfl⟩
  · have hz' := (hE0 hE).size
    go_wp2
    exact ⟨⟨⟨_, rfl, hz', Bk.new _ _ _⟩, (Below.refl _ _).alloc (Nat.le_refl _) _, fun _ => ⟨rfl, by simp⟩⟩, rfl⟩
  · have hz' := (hE0 hE).size
    go_wp2
    exact ⟨⟨⟨_, rfl, hz', Bk.new _ _ _⟩, (Below.refl _ _).alloc (Nat.le_refl _) _, fun _ => ⟨rfl, by simp⟩⟩, rfl⟩
  · have hz' := (hE0 hE).size
    go_wp2
    exact ⟨⟨⟨_, rfl, hz', Bk.new _ _ _⟩, (Below.refl _ _).alloc (Nat.le_refl _) _, fun _ => ⟨rfl, by simp⟩⟩, rfl⟩
  obtain ⟨⟨Ao, co, h1, po⟩, ⟨As, cs, h3, ps⟩, ⟨Ac, cc, h6, pc⟩, ⟨bo, h7, lo7, n7⟩, ⟨bs, h8, lo8, n8⟩, ⟨bc, h9, lo9, n9⟩, _⟩ := hN
  obtain rfl : u1 = _ := h1
  obtain rfl : u3 = _ := h3
  obtain rfl : u6 = _ := h6
  obtain rfl : u7 = _ := h7
  obtain rfl : u8 = _ := h8
  obtain rfl : u9 = _ := h9
  have x78 : bo ≠ bs := fun e => hdis 7 8 (by simp) (by simp) (by simp) (by simp [e])
  have x79 : bo ≠ bc := fun e => hdis 7 9 (by simp) (by simp) (by simp) (by simp [e])
  have x89 : bs ≠ bc := fun e => hdis 8 9 (by simp) (by simp) (by simp) (by simp [e])
  clear hdis
  replace hE := hE0 hE
  have hzW := hE.size
  dsimp only [List.drop]
  have bwW : Below w.heap.size w W := bw1.trans (hE.mono (by omega))
  clear hE0 hE hb0 k1
  obtain ⟨W3, hW3⟩ : ∃ W3, ((((((((W.setCell ⟨bo, 0, none⟩ (.slice Ao d.own.b.length co)).setCell ⟨bo, 1, none⟩ (.int .i64 d.own.s)).setCell ⟨bo, 2, none⟩ (.int .i64 d.own.r)).setCell ⟨bs, 0, none⟩ (.slice As d.sync.b.length cs)).setCell ⟨bs, 1, none⟩ (.int .i64 d.sync.s)).setCell ⟨bs, 2, none⟩ (.int .i64 d.sync.r)).setCell ⟨bc, 0, none⟩ (.slice Ac (d.crash n).b.length cc)).setCell ⟨bc, 1, none⟩ (.int .i64 (d.crash n).s)).setCell ⟨bc, 2, none⟩ (.int .i64 (d.crash n).r) = W3 := ⟨_, rfl⟩
  have e0 : W.cell? ⟨bo, 0, none⟩ = _ := n7.cell 0
  have e1 : W.cell? ⟨bo, 1, none⟩ = _ := n7.cell 1
  have e2 : W.cell? ⟨bo, 2, none⟩ = _ := n7.cell 2
  have e3 : W.cell? ⟨bs, 0, none⟩ = _ := n8.cell 0
  have e4 : W.cell? ⟨bs, 1, none⟩ = _ := n8.cell 1
  have e5 : W.cell? ⟨bs, 2, none⟩ = _ := n8.cell 2
  have e6 : W.cell? ⟨bc, 0, none⟩ = _ := n9.cell 0
  have e7 : W.cell? ⟨bc, 1, none⟩ = _ := n9.cell 1
  have e8 : W.cell? ⟨bc, 2, none⟩ = _ := n9.cell 2
  have f0 := n7.frozen 0
  have f1 := n7.frozen 1
  have f2 := n7.frozen 2
  have f3 := n8.frozen 0
  have f4 := n8.frozen 1
  have f5 := n8.frozen 2
  have f6 := n9.frozen 0
  have f7 := n9.frozen 1
  have f8 := n9.frozen 2
  have q3 : ∀ g, g ≠ bo → g ≠ bs → g ≠ bc → W3.heap[g]? = W.heap[g]? := by
    intro g h1 h2 h3
    rw [← hW3, (((Only.refl bc _).set 0 _).set 1 _ |>.set 2 _).block g h3, (((Only.refl bs _).set 0 _).set 1 _ |>.set 2 _).block g h2, (((Only.refl bo W).set 0 _).set 1 _ |>.set 2 _).block g h1]
  have hz3 : W3.heap.size = W.heap.size := by rw [← hW3]; simp
  have bw3 : Below w.heap.size w W3 := by
    rw [← hW3]
    exact ((((((((bwW.setCell (by simp; omega) _).setCell (by simp; omega) _).setCell (by simp; omega) _).setCell (by simp; omega) _).setCell (by simp; omega) _).setCell (by simp; omega) _).setCell (by simp; omega) _).setCell (by simp; omega) _).setCell (by simp; omega) _
  have row3 : ∀ {v : Value} {k : Nat} {xs : List Value}, W.ownsRow W1.heap.size 5 1 v k xs → W3.ownsRow W1.heap.size 5 1 v k xs := fun h => own_keep h fun g hg =>
    q3 g (fun e => own_bk_ne h n7 (by decide) (e ▸ hg)) (fun e => own_bk_ne h n8 (by decide) (e ▸ hg)) (fun e => own_bk_ne h n9 (by decide) (e ▸ hg))
  have b7 : Bk W3 bo 24 #[.slice Ao d.own.b.length co, .int .i64 d.own.s, .int .i64 d.own.r] := by
    rw [← hW3]
    exact (((((((((n7.set 0 _).set 1 _).set 2 _).far x78 _).far x78 _).far x78 _).far x79 _).far x79 _).far x79 _)
  have b8 : Bk W3 bs 24 #[.slice As d.sync.b.length cs, .int .i64 d.sync.s, .int .i64 d.sync.r] := by
    rw [← hW3]
    exact (((((((((n8.far x78.symm _).far x78.symm _).far x78.symm _).set 0 _).set 1 _).set 2 _).far x89 _).far x89 _).far x89 _)
  have b9 : Bk W3 bc 24 #[.slice Ac (d.crash n).b.length cc, .int .i64 (d.crash n).s, .int .i64 (d.crash n).r] := by
    rw [← hW3]
    exact (((((((((n9.far x79.symm _).far x79.symm _).far x79.symm _).far x89.symm _).far x89.symm _).far x89.symm _).set 0 _).set 1 _).set 2 _)
  have p7 := row3 po
  have p8 := row3 ps
  have p9 := row3 pc
  go_wp2_with fail
  clear hW3 q3 row3 po ps pc n7 n8 n9 e0 e1 e2 e3 e4 e5 e6 e7 e8 f0 f1 f2 f3 f4 f5 f6 f7 f8 bwW
  have hzz := bw3.size
  have c7 := own_cap p7
  have c8 := own_cap p8
  have c9 := own_cap p9
  have hfit := d.own_fit
  have hcl : (d.crash n).b.length ≤ d.own.b.length := by rw [d.crash_len]; exact d.left_le n
  have hsl : d.sync.b.length = d.own.b.length := rfl
  have hlt7 := b7.lt
  have hlt8 := b8.lt
  have hlt9 := b9.lt
  have t10 : decide ((d.own.b.length : Int) ≤ d.own.r) = true := decide_eq_true hfit.1
  have t18 : decide (d.own.s ≤ (d.own.b.length : Int)) = true := decide_eq_true hfit.2.2.1
  have t23 : decide (0 ≤ d.own.s) = true := decide_eq_true hfit.2.1
  have hE0 : ∀ {W : World}, Below W3.drew.heap.size W3.drew W → Below W3.heap.size W3 W := fun h => (Below.refl _ _).drew.trans h
  refine wp_region_rg 61 [] [.inl (.agg #[.slice Ao d.own.b.length co, .int .i64 d.own.s, .int .i64 d.own.r]), .inr (IsDk W3.heap.size (d.own.own)), .inl (.agg #[.slice Ao d.own.b.length co, .int .i64 d.own.s, .int .i64 d.own.r]), .inl (.bool true), .inl (.bool true), .inl (.pointer (some ⟨bo, 0, none⟩)), .inl (.slice Ao d.own.b.length co), .inl (.int .i64 d.own.b.length), .inl (.pointer (some ⟨bo, 2, none⟩)), .inl (.int .i64 d.own.r), .inl (.bool true), .inl (.bool true), .inl (.bool true), .inl (.pointer (some ⟨bo, 1, none⟩)), .inl (.int .i64 d.own.s), .inl (.pointer (some ⟨bo, 0, none⟩)), .inl (.slice Ao d.own.b.length co), .inl (.int .i64 d.own.b.length), .inl (.bool true), .inl (.bool true), .inl (.bool true), .inl (.pointer (some ⟨bo, 1, none⟩)), .inl (.int .i64 d.own.s), .inl (.bool true), .inl (.bool true), .inl (.bool true), .inl (.agg #[.slice As d.sync.b.length cs, .int .i64 d.sync.s, .int .i64 d.sync.r]), .inr (IsDk W3.heap.size (d.sync.sync)), .inl (.agg #[.slice As d.sync.b.length cs, .int .i64 d.sync.s, .int .i64 d.sync.r]), .inl (.bool true), .inl (.bool true), .inl (.bool true), .inl (.agg #[.slice Ac (d.crash n).b.length cc, .int .i64 (d.crash n).s, .int .i64 (d.crash n).r]), .inl (.int .i64 m), .inr (IsDk W3.heap.size ((d.crash n).crash m)), .inl (.agg #[.slice Ac (d.crash n).b.length cc, .int .i64 (d.crash n).s, .int .i64 (d.crash n).r]), .inl (.bool true), .inl (.bool true), .inl (.bool true), .inl (.agg #[.slice As d.sync.b.length cs, .int .i64 d.sync.s, .int .i64 d.sync.r]), .inl (.int .i64 n), .inr (IsDk W3.heap.size (d.sync.crash n)), .inl (.agg #[.slice As d.sync.b.length cs, .int .i64 d.sync.s, .int .i64 d.sync.r]), .inl (.bool true), .inl (.bool true), .inl (.bool true), .inl (.pointer (some ⟨bs, 0, none⟩)), .inl (.slice As d.sync.b.length cs), .inl (.pointer (some ⟨bo, 0, none⟩)), .inl (.slice Ao d.own.b.length co), .inl (.bool true), .inl (.bool true), .inl (.bool true), .inl (.agg #[.slice Ac (d.crash n).b.length cc, .int .i64 (d.crash n).s, .int .i64 (d.crash n).r]), .inr (IsDk W3.heap.size ((d.crash n).sync)), .inl (.agg #[.slice Ac (d.crash n).b.length cc, .int .i64 (d.crash n).s, .int .i64 (d.crash n).r]), .inl (.bool true), .inl (.bool true), .inl (.bool true), .inl (.bool true), .inl (.bool true)]
    (by kernel_rfl) (by kernel_rfl) rfl rfl ?_ ?_
  · rintro (_ | _ | _ | _ | _ | _ | _ | _ | _ | _ | _ | _ | _ | _ | _ | _ | _ | _ | _ | _ | _ | _ | _ | _ | _ | _ | _ | _ | _ | _ | _ | _ | _ | _ | _ | _ | _ | _ | _ | _ | _ | _ | _ | _ | _ | _ | _ | _ | _ | _ | _ | _ | _ | _ | _ | _ | _ | _ | _ | _ | _ | j) φ h <;> simp at h <;> subst h <;> exact fun u W W' hp hb => hp.below hb (Nat.le_refl _)
  refine RG_det (fun W hE hN => ?_) ?_
  · have k := b7.below (hE0 hE) hlt7
    have e0 : W.cell? ⟨bo, 0, none⟩ = _ := k.cell 0
    have e1 : W.cell? ⟨bo, 1, none⟩ = _ := k.cell 1
    have e2 : W.cell? ⟨bo, 2, none⟩ = _ := k.cell 2
    go_wp2
    exact ⟨⟨rfl, Below.refl _ _⟩, rfl⟩
  refine RG_nd (fun W hE hN => ?_) (fun u1 => ?_)
  · have hz' := (hE0 hE).size
    go_wp2_with fail
    refine (own_any _ Ao co d.own _ ((Rd.of_own (own_below p7 (hE0 hE) (Nat.le_refl _))).wide (Nat.le_refl _) (Nat.le_refl _)) (by omega) c7).mono ?_
    rintro e w1 ⟨A1, c1, rfl, hown1, hbl1⟩
    go_wp2
    exact ⟨⟨⟨A1, c1, rfl, own_base hown1 hz'⟩, hbl1, by simp⟩, rfl⟩
  refine RG_det (fun W hE hN => ?_) ?_
  · have k := b7.below (hE0 hE) hlt7
    have e0 : W.cell? ⟨bo, 0, none⟩ = _ := k.cell 0
    have e1 : W.cell? ⟨bo, 1, none⟩ = _ := k.cell 1
    have e2 : W.cell? ⟨bo, 2, none⟩ = _ := k.cell 2
    go_wp2
    exact ⟨⟨rfl, Below.refl _ _⟩, rfl⟩
  refine RG_det (fun W hE hN => ?_) ?_
  · obtain ⟨A1, c1, h1, hown1⟩ := phNd_at 1 (IsDk W3.heap.size (d.own.own)) u1 hN (by kernel_rfl) (by kernel_rfl) (by kernel_rfl)
    clear hN
    subst h1
    go_wp2_with fail
    refine (dsame_true _ _ A1 Ao c1 co d.own.own d.own _ (by rw [d.own_own, d.own_own]) ((Rd.of_own hown1).wide (Nat.le_refl _) (Nat.le_refl _)) ((Rd.of_own (own_below p7 (hE0 hE) (Nat.le_refl _))).wide (Nat.le_refl _) (Nat.le_refl _)) (by rw [d.own_own]; omega) (own_cap hown1) (by omega) c7).mono ?_
    rintro e w1 ⟨rfl, hbl1⟩
    go_wp2
    exact ⟨⟨rfl, hbl1⟩, rfl⟩
  simp only [Act.put, List.setIfInBounds_toArray, List.set_cons_succ, List.set_cons_zero, List.nil_append, List.cons_append]
  refine RG_det (fun W hE hN => ?_) ?_
  · go_wp2
    exact ⟨⟨rfl, Below.refl _ _⟩, rfl⟩
  refine RG_det (fun W hE hN => ?_) ?_
  · go_wp2
    exact ⟨⟨rfl, Below.refl _ _⟩, rfl⟩
  refine RG_det (fun W hE hN => ?_) ?_
  · have k := b7.below (hE0 hE) hlt7
    have e0 : W.cell? ⟨bo, 0, none⟩ = _ := k.cell 0
    have e1 : W.cell? ⟨bo, 1, none⟩ = _ := k.cell 1
    have e2 : W.cell? ⟨bo, 2, none⟩ = _ := k.cell 2
    go_wp2
    exact ⟨⟨rfl, Below.refl _ _⟩, rfl⟩
  refine RG_det (fun W hE hN => ?_) ?_
  · go_wp2
    exact ⟨⟨rfl, Below.refl _ _⟩, rfl⟩
  simp only [Act.put, List.setIfInBounds_toArray, List.set_cons_succ, List.set_cons_zero, List.nil_append, List.cons_append]
  refine RG_det (fun W hE hN => ?_) ?_
  · go_wp2
    exact ⟨⟨rfl, Below.refl _ _⟩, rfl⟩
  refine RG_det (fun W hE hN => ?_) ?_
  · have k := b7.below (hE0 hE) hlt7
    have e0 : W.cell? ⟨bo, 0, none⟩ = _ := k.cell 0
    have e1 : W.cell? ⟨bo, 1, none⟩ = _ := k.cell 1
    have e2 : W.cell? ⟨bo, 2, none⟩ = _ := k.cell 2
    go_wp2
    exact ⟨⟨rfl, Below.refl _ _⟩, rfl⟩
  refine RG_det (fun W hE hN => ?_) ?_
  · go_wp2
    exact ⟨⟨rfl, Below.refl _ _⟩, rfl⟩
  refine RG_det (fun W hE hN => ?_) ?_
  · go_wp2
    exact ⟨⟨rfl, Below.refl _ _⟩, rfl⟩
  simp only [Act.put, List.setIfInBounds_toArray, List.set_cons_succ, List.set_cons_zero, List.nil_append, List.cons_append]
  refine RG_det (fun W hE hN => ?_) ?_
  · go_wp2
    exact ⟨⟨rfl, Below.refl _ _⟩, rfl⟩
  refine RG_det (fun W hE hN => ?_) ?_
  · go_wp2
    exact ⟨⟨rfl, Below.refl _ _⟩, rfl⟩
  refine RG_det (fun W hE hN => ?_) ?_
  · have k := b7.below (hE0 hE) hlt7
    have e0 : W.cell? ⟨bo, 0, none⟩ = _ := k.cell 0
    have e1 : W.cell? ⟨bo, 1, none⟩ = _ := k.cell 1
    have e2 : W.cell? ⟨bo, 2, none⟩ = _ := k.cell 2
    go_wp2
    exact ⟨⟨rfl, Below.refl _ _⟩, rfl⟩
  refine RG_det (fun W hE hN => ?_) ?_
  · go_wp2
    exact ⟨⟨rfl, Below.refl _ _⟩, rfl⟩
  simp only [Act.put, List.setIfInBounds_toArray, List.set_cons_succ, List.set_cons_zero, List.nil_append, List.cons_append]
  refine RG_det (fun W hE hN => ?_) ?_
  · have k := b7.below (hE0 hE) hlt7
    have e0 : W.cell? ⟨bo, 0, none⟩ = _ := k.cell 0
    have e1 : W.cell? ⟨bo, 1, none⟩ = _ := k.cell 1
    have e2 : W.cell? ⟨bo, 2, none⟩ = _ := k.cell 2
    go_wp2
    exact ⟨⟨rfl, Below.refl _ _⟩, rfl⟩
  refine RG_det (fun W hE hN => ?_) ?_
  · go_wp2
    exact ⟨⟨rfl, Below.refl _ _⟩, rfl⟩
  refine RG_det (fun W hE hN => ?_) ?_
  · go_wp2
    exact ⟨⟨rfl, Below.refl _ _⟩, rfl⟩
  refine RG_det (fun W hE hN => ?_) ?_
  · go_wp2
    exact ⟨⟨rfl, Below.refl _ _⟩, rfl⟩
  simp only [Act.put, List.setIfInBounds_toArray, List.set_cons_succ, List.set_cons_zero, List.nil_append, List.cons_append]
  refine RG_det (fun W hE hN => ?_) ?_
  · go_wp2
    exact ⟨⟨rfl, Below.refl _ _⟩, rfl⟩
  refine RG_det (fun W hE hN => ?_) ?_
  · go_wp2
    exact ⟨⟨rfl, Below.refl _ _⟩, rfl⟩
  refine RG_det (fun W hE hN => ?_) ?_
  · have k := b7.below (hE0 hE) hlt7
    have e0 : W.cell? ⟨bo, 0, none⟩ = _ := k.cell 0
    have e1 : W.cell? ⟨bo, 1, none⟩ = _ := k.cell 1
    have e2 : W.cell? ⟨bo, 2, none⟩ = _ := k.cell 2
    go_wp2
    exact ⟨⟨rfl, Below.refl _ _⟩, rfl⟩
  refine RG_det (fun W hE hN => ?_) ?_
  · go_wp2
    exact ⟨⟨rfl, Below.refl _ _⟩, rfl⟩
  simp only [Act.put, List.setIfInBounds_toArray, List.set_cons_succ, List.set_cons_zero, List.nil_append, List.cons_append]
  refine RG_det (fun W hE hN => ?_) ?_
  · go_wp2
    exact ⟨⟨rfl, Below.refl _ _⟩, rfl⟩
  refine RG_det (fun W hE hN => ?_) ?_
  · go_wp2
    exact ⟨⟨rfl, Below.refl _ _⟩, rfl⟩
  refine RG_det (fun W hE hN => ?_) ?_
  · have k := b8.below (hE0 hE) hlt8
    have e0 : W.cell? ⟨bs, 0, none⟩ = _ := k.cell 0
    have e1 : W.cell? ⟨bs, 1, none⟩ = _ := k.cell 1
    have e2 : W.cell? ⟨bs, 2, none⟩ = _ := k.cell 2
    go_wp2
    exact ⟨⟨rfl, Below.refl _ _⟩, rfl⟩
  refine RG_nd (fun W hE hN => ?_) (fun u27 => ?_)
  · have hz' := (hE0 hE).size
    go_wp2_with fail
    refine (sync_any _ As cs d.sync _ ((Rd.of_own (own_below p8 (hE0 hE) (Nat.le_refl _))).wide (Nat.le_refl _) (Nat.le_refl _)) (by omega) c8).mono ?_
    rintro e w1 ⟨A1, c1, rfl, hown1, hbl1⟩
    go_wp2
    exact ⟨⟨⟨A1, c1, rfl, own_base hown1 hz'⟩, hbl1, by simp⟩, rfl⟩
  simp only [Act.put, List.setIfInBounds_toArray, List.set_cons_succ, List.set_cons_zero, List.nil_append, List.cons_append]
  refine RG_det (fun W hE hN => ?_) ?_
  · have k := b8.below (hE0 hE) hlt8
    have e0 : W.cell? ⟨bs, 0, none⟩ = _ := k.cell 0
    have e1 : W.cell? ⟨bs, 1, none⟩ = _ := k.cell 1
    have e2 : W.cell? ⟨bs, 2, none⟩ = _ := k.cell 2
    set_option maxRecDepth 16000 in go_wp2
    exact ⟨⟨rfl, Below.refl _ _⟩, rfl⟩
  refine RG_det (fun W hE hN => ?_) ?_
  · obtain ⟨A1, c1, h1, hown1⟩ := phNd_at 27 (IsDk W3.heap.size (d.sync.sync)) u27 hN (by kernel_rfl) (by kernel_rfl) (by kernel_rfl)
    clear hN
    subst h1
    set_option maxRecDepth 16000 in go_wp2_with fail
    refine (dsame_true _ _ A1 As c1 cs d.sync.sync d.sync _ (by rw [d.sync_sync]) ((Rd.of_own hown1).wide (Nat.le_refl _) (Nat.le_refl _)) ((Rd.of_own (own_below p8 (hE0 hE) (Nat.le_refl _))).wide (Nat.le_refl _) (Nat.le_refl _)) (by rw [d.sync_sync]; omega) (own_cap hown1) (by omega) c8).mono ?_
    rintro e w1 ⟨rfl, hbl1⟩
    set_option maxRecDepth 16000 in go_wp2
    exact ⟨⟨rfl, hbl1⟩, rfl⟩
  refine RG_det (fun W hE hN => ?_) ?_
  · set_option maxRecDepth 16000 in go_wp2
    exact ⟨⟨rfl, Below.refl _ _⟩, rfl⟩
  refine RG_det (fun W hE hN => ?_) ?_
  · set_option maxRecDepth 16000 in go_wp2
    exact ⟨⟨rfl, Below.refl _ _⟩, rfl⟩
  simp only [Act.put, List.setIfInBounds_toArray, List.set_cons_succ, List.set_cons_zero, List.nil_append, List.cons_append]
  refine RG_det (fun W hE hN => ?_) ?_
  · have k := b9.below (hE0 hE) hlt9
    have e0 : W.cell? ⟨bc, 0, none⟩ = _ := k.cell 0
    have e1 : W.cell? ⟨bc, 1, none⟩ = _ := k.cell 1
    have e2 : W.cell? ⟨bc, 2, none⟩ = _ := k.cell 2
    set_option maxRecDepth 16000 in go_wp2
    exact ⟨⟨rfl, Below.refl _ _⟩, rfl⟩
  refine RG_det (fun W hE hN => ?_) ?_
  · set_option maxRecDepth 16000 in go_wp2
    exact ⟨⟨rfl, Below.refl _ _⟩, rfl⟩
  refine RG_nd (fun W hE hN => ?_) (fun u34 => ?_)
  · have hz' := (hE0 hE).size
    set_option maxRecDepth 16000 in go_wp2_with fail
    refine (crash_any _ Ac cc (d.crash n) m _ ((Rd.of_own (own_below p9 (hE0 hE) (Nat.le_refl _))).wide (Nat.le_refl _) (Nat.le_refl _)) (by omega) c9).mono ?_
    rintro e w1 ⟨A1, c1, rfl, hown1, hbl1⟩
    set_option maxRecDepth 16000 in go_wp2
    exact ⟨⟨⟨A1, c1, rfl, own_base hown1 hz'⟩, hbl1, by simp⟩, rfl⟩
  refine RG_det (fun W hE hN => ?_) ?_
  · have k := b9.below (hE0 hE) hlt9
    have e0 : W.cell? ⟨bc, 0, none⟩ = _ := k.cell 0
    have e1 : W.cell? ⟨bc, 1, none⟩ = _ := k.cell 1
    have e2 : W.cell? ⟨bc, 2, none⟩ = _ := k.cell 2
    set_option maxRecDepth 16000 in go_wp2
    exact ⟨⟨rfl, Below.refl _ _⟩, rfl⟩
  simp only [Act.put, List.setIfInBounds_toArray, List.set_cons_succ, List.set_cons_zero, List.nil_append, List.cons_append]
  refine RG_det (fun W hE hN => ?_) ?_
  · obtain ⟨A1, c1, h1, hown1⟩ := phNd_at 34 (IsDk W3.heap.size (((d.crash n).crash m))) u34 hN (by kernel_rfl) (by kernel_rfl) (by kernel_rfl)
    clear hN
    subst h1
    set_option maxRecDepth 16000 in go_wp2_with fail
    refine (dsame_true _ _ A1 Ac c1 cc ((d.crash n).crash m) (d.crash n) _ (by rw [d.crash_crash]) ((Rd.of_own hown1).wide (Nat.le_refl _) (Nat.le_refl _)) ((Rd.of_own (own_below p9 (hE0 hE) (Nat.le_refl _))).wide (Nat.le_refl _) (Nat.le_refl _)) (by rw [d.crash_crash]; omega) (own_cap hown1) (by omega) c9).mono ?_
    rintro e w1 ⟨rfl, hbl1⟩
    set_option maxRecDepth 16000 in go_wp2
    exact ⟨⟨rfl, hbl1⟩, rfl⟩
  refine RG_det (fun W hE hN => ?_) ?_
  · set_option maxRecDepth 16000 in go_wp2
    exact ⟨⟨rfl, Below.refl _ _⟩, rfl⟩
  refine RG_det (fun W hE hN => ?_) ?_
  · set_option maxRecDepth 16000 in go_wp2
    exact ⟨⟨rfl, Below.refl _ _⟩, rfl⟩
  refine RG_det (fun W hE hN => ?_) ?_
  · have k := b8.below (hE0 hE) hlt8
    have e0 : W.cell? ⟨bs, 0, none⟩ = _ := k.cell 0
    have e1 : W.cell? ⟨bs, 1, none⟩ = _ := k.cell 1
    have e2 : W.cell? ⟨bs, 2, none⟩ = _ := k.cell 2
    set_option maxRecDepth 16000 in go_wp2
    exact ⟨⟨rfl, Below.refl _ _⟩, rfl⟩
  simp only [Act.put, List.setIfInBounds_toArray, List.set_cons_succ, List.set_cons_zero, List.nil_append, List.cons_append]
  refine RG_det (fun W hE hN => ?_) ?_
  · set_option maxRecDepth 16000 in go_wp2
    exact ⟨⟨rfl, Below.refl _ _⟩, rfl⟩
  refine RG_nd (fun W hE hN => ?_) (fun u41 => ?_)
  · have hz' := (hE0 hE).size
    set_option maxRecDepth 16000 in go_wp2_with fail
    refine (crash_any _ As cs d.sync n _ ((Rd.of_own (own_below p8 (hE0 hE) (Nat.le_refl _))).wide (Nat.le_refl _) (Nat.le_refl _)) (by omega) c8).mono ?_
    rintro e w1 ⟨A1, c1, rfl, hown1, hbl1⟩
    set_option maxRecDepth 16000 in go_wp2
    exact ⟨⟨⟨A1, c1, rfl, own_base hown1 hz'⟩, hbl1, by simp⟩, rfl⟩
  refine RG_det (fun W hE hN => ?_) ?_
  · have k := b8.below (hE0 hE) hlt8
    have e0 : W.cell? ⟨bs, 0, none⟩ = _ := k.cell 0
    have e1 : W.cell? ⟨bs, 1, none⟩ = _ := k.cell 1
    have e2 : W.cell? ⟨bs, 2, none⟩ = _ := k.cell 2
    set_option maxRecDepth 16000 in go_wp2
    exact ⟨⟨rfl, Below.refl _ _⟩, rfl⟩
  refine RG_det (fun W hE hN => ?_) ?_
  · obtain ⟨A1, c1, h1, hown1⟩ := phNd_at 41 (IsDk W3.heap.size ((d.sync.crash n))) u41 hN (by kernel_rfl) (by kernel_rfl) (by kernel_rfl)
    clear hN
    subst h1
    set_option maxRecDepth 16000 in go_wp2_with fail
    refine (dsame_true _ _ A1 As c1 cs (d.sync.crash n) d.sync _ (by rw [d.sync_crash]) ((Rd.of_own hown1).wide (Nat.le_refl _) (Nat.le_refl _)) ((Rd.of_own (own_below p8 (hE0 hE) (Nat.le_refl _))).wide (Nat.le_refl _) (Nat.le_refl _)) (by rw [d.sync_crash]; omega) (own_cap hown1) (by omega) c8).mono ?_
    rintro e w1 ⟨rfl, hbl1⟩
    set_option maxRecDepth 16000 in go_wp2
    exact ⟨⟨rfl, hbl1⟩, rfl⟩
  simp only [Act.put, List.setIfInBounds_toArray, List.set_cons_succ, List.set_cons_zero, List.nil_append, List.cons_append]
  refine RG_det (fun W hE hN => ?_) ?_
  · set_option maxRecDepth 16000 in go_wp2
    exact ⟨⟨rfl, Below.refl _ _⟩, rfl⟩
  refine RG_det (fun W hE hN => ?_) ?_
  · set_option maxRecDepth 16000 in go_wp2
    exact ⟨⟨rfl, Below.refl _ _⟩, rfl⟩
  refine RG_det (fun W hE hN => ?_) ?_
  · set_option maxRecDepth 16000 in go_wp2
    exact ⟨⟨rfl, Below.refl _ _⟩, rfl⟩
  refine RG_det (fun W hE hN => ?_) ?_
  · have k := b8.below (hE0 hE) hlt8
    have e0 : W.cell? ⟨bs, 0, none⟩ = _ := k.cell 0
    have e1 : W.cell? ⟨bs, 1, none⟩ = _ := k.cell 1
    have e2 : W.cell? ⟨bs, 2, none⟩ = _ := k.cell 2
    set_option maxRecDepth 16000 in go_wp2
    exact ⟨⟨rfl, Below.refl _ _⟩, rfl⟩
  simp only [Act.put, List.setIfInBounds_toArray, List.set_cons_succ, List.set_cons_zero, List.nil_append, List.cons_append]
  refine RG_det (fun W hE hN => ?_) ?_
  · set_option maxRecDepth 16000 in go_wp2
    exact ⟨⟨rfl, Below.refl _ _⟩, rfl⟩
  refine RG_det (fun W hE hN => ?_) ?_
  · have k := b7.below (hE0 hE) hlt7
    have e0 : W.cell? ⟨bo, 0, none⟩ = _ := k.cell 0
    have e1 : W.cell? ⟨bo, 1, none⟩ = _ := k.cell 1
    have e2 : W.cell? ⟨bo, 2, none⟩ = _ := k.cell 2
    set_option maxRecDepth 16000 in go_wp2
    exact ⟨⟨rfl, Below.refl _ _⟩, rfl⟩
  refine RG_det (fun W hE hN => ?_) ?_
  · set_option maxRecDepth 16000 in go_wp2_with fail
    refine (same_true _ _ As Ao cs co d.own.b _ ((Rd.of_own (own_below p8 (hE0 hE) (Nat.le_refl _))).wide (Nat.le_refl _) (Nat.le_refl _)) ((Rd.of_own (own_below p7 (hE0 hE) (Nat.le_refl _))).wide (Nat.le_refl _) (Nat.le_refl _))).mono ?_
    rintro e w1 ⟨rfl, rfl⟩
    set_option maxRecDepth 16000 in go_wp2
    exact ⟨⟨rfl, Below.refl _ _⟩, rfl⟩
  refine RG_det (fun W hE hN => ?_) ?_
  · set_option maxRecDepth 16000 in go_wp2
    exact ⟨⟨rfl, Below.refl _ _⟩, rfl⟩
  simp only [Act.put, List.setIfInBounds_toArray, List.set_cons_succ, List.set_cons_zero, List.nil_append, List.cons_append]
  refine RG_det (fun W hE hN => ?_) ?_
  · set_option maxRecDepth 16000 in go_wp2
    exact ⟨⟨rfl, Below.refl _ _⟩, rfl⟩
  refine RG_det (fun W hE hN => ?_) ?_
  · have k := b9.below (hE0 hE) hlt9
    have e0 : W.cell? ⟨bc, 0, none⟩ = _ := k.cell 0
    have e1 : W.cell? ⟨bc, 1, none⟩ = _ := k.cell 1
    have e2 : W.cell? ⟨bc, 2, none⟩ = _ := k.cell 2
    set_option maxRecDepth 16000 in go_wp2
    exact ⟨⟨rfl, Below.refl _ _⟩, rfl⟩
  refine RG_nd (fun W hE hN => ?_) (fun u54 => ?_)
  · have hz' := (hE0 hE).size
    set_option maxRecDepth 16000 in go_wp2_with fail
    refine (sync_any _ Ac cc (d.crash n) _ ((Rd.of_own (own_below p9 (hE0 hE) (Nat.le_refl _))).wide (Nat.le_refl _) (Nat.le_refl _)) (by omega) c9).mono ?_
    rintro e w1 ⟨A1, c1, rfl, hown1, hbl1⟩
    set_option maxRecDepth 16000 in go_wp2
    exact ⟨⟨⟨A1, c1, rfl, own_base hown1 hz'⟩, hbl1, by simp⟩, rfl⟩
  refine RG_det (fun W hE hN => ?_) ?_
  · have k := b9.below (hE0 hE) hlt9
    have e0 : W.cell? ⟨bc, 0, none⟩ = _ := k.cell 0
    have e1 : W.cell? ⟨bc, 1, none⟩ = _ := k.cell 1
    have e2 : W.cell? ⟨bc, 2, none⟩ = _ := k.cell 2
    set_option maxRecDepth 16000 in go_wp2
    exact ⟨⟨rfl, Below.refl _ _⟩, rfl⟩
  simp only [Act.put, List.setIfInBounds_toArray, List.set_cons_succ, List.set_cons_zero, List.nil_append, List.cons_append]
  refine RG_det (fun W hE hN => ?_) ?_
  · obtain ⟨A1, c1, h1, hown1⟩ := phNd_at 54 (IsDk W3.heap.size ((d.crash n).sync)) u54 hN (by kernel_rfl) (by kernel_rfl) (by kernel_rfl)
    clear hN
    subst h1
    set_option maxRecDepth 16000 in go_wp2_with fail
    refine (dsame_true _ _ A1 Ac c1 cc (d.crash n).sync (d.crash n) _ (by rw [d.crash_sync]) ((Rd.of_own hown1).wide (Nat.le_refl _) (Nat.le_refl _)) ((Rd.of_own (own_below p9 (hE0 hE) (Nat.le_refl _))).wide (Nat.le_refl _) (Nat.le_refl _)) (by rw [d.crash_sync]; omega) (own_cap hown1) (by omega) c9).mono ?_
    rintro e w1 ⟨rfl, hbl1⟩
    set_option maxRecDepth 16000 in go_wp2
    exact ⟨⟨rfl, hbl1⟩, rfl⟩
  refine RG_det (fun W hE hN => ?_) ?_
  · set_option maxRecDepth 16000 in go_wp2
    exact ⟨⟨rfl, Below.refl _ _⟩, rfl⟩
  refine RG_det (fun W hE hN => ?_) ?_
  · set_option maxRecDepth 16000 in go_wp2
    exact ⟨⟨rfl, Below.refl _ _⟩, rfl⟩
  refine RG_det (fun W hE hN => ?_) ?_
  · set_option maxRecDepth 16000 in go_wp2_with fail
    refine (wakes_any _).mono ?_
    rintro e w1 ⟨rfl, hbl1⟩
    set_option maxRecDepth 16000 in go_wp2
    exact ⟨⟨rfl, hbl1⟩, rfl⟩
  simp only [Act.put, List.setIfInBounds_toArray, List.set_cons_succ, List.set_cons_zero, List.nil_append, List.cons_append]
  refine RG_det (fun W hE hN => ?_) ?_
  · set_option maxRecDepth 16000 in go_wp2
    exact ⟨⟨rfl, Below.refl _ _⟩, rfl⟩
  simp only [Act.put, List.setIfInBounds_toArray, List.set_cons_succ, List.set_cons_zero, List.nil_append, List.cons_append]
  refine RG_end (fun W hE _ _ => ?_)
  replace hE := hE0 hE
  dsimp only [List.drop]
  set_option maxRecDepth 16000 in go_wp2
  go_ret
  exact ⟨ret_b rfl, bw3.trans (hE.mono (by omega))⟩

end Go.Proofs.Ythlmleemapeohaa
