/-
Contracts of the law's helpers: great, wakes.
-/
import Derived.Test.YthlmleemapeohaaDiskE
namespace Go.Proofs.Ythlmleemapeohaa
open Go.RowKit

theorem great_any (A : Option Addr) (n c : Nat) (s r : Int) (w : World) (hn : n ≤ maxLen) :
    Calls Try.prog 8 #[.agg #[.slice A n c, .int .i64 s, .int .i64 r]] w fun e w' => e = .returned (.bool (decide (400 < n))) ∧ Below w.heap.size w w' := by
  unfold maxLen at hn
  go_enter Try.func8, Try.ntmps8
  go_wp2
  go_ret
  exact ⟨ret_b (by rw [Bool.eq_iff_iff]; simp [Array.getD]; omega), (Below.refl _ _).alloc (Nat.le_refl _) _⟩

def w1 : Dk := ⟨[1, 2, 3], 0, 9⟩
def w2 : Dk := ⟨[1, 2, 3], 3, 9⟩
def w3 : Dk := ⟨[1, 2, 3, 4, 5], 3, 9⟩
def w4 : Dk := ⟨[1, 2, 3, 4], 4, 9⟩
theorem wk1 : (Dk.new 9).app [1, 2, 3] = w1 := rfl
theorem wk1e : (Dk.new 9).appE [1, 2, 3] = 0 := rfl
theorem wk2 : w1.sync = w2 := rfl
theorem wk3 : w2.app [4, 5] = w3 := rfl
theorem wk3e : w2.appE [4, 5] = 0 := rfl
theorem wk4 : w3.crash 1 = w4 := rfl
theorem wk5 : w4.app [0, 0, 0, 0, 0, 0] = w4 := rfl
theorem wk5e : w4.appE [0, 0, 0, 0, 0, 0] = 30 := rfl
theorem wk6 : w4.own.r - w4.own.b.length = 5 := rfl
theorem wk7 : (w3.crash (-1)).b.length = 3 := rfl

def IsZs (base n : Nat) (u : Value) (W : World) : Prop := ∃ g, u = .slice (some ⟨g, 0, none⟩) n n ∧ base ≤ g ∧ Bk W g 5 (u8s (List.replicate n 0)).toArray
theorem IsZs.below {base n B : Nat} {u : Value} {W W' : World} (h : IsZs base n u W) (hb : Below B W W') (hB : W.heap.size ≤ B) : IsZs base n u W' := by
  obtain ⟨g, rfl, h1, h2⟩ := h
  exact ⟨g, rfl, h1, h2.below hb (by have := h2.lt; omega)⟩
def IsDkT (base : Nat) (d : Dk) (e : Int) (u : Value) (W : World) : Prop := ∃ v, u = .tuple #[v, .int .i64 e] ∧ IsDk base d v W
theorem IsDkT.below {base B : Nat} {d : Dk} {e : Int} {u : Value} {W W' : World} (h : IsDkT base d e u W) (hb : Below B W W') (hB : W.heap.size ≤ B) : IsDkT base d e u W' := by
  obtain ⟨v, rfl, h1⟩ := h
  exact ⟨v, rfl, h1.below hb hB⟩
/-- A cell that was laid. -/
def IsNew (base : Nat) (T : TypeId) (cs : Array Value) (u : Value) (W : World) : Prop := ∃ b, u = .pointer (some ⟨b, 0, none⟩) ∧ base ≤ b ∧ Bk W b T cs
theorem IsNew.below {base B : Nat} {T : TypeId} {cs : Array Value} {u : Value} {W W' : World} (h : IsNew base T cs u W) (hb : Below B W W') (hB : W.heap.size ≤ B) : IsNew base T cs u W' := by
  obtain ⟨b, rfl, h1, h2⟩ := h
  exact ⟨b, rfl, h1, h2.below hb (by have := h2.lt; omega)⟩

theorem fld0 (A : Option Addr) (n c : Nat) (s r : Int) (w : World) : (Instr.field 24 (.agg #[.slice A n c, .int .i64 s, .int .i64 r]) 0).run Try.prog w = .ok (.slice A n c) w := by kernel_rfl
theorem fld1 (A : Option Addr) (n c : Nat) (s r : Int) (w : World) : (Instr.field 24 (.agg #[.slice A n c, .int .i64 s, .int .i64 r]) 1).run Try.prog w = .ok (.int .i64 s) w := by kernel_rfl
theorem fld2 (A : Option Addr) (n c : Nat) (s r : Int) (w : World) : (Instr.field 24 (.agg #[.slice A n c, .int .i64 s, .int .i64 r]) 2).run Try.prog w = .ok (.int .i64 r) w := by kernel_rfl

set_option maxHeartbeats 1000000 in
theorem wakes_any (w : World) : Calls Try.prog 9 #[] w fun e w' => e = .returned (.bool true) ∧ Below w.heap.size w w' := by
  go_enter Try.func9, Try.ntmps9
  go_wp2_with fail
  refine (new_any 9 _).mono ?_
  rintro e W1 ⟨A1, c1, rfl, o1, hb1⟩
  have bw1 := hb1
  go_wp2_with fail
  have x1 : Bk (W1.alloc (.cells #[.int .u8 1, .int .u8 2, .int .u8 3] 5)) W1.heap.size 5 (u8s [1, 2, 3]).toArray := Bk.new _ _ _
  refine (append_any w.heap.size W1.heap.size A1 _ c1 3 (Dk.new 9) [1, 2, 3] _ (((Rd.of_own o1).alloc (Nat.le_refl _) _).wide (Nat.le_refl _) (by simp)) (by simp [Dk.new]) (own_cap o1) ((Rd.of_bk x1).wide (Nat.le_refl _) (by simp)) (by simp)).mono ?_
  rw [wk1, wk1e]
  rintro e W2 ⟨A2, c2, rfl, o2, hb2⟩
  have hz2 := hb2.size
  simp only [World.size_alloc] at hz2
  have bw2 : Below w.heap.size w W2 := (bw1.alloc hb1.size _).trans (hb2.mono (by simp; have := hb1.size; omega))
  clear x1 hb2
  go_wp2_with fail
  refine (sync_any _ A2 c2 w1 _ (((Rd.of_own o2).alloc (Nat.le_refl _) _).wide (Nat.le_refl _) (by simp)) (by simp [w1]) (own_cap o2)).mono ?_
  rw [wk2]
  rintro e W3 ⟨A3, c3, rfl, o3, hb3⟩
  have hz3 := hb3.size
  simp only [World.size_alloc] at hz3
  have bw3 : Below w.heap.size w W3 := (bw2.alloc bw2.size _).trans (hb3.mono (by simp; have := bw2.size; omega))
  have k3 : Bk W3 W2.heap.size 24 #[.slice A2 w1.b.length c2, .int .i64 w1.s, .int .i64 w1.r] := (Bk.new W2 _ _).below hb3 (by simp)
  clear hb3 o1 o2 hb1
  go_wp2_with fail
  have x3 : Bk (W3.alloc (.cells #[.int .u8 4, .int .u8 5] 5)) W3.heap.size 5 (u8s [4, 5]).toArray := Bk.new _ _ _
  refine (append_any _ W3.heap.size A3 _ c3 2 w2 [4, 5] _ (((Rd.of_own o3).alloc (Nat.le_refl _) _).wide (Nat.le_refl _) (by simp)) (by simp [w2]) (own_cap o3) ((Rd.of_bk x3).wide (Nat.le_refl _) (by simp)) (by simp)).mono ?_
  rw [wk3, wk3e]
  rintro e W4 ⟨A4, c4, rfl, o4, hb4⟩
  have hz4 := hb4.size
  simp only [World.size_alloc] at hz4
  have bw4 : Below w.heap.size w W4 := (bw3.alloc bw3.size _).trans (hb4.mono (by simp; have := bw3.size; omega))
  have k4 : Bk W4 W2.heap.size 24 #[.slice A2 w1.b.length c2, .int .i64 w1.s, .int .i64 w1.r] := (k3.alloc _).below hb4 (by simp; omega)
  have s4 := ((k4.set 0 (.slice A4 w3.b.length c4)).set 1 (.int .i64 w3.s)).set 2 (.int .i64 w3.r)
  have e0 : W4.cell? ⟨W2.heap.size, 0, none⟩ = _ := k4.cell 0
  have e1 : W4.cell? ⟨W2.heap.size, 1, none⟩ = _ := k4.cell 1
  have e2 : W4.cell? ⟨W2.heap.size, 2, none⟩ = _ := k4.cell 2
  have f0 := k4.frozen 0
  have f1 := k4.frozen 1
  have f2 := k4.frozen 2
  simp only [World.size_alloc] at o4
  clear hb4 x3 o3 k3
  go_wp2_with fail
  obtain ⟨W5, hW5⟩ : ∃ W5, ((W4.setCell ⟨W2.heap.size, 0, none⟩ (.slice A4 w3.b.length c4)).setCell ⟨W2.heap.size, 1, none⟩ (.int .i64 w3.s)).setCell ⟨W2.heap.size, 2, none⟩ (.int .i64 w3.r) = W5 := ⟨_, rfl⟩
  have n4 : (Value.slice A4 w3.b.length c4).ownBlock ≠ some W2.heap.size := own_ne o4 (.inl (by omega))
  have o5 := own_set (own_set (own_set o4 (p := ⟨W2.heap.size, 0, none⟩) n4 (.slice A4 w3.b.length c4)) (p := ⟨W2.heap.size, 1, none⟩) n4 (.int .i64 w3.s)) (p := ⟨W2.heap.size, 2, none⟩) n4 (.int .i64 w3.r)
  have bw5 := ((bw4.setCell (p := ⟨W2.heap.size, 0, none⟩) bw2.size (.slice A4 w3.b.length c4)).setCell (p := ⟨W2.heap.size, 1, none⟩) bw2.size (.int .i64 w3.s)).setCell (p := ⟨W2.heap.size, 2, none⟩) bw2.size (.int .i64 w3.r)
  have hz5 : W4.heap.size ≤ W5.heap.size := by rw [← hW5]; simp [World.setCell]
  rw [hW5] at s4 o5 bw5 ⊢
  clear hW5 e0 e1 e2 f0 f1 f2 k4 o4 n4
  have e0 : W5.cell? ⟨W2.heap.size, 0, none⟩ = _ := s4.cell 0
  have e1 : W5.cell? ⟨W2.heap.size, 1, none⟩ = _ := s4.cell 1
  have e2 : W5.cell? ⟨W2.heap.size, 2, none⟩ = _ := s4.cell 2
  refine (crash_any _ A4 c4 w3 1 _ (Rd.of_own o5) (by simp [w3]) (own_cap o5)).mono ?_
  rw [wk4]
  rintro e W6 ⟨A6, c6, rfl, o6, hb6⟩
  have hz6 := hb6.size
  have bw6 : Below w.heap.size w W6 := bw5.trans (hb6.mono bw5.size)
  have k6 := s4.below hb6 s4.lt
  have o5' := own_below o5 hb6 (Nat.le_refl _)
  clear e0 e1 e2 hb6 s4
  go_wp2_with fail
  obtain ⟨W7, hW7⟩ : ∃ W7, W6.alloc (.cells #[.slice A6 w4.b.length c6, .int .i64 w4.s, .int .i64 w4.r] 24) = W7 := ⟨_, rfl⟩
  have b7 : Bk W7 W6.heap.size 24 #[.slice A6 w4.b.length c6, .int .i64 w4.s, .int .i64 w4.r] := by rw [← hW7]; exact Bk.new _ _ _
  have hz7 : W7.heap.size = W6.heap.size + 1 := by rw [← hW7]; simp
  have bw7 : Below w.heap.size w W7 := by rw [← hW7]; exact bw6.alloc bw6.size _
  have k7 : Bk W7 W2.heap.size 24 #[.slice A4 w3.b.length c4, .int .i64 w3.s, .int .i64 w3.r] := by rw [← hW7]; exact k6.alloc _
  have o7 : W7.ownsRow W5.heap.size 5 1 (.slice A6 w4.b.length c6) w4.b.length (u8s w4.b) := by rw [← hW7]; exact o6.alloc _
  have o7' : W7.ownsRow (W3.heap.size + 1) 5 1 (.slice A4 w3.b.length c4) w3.b.length (u8s w3.b) := by rw [← hW7]; exact o5'.alloc _
  rw [hW7]
  clear hW7 k6 o6 o5'
  replace hz7 := Lib.hid hz7
  have hE0 : ∀ {W : World}, Below W7.drew.heap.size W7.drew W → Below W7.heap.size W7 W := fun h => (Below.refl _ _).drew.trans h
  have hmk : ∀ w : World, (Instr.makeSlice 22 (.int .i64 6) (.int .i64 6)).run Try.prog w = .ok (.slice (some ⟨w.heap.size, 0, none⟩) 6 6) (w.alloc (.cells (u8s (List.replicate 6 0)).toArray 5)) := fun _ => by kernel_rfl
  refine wp_region_rg 7 [] [.inl (.agg #[.slice A6 w4.b.length c6, .int .i64 w4.s, .int .i64 w4.r]), .inr (IsZs W7.heap.size 6), .inr (IsDkT W7.heap.size w4 30), .inr (IsDkT W7.heap.size w4 30), .inr (IsDk W7.heap.size w4), .inl (.int .i64 30), .inr (IsNew W7.heap.size 24 #[.slice none 0 0, .int .i64 0, .int .i64 0])]
    (by kernel_rfl) (by kernel_rfl) rfl rfl ?_ ?_ (fun _ c a d v w h => by cases d <;> exact h)
  · rintro (_ | _ | _ | _ | _ | _ | _ | j) φ h <;> simp at h <;> subst h <;> exact fun u W W' hp hb => hp.below hb (Nat.le_refl _)
  refine RG_det (fun W hE _ => ?_) (RG_nd (fun W hE _ => ?_) (fun u1 => RG_nd (fun W hE hN => ?_) (fun u2 => RG_nd (fun W hE hN => ?_) (fun u3 => RG_nd (fun W hE hN => ?_) (fun u4 => RG_det (fun W hE hN => ?_) (RG_nd (fun W hE hN => ?_) (fun u6 => RG_end (fun W hE hN _ => ?_))))))))
  · have k := b7.below (hE0 hE) (by have := hz7.out; omega)
    have e0 : W.cell? ⟨W6.heap.size, 0, none⟩ = _ := k.cell 0
    have e1 : W.cell? ⟨W6.heap.size, 1, none⟩ = _ := k.cell 1
    have e2 : W.cell? ⟨W6.heap.size, 2, none⟩ = _ := k.cell 2
    go_wp2
    exact ⟨⟨rfl, Below.refl _ _⟩, rfl⟩
  · have hz' := (hE0 hE).size
    go_wp2
    exact ⟨⟨⟨_, rfl, hz', Bk.new _ _ _⟩, (Below.refl _ _).alloc (Nat.le_refl _) _, by simp⟩, rfl⟩
  · obtain ⟨⟨g, h1, hg, hx⟩, _⟩ := hN
    obtain rfl : u1 = _ := h1
    have hE := hE0 hE
    have hz' := hE.size
    go_wp2_with fail
    refine (append_any _ g A6 _ c6 6 w4 [0, 0, 0, 0, 0, 0] _ ((Rd.of_own (own_below o7 hE (Nat.le_refl _))).wide (Nat.le_refl _) (Nat.le_refl _)) (by simp [w4]) (own_cap o7) ((Rd.of_bk hx).wide (Nat.le_refl _) hx.lt) (by simp)).mono ?_
    rw [wk5, wk5e]
    rintro e w1 ⟨A1, c1, rfl, hown1, hbl⟩
    go_wp2
    exact ⟨⟨⟨_, rfl, A1, c1, rfl, own_base hown1 hz'⟩, hbl, by simp⟩, rfl⟩
  · obtain ⟨h, _⟩ := hN
    have h : IsDkT W7.heap.size w4 30 u2 W := h
    go_wp2
    exact ⟨⟨h, Below.refl _ _, by simp⟩, rfl⟩
  · obtain ⟨⟨v, h1, hv⟩, _⟩ := hN
    obtain rfl : u3 = _ := h1
    go_wp2
    exact ⟨⟨hv, Below.refl _ _, by simp⟩, rfl⟩
  · obtain ⟨⟨v, h1, hv⟩, _⟩ := hN
    obtain rfl : u3 = _ := h1
    go_wp2
    exact ⟨⟨rfl, Below.refl _ _⟩, rfl⟩
  · have hz' := (hE0 hE).size
    go_wp2
    exact ⟨⟨⟨_, rfl, hz', Bk.new _ _ _⟩, (Below.refl _ _).alloc (Nat.le_refl _) _, by simp⟩, rfl⟩
  obtain ⟨_, _, _, ⟨A8, c8, h4, o8⟩, ⟨b, h6, hbb, hb8⟩, _⟩ := hN
  obtain rfl : u4 = _ := h4
  obtain rfl : u6 = _ := h6
  replace hE := hE0 hE
  have hzW := hE.size
  have hz7' := hz7.out
  dsimp only [List.drop]
  have bw8 : Below w.heap.size w W := bw7.trans (hE.mono (by have := bw6.size; omega))
  have b8 := b7.below hE (by omega)
  have k8 := k7.below hE (by omega)
  have p8 := own_below o7 hE (Nat.le_refl _)
  have p8' := own_below o7' hE (Nat.le_refl _)
  have l7 := o7.lt
  have l7' := o7'.lt
  clear hE0 hE b7 k7 o7 o7' hz7' hmk
  obtain ⟨W9, hW9⟩ : ∃ W9, ((W.setCell ⟨b, 0, none⟩ (.slice A8 w4.b.length c8)).setCell ⟨b, 1, none⟩ (.int .i64 w4.s)).setCell ⟨b, 2, none⟩ (.int .i64 w4.r) = W9 := ⟨_, rfl⟩
  have q9 : Only b W W9 := by rw [← hW9]; exact (((Only.refl b W).set 0 _).set 1 _).set 2 _
  have hz7' := hz7.out
  have bw9 : Below w.heap.size w W9 := bw8.trans (q9.below (by have := bw6.size; omega))
  have b9 := b8.keep (q9.block _ (by omega))
  have k9 := k8.keep (q9.block _ (by omega))
  have hlt := p8.lt
  have hlt' := p8'.lt
  have p9 : W9.ownsRow W5.heap.size 5 1 (.slice A6 w4.b.length c6) w4.b.length (u8s w4.b) := own_keep p8 fun g hg => q9.block g (fun e => by have := l7 g hg; omega)
  have p9' : W9.ownsRow (W3.heap.size + 1) 5 1 (.slice A4 w3.b.length c4) w3.b.length (u8s w3.b) := own_keep p8' fun g hg => q9.block g (fun e => by have := l7' g hg; omega)
  have e0 : W.cell? ⟨b, 0, none⟩ = _ := hb8.cell 0
  have e1 : W.cell? ⟨b, 1, none⟩ = _ := hb8.cell 1
  have e2 : W.cell? ⟨b, 2, none⟩ = _ := hb8.cell 2
  have f0 := hb8.frozen 0
  have f1 := hb8.frozen 1
  have f2 := hb8.frozen 2
  have d0 : W9.cell? ⟨W6.heap.size, 0, none⟩ = _ := b9.cell 0
  have d1 : W9.cell? ⟨W6.heap.size, 1, none⟩ = _ := b9.cell 1
  have d2 : W9.cell? ⟨W6.heap.size, 2, none⟩ = _ := b9.cell 2
  have hz9 : W9.heap.size = W.heap.size := q9.size
  replace hz9 := Lib.hid hz9
  clear b8 k8 p8 p8' hlt hlt' l7 l7' hz7' q9
  go_wp2_with fail
  have x9 : Bk (W9.alloc (.cells #[.int .u8 1, .int .u8 2, .int .u8 3, .int .u8 4] 5)) W9.heap.size 5 (u8s [1, 2, 3, 4]).toArray := Bk.new _ _ _
  refine (same_any _ W9.heap.size A6 _ c6 4 w4.b [1, 2, 3, 4] _ (((Rd.of_own p9).alloc (Nat.le_refl _) _).wide (Nat.le_refl _) (by simp)) ((Rd.of_bk x9).wide (Nat.le_refl _) (by simp))).mono ?_
  rw [show decide (w4.b = [1, 2, 3, 4]) = true from rfl]
  obtain ⟨WA, hWA⟩ : ∃ WA, W9.alloc (.cells #[.int .u8 1, .int .u8 2, .int .u8 3, .int .u8 4] 5) = WA := ⟨_, rfl⟩
  have bA : Bk WA W6.heap.size 24 #[.slice A6 w4.b.length c6, .int .i64 w4.s, .int .i64 w4.r] := by rw [← hWA]; exact b9.alloc _
  have kA : Bk WA W2.heap.size 24 #[.slice A4 w3.b.length c4, .int .i64 w3.s, .int .i64 w3.r] := by rw [← hWA]; exact k9.alloc _
  have pA : WA.ownsRow W5.heap.size 5 1 (.slice A6 w4.b.length c6) w4.b.length (u8s w4.b) := by rw [← hWA]; exact p9.alloc _
  have pA' : WA.ownsRow (W3.heap.size + 1) 5 1 (.slice A4 w3.b.length c4) w3.b.length (u8s w3.b) := by rw [← hWA]; exact p9'.alloc _
  have bwA : Below w.heap.size w WA := by rw [← hWA]; exact bw9.alloc bw9.size _
  rw [hWA]
  clear x9 hWA hW9 d0 d1 d2 b9 k9 p9 p9' bw9 hz9 e0 e1 e2 f0 f1 f2 hb8 o8
  rintro e W10 ⟨rfl, rfl⟩
  have d0 : WA.cell? ⟨W6.heap.size, 0, none⟩ = _ := bA.cell 0
  have d1 : WA.cell? ⟨W6.heap.size, 1, none⟩ = _ := bA.cell 1
  have d2 : WA.cell? ⟨W6.heap.size, 2, none⟩ = _ := bA.cell 2
  have t1 : (w4.s == 4) = true := rfl
  have t2 : (w4.r == 9) = true := rfl
  have t3 : (((w3.crash (-1)).b.length : Int) == 3) = true := rfl
  go_wp2_with fail
  refine (free_any A6 c6 w4 _ (by simp [w4])).mono ?_
  rw [wk6]
  rintro e WB ⟨rfl, hbB⟩
  have kB := kA.below hbB kA.lt
  have pB' := own_below pA' hbB (Nat.le_refl _)
  have bwB : Below w.heap.size w WB := bwA.trans (hbB.mono bwA.size)
  clear d0 d1 d2 bA kA pA pA'
  have g0 : WB.cell? ⟨W2.heap.size, 0, none⟩ = _ := kB.cell 0
  have g1 : WB.cell? ⟨W2.heap.size, 1, none⟩ = _ := kB.cell 1
  have g2 : WB.cell? ⟨W2.heap.size, 2, none⟩ = _ := kB.cell 2
  go_wp2_with fail
  refine (crash_any _ A4 c4 w3 (-1) _ (Rd.of_own pB') (by simp [w3]) (own_cap pB')).mono ?_
  rintro e WC ⟨AC, cC, rfl, _, hbC⟩
  have hfl := fld0
  go_wp2
  go_ret
  exact ⟨ret_b rfl, bwB.trans (hbC.mono bwB.size)⟩

end Go.Proofs.Ythlmleemapeohaa
