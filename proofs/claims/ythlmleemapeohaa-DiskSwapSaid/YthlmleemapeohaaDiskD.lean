/-
Contracts of the disk's functions: all, change, Sync, Crash.
-/
import Derived.Test.YthlmleemapeohaaDiskC
import Derived.StillTailTactics
namespace Go.Proofs.Ythlmleemapeohaa
open Go.RowKit

/-- W' is W but for block b (and draws). -/
structure Only (b : Nat) (W W' : World) : Prop where
  os : W'.os = W.os
  tape : W'.tape = W.tape
  output : W'.output = W.output
  size : W'.heap.size = W.heap.size
  block : ∀ k, k ≠ b → W'.heap[k]? = W.heap[k]?
theorem Only.refl (b : Nat) (W : World) : Only b W W := ⟨rfl, rfl, rfl, rfl, fun _ _ => rfl⟩
theorem Only.set {b : Nat} {W W' : World} (h : Only b W W') (i : Nat) (u : Value) : Only b W (W'.setCell ⟨b, i, none⟩ u) :=
  ⟨h.os, h.tape, h.output, by simp [World.setCell]; exact h.size, fun k hk => (heap_set hk).trans (h.block k hk)⟩
theorem Only.drew {b : Nat} {W W' : World} (h : Only b W W') : Only b W W'.drew := ⟨h.os, h.tape, h.output, h.size, h.block⟩
theorem Only.below {b B : Nat} {W W' : World} (h : Only b W W') (hb : B ≤ b) : Below B W W' := ⟨h.os, h.tape, h.output, by rw [h.size]; exact Nat.le_refl _, fun k hk => h.block k (by omega)⟩

theorem all_any (b : Nat) (A : Option Addr) (n c : Nat) (s r : Int) (w : World) (hb : Bk w b 24 #[.slice A n c, .int .i64 s, .int .i64 r]) :
    Calls Try.prog 33 #[.pointer (some ⟨b, 0, none⟩)] w fun e w' => e = .returned (.tuple #[]) ∧ w.setCell ⟨b, 1, none⟩ (.int .i64 n) = w' := by
  have e0 : w.cell? ⟨b, 0, none⟩ = _ := hb.cell 0
  have e1 : w.cell? ⟨b, 1, none⟩ = _ := hb.cell 1
  have f1 := hb.frozen 1
  go_enter Try.func33, Try.ntmps33
  go_wp2
  go_end0
  exact ⟨rfl, rfl⟩

theorem change_any (g : Fn) (xs ys : Array Value) (w : World) :
    Calls Try.prog 31 #[.func g xs ys] w fun e w' => e = .returned (.func (.func 35) #[] #[.pointer (some ⟨w.heap.size, 0, none⟩)]) ∧ w.alloc (.cells #[.func g xs ys] 49) = w' := by
  go_enter Try.func31, Try.ntmps31
  go_wp2
  go_ret
  exact ⟨rfl, rfl⟩

/-- What a change of a disk comes to: the first k bytes, all safe. -/
def Dk.cut (d : Dk) (k : Nat) : Dk := ⟨d.b.take k, k, d.r⟩

theorem own_take {w : World} {base : Nat} {e : TypeId} {n c k : Nat} {A : Option Addr} {xs : List Value} (h : w.ownsRow base e 1 (.slice A n c) n xs) (hk : k ≤ n) :
    w.ownsRow base e 1 (.slice A k c) k (xs.take k) := by
  refine ⟨by simp [h.1]; omega, ?_⟩
  rcases h.2 with ⟨hv, hn⟩ | ⟨g, cap, cur, hv, hb, hg, h1, h2, h3, h4⟩
  · injection hv with hA _ hc
    subst hA; subst hc
    exact .inl ⟨by rw [show k = 0 by omega], by omega⟩
  · injection hv with hA _ hc
    subst hA; subst hc
    refine .inr ⟨g, c, cur, rfl, hb, hg, by omega, h2, h3, ?_⟩
    rw [← h4, List.take_take]
    congr 1
    omega

set_option maxHeartbeats 400000 in
/-- A disk as it counts, changed by a function that leaves the first k bytes, all safe. -/
theorem change1_any (lo : Nat) (A : Option Addr) (c bx k : Nat) (d : Dk) (g : FuncId) (ys : Array Value) (w : World) (hr : Rd w lo w.heap.size A (u8s d.b)) (hn : d.b.length ≤ 1000000) (hc : d.b.length ≤ c)
    (hbx : Bk w bx 49 #[.func (.func g) #[] ys]) (hk : k ≤ d.own.b.length) (hg : ∀ args w, (callFunc g args).run Try.prog w = .ok (.enter g args) w)
    (hdoes : ∀ (W : World) (A1 : Option Addr) (c1 : Nat), Below w.heap.size w W → Bk W w.heap.size 24 #[.slice A1 d.own.b.length c1, .int .i64 d.own.s, .int .i64 d.own.r] → d.own.b.length ≤ c1 → c1 ≤ maxLen →
      Calls Try.prog g (#[.pointer (some ⟨w.heap.size, 0, none⟩)] ++ ys) W fun e W' => e = .returned (.tuple #[]) ∧ Only w.heap.size W W' ∧ Bk W' w.heap.size 24 #[.slice A1 k c1, .int .i64 k, .int .i64 d.own.r]) :
    Calls Try.prog 35 #[.agg #[.slice A d.b.length c, .int .i64 d.s, .int .i64 d.r], .pointer (some ⟨bx, 0, none⟩)] w fun e w' =>
      ∃ A' c', e = .returned (.agg #[.slice A' k c', .int .i64 k, .int .i64 d.own.r]) ∧ k ≤ c' ∧
      w'.ownsRow w.heap.size 5 1 (.slice A' k c') k (u8s (d.own.b.take k)) ∧ Below w.heap.size w w' := by
  have hlt := hbx.lt
  go_enter Try.func35, Try.ntmps35
  go_wp2_with fail
  obtain ⟨W0, hW0⟩ : ∃ W0, ((w.alloc (.cells #[.slice A d.b.length c, .int .i64 d.s, .int .i64 d.r] 24)).alloc (.cells #[.slice none 0 0, .int .i64 0, .int .i64 0] 24)) = W0 := ⟨_, rfl⟩
  have hz : w.heap.size + 2 ≤ W0.heap.size := by rw [← hW0]; simp
  have hb0 : Bk W0 w.heap.size 24 #[.slice A d.b.length c, .int .i64 d.s, .int .i64 d.r] := by rw [← hW0]; exact (Bk.new _ _ _).alloc _
  have hb1 : Bk W0 (w.heap.size + 1) 24 #[.slice none 0 0, .int .i64 0, .int .i64 0] := by rw [← hW0]; simpa using (Bk.new (w.alloc (.cells #[.slice A d.b.length c, .int .i64 d.s, .int .i64 d.r] 24)) 24 #[.slice none 0 0, .int .i64 0, .int .i64 0])
  have hbel : Below w.heap.size w W0 := by rw [← hW0]; exact ((Below.refl _ _).alloc (Nat.le_refl _) _).alloc (by simp) _
  rw [hW0]
  clear hW0
  refine (own_any lo A c d _ ((hr.below hbel (Nat.le_refl _)).wide (Nat.le_refl _) (by omega)) hn hc).mono ?_
  rintro e W1 ⟨A1, c1, rfl, hown1, hb⟩
  have hz1 := hb.size
  have k0 := hb0.below hb (by omega)
  have k1 := hb1.below hb (by omega)
  have kx := hbx.below (hbel.trans (hb.mono (by omega))) hlt
  have e0 : W1.cell? ⟨w.heap.size, 0, none⟩ = _ := k0.cell 0
  have e1 : W1.cell? ⟨w.heap.size, 1, none⟩ = _ := k0.cell 1
  have e2 : W1.cell? ⟨w.heap.size, 2, none⟩ = _ := k0.cell 2
  have f0 := k0.frozen 0
  have f1 := k0.frozen 1
  have f2 := k0.frozen 2
  have ex : W1.cell? ⟨bx, 0, none⟩ = _ := kx.cell 0
  have hne : bx ≠ w.heap.size := by omega
  go_wp2_with fail
  have b2 := ((k0.set 0 (.slice A1 d.own.b.length c1)).set 1 (.int .i64 d.own.s)).set 2 (.int .i64 d.own.r)
  have o2 := (((Only.refl w.heap.size W1).set 0 (.slice A1 d.own.b.length c1)).set 1 (.int .i64 d.own.s)).set 2 (.int .i64 d.own.r)
  have bw : Below w.heap.size w W1 := hbel.trans (hb.mono (by omega))
  refine (hdoes _ A1 c1 (bw.trans (o2.below (Nat.le_refl _))) b2 (own_cap hown1) ?_).mono ?_
  · exact (own_form hown1).elim fun A' ⟨c', h, _, h1⟩ => by injection h with _ _ h; omega
  rintro e W3 ⟨rfl, o3, b3⟩
  have hown3 : W3.ownsRow W0.heap.size 5 1 (.slice A1 d.own.b.length c1) d.own.b.length (u8s d.own.b) := own_keep hown1 fun g hg => by
    have := hown1.lt g hg
    exact (o3.block g (by omega)).trans (o2.block g (by omega))
  have k3 : Bk W3 (w.heap.size + 1) 24 #[.slice none 0 0, .int .i64 0, .int .i64 0] := k1.keep ((o3.block _ (by omega)).trans (o2.block _ (by omega)))
  have bw3 : Below w.heap.size w W3 := (bw.trans (o2.below (Nat.le_refl _))).trans (o3.below (Nat.le_refl _))
  clear o2 b2 e0 e1 e2 f0 f1 f2 ex kx hb0 hb1 k0 k1
  have e0 : W3.cell? ⟨w.heap.size, 0, none⟩ = _ := b3.cell 0
  have e1 : W3.cell? ⟨w.heap.size, 1, none⟩ = _ := b3.cell 1
  have e2 : W3.cell? ⟨w.heap.size, 2, none⟩ = _ := b3.cell 2
  have g0 : W3.cell? ⟨w.heap.size + 1, 0, none⟩ = _ := k3.cell 0
  have g1 : W3.cell? ⟨w.heap.size + 1, 1, none⟩ = _ := k3.cell 1
  have g2 : W3.cell? ⟨w.heap.size + 1, 2, none⟩ = _ := k3.cell 2
  have f0 := k3.frozen 0
  have f1 := k3.frozen 1
  have f2 := k3.frozen 2
  go_wp2
  have hcap : k ≤ c1 := (own_form hown3).elim fun A' ⟨c', h, h1, _⟩ => by injection h with _ _ h; omega
  refine bodyPost_ret (v := .agg #[.slice A1 k c1, .int .i64 k, .int .i64 d.own.r]) (by simp [results, Try.results35, go_sem, g0, g1, g2]) rfl ⟨A1, c1, rfl, hcap, ?_, ?_⟩
  · have := own_take hown3 hk
    rw [u8s_take] at this
    have n0 : ∀ b, b < W0.heap.size → (Value.slice A1 k c1).ownBlock ≠ some b := fun b hb => own_ne this (.inl hb)
    exact own_base (own_set (own_set (own_set this (n0 _ (by simp; omega)) _) (n0 _ (by simp; omega)) _) (n0 _ (by simp; omega)) _) (by omega)
  · exact ((bw3.setCell (by simp) _).setCell (by simp) _).setCell (by simp) _

def Dk.sync (d : Dk) : Dk := ⟨d.own.b, d.own.b.length, d.own.r⟩
def Dk.left (d : Dk) (keep : Int) : Nat := (d.own.s + min (max keep 0) (d.own.b.length - d.own.s)).toNat
def Dk.crash (d : Dk) (keep : Int) : Dk := ⟨d.own.b.take (d.left keep), d.left keep, d.own.r⟩
theorem Dk.left_le (d : Dk) (keep : Int) : d.left keep ≤ d.own.b.length := by
  have := d.own_fit
  unfold Dk.left
  omega
theorem Dk.crash_len (d : Dk) (keep : Int) : (d.crash keep).b.length = d.left keep := by
  have := d.left_le keep
  simp [Dk.crash]; omega

/-- A change that was made. -/
def IsChg (g : FuncId) (ys : Array Value) (base : Nat) (u : Value) (W : World) : Prop :=
  ∃ bx, u = .func (.func 35) #[] #[.pointer (some ⟨bx, 0, none⟩)] ∧ Bk W bx 49 #[.func (.func g) #[] ys] ∧ base ≤ bx
theorem IsChg.below {g : FuncId} {ys : Array Value} {base B : Nat} {u : Value} {W W' : World} (h : IsChg g ys base u W) (hb : Below B W W') (hB : W.heap.size ≤ B) : IsChg g ys base u W' := by
  obtain ⟨bx, rfl, h1, h2⟩ := h
  exact ⟨bx, rfl, h1.below hb (by have := h1.lt; omega), h2⟩

set_option maxHeartbeats 400000 in
theorem sync_any (lo : Nat) (A : Option Addr) (c : Nat) (d : Dk) (w : World) (hr : Rd w lo w.heap.size A (u8s d.b)) (hn : d.b.length ≤ 1000000) (hc : d.b.length ≤ c) :
    Calls Try.prog 15 #[.agg #[.slice A d.b.length c, .int .i64 d.s, .int .i64 d.r]] w fun e w' =>
      ∃ A' c', e = .returned (.agg #[.slice A' d.sync.b.length c', .int .i64 d.sync.s, .int .i64 d.sync.r]) ∧
      w'.ownsRow w.heap.size 5 1 (.slice A' d.sync.b.length c') d.sync.b.length (u8s d.sync.b) ∧ Below w.heap.size w w' := by
  go_enter Try.func15, Try.ntmps15
  go_wp2_with fail
  obtain ⟨W0, hW0⟩ : ∃ W0, ((w.alloc (.cells #[.slice A d.b.length c, .int .i64 d.s, .int .i64 d.r] 24)).alloc (.cells #[.slice none 0 0, .int .i64 0, .int .i64 0] 24)) = W0 := ⟨_, rfl⟩
  have hz : w.heap.size + 2 ≤ W0.heap.size := by rw [← hW0]; simp
  have hb0 : Bk W0 w.heap.size 24 #[.slice A d.b.length c, .int .i64 d.s, .int .i64 d.r] := by rw [← hW0]; exact (Bk.new _ _ _).alloc _
  have hb1 : Bk W0 (w.heap.size + 1) 24 #[.slice none 0 0, .int .i64 0, .int .i64 0] := by rw [← hW0]; simpa using (Bk.new (w.alloc (.cells #[.slice A d.b.length c, .int .i64 d.s, .int .i64 d.r] 24)) 24 #[.slice none 0 0, .int .i64 0, .int .i64 0])
  have hbel : Below w.heap.size w W0 := by rw [← hW0]; exact ((Below.refl _ _).alloc (Nat.le_refl _) _).alloc (by simp) _
  rw [hW0]
  clear hW0
  have hE0 : ∀ {W : World}, Below W0.drew.heap.size W0.drew W → Below W0.heap.size W0 W := fun h => (Below.refl _ _).drew.trans h
  refine wp_region_rg 3 [] [.inr (IsChg 33 #[] W0.heap.size), .inl (.agg #[.slice A d.b.length c, .int .i64 d.s, .int .i64 d.r]), .inr (IsDk W0.heap.size d.sync)]
    (by kernel_rfl) (by kernel_rfl) rfl rfl ?_ ?_
  · rintro (_ | _ | _ | j) φ h <;> simp at h <;> subst h <;> exact fun u W W' hp hb => hp.below hb (Nat.le_refl _)
  refine RG_nd (fun W hE _ => ?_) (fun u1 => RG_det (fun W hE _ => ?_) (RG_nd (fun W hE hN => ?_) (fun u2 => RG_end (fun W hE hN _ => ?_))))
  · have hE := hE0 hE
    have hz' := hE.size
    go_wp2_with (go_at_call 31; refine (change_any _ _ _ _).mono ?_; rintro e w1 ⟨rfl, rfl⟩)
    exact ⟨⟨⟨_, rfl, Bk.new _ _ _, hz'⟩, (Below.refl _ _).alloc (Nat.le_refl _) _, by simp⟩, rfl⟩
  · have k := hb0.below (hE0 hE) (by omega)
    have e0 : W.cell? ⟨w.heap.size, 0, none⟩ = _ := k.cell 0
    have e1 : W.cell? ⟨w.heap.size, 1, none⟩ = _ := k.cell 1
    have e2 : W.cell? ⟨w.heap.size, 2, none⟩ = _ := k.cell 2
    go_wp2
    exact ⟨⟨rfl, Below.refl _ _⟩, rfl⟩
  · obtain ⟨⟨bx, h1, hbx, hbase⟩, _⟩ := hN
    obtain rfl : u1 = _ := h1
    replace hE := hE0 hE
    have hz' := hE.size
    go_wp2_with fail
    refine (change1_any lo A c bx d.own.b.length d 33 #[] W ((hr.below (hbel.trans (hE.mono (by omega))) (Nat.le_refl _)).wide (Nat.le_refl _) (by omega)) hn hc hbx (Nat.le_refl _) (enters_fn Try.func33 (by kernel_rfl) rfl)
      (fun W1 A1 c1 hW1 hB1 hc1 _ => (all_any _ A1 d.own.b.length c1 _ _ W1 hB1).mono (by rintro e w1 ⟨rfl, rfl⟩; exact ⟨rfl, (Only.refl _ _).set 1 _, hB1.set 1 _⟩))).mono ?_
    rintro e w1 ⟨A1, c1, rfl, hcap, hown1, hbl⟩
    rw [List.take_of_length_le (Nat.le_refl _)] at hown1
    go_wp2
    exact ⟨⟨⟨A1, c1, rfl, own_base hown1 hz'⟩, hbl, by simp⟩, rfl⟩
  obtain ⟨_, ⟨A1, c1, h2, hown1⟩, _⟩ := hN
  obtain rfl : u2 = _ := h2
  replace hE := hE0 hE
  dsimp only [List.drop]
  have k1 := hb1.below hE (by omega)
  have e3 : W.cell? ⟨w.heap.size + 1, 0, none⟩ = _ := k1.cell 0
  have e4 : W.cell? ⟨w.heap.size + 1, 1, none⟩ = _ := k1.cell 1
  have e5 : W.cell? ⟨w.heap.size + 1, 2, none⟩ = _ := k1.cell 2
  have f3 := k1.frozen 0
  have f4 := k1.frozen 1
  have f5 := k1.frozen 2
  go_wp2
  refine bodyPost_ret (v := .agg #[.slice A1 d.sync.b.length c1, .int .i64 d.sync.s, .int .i64 d.sync.r]) (by simp [results, Try.results15, go_sem, e3, e4, e5]) rfl ⟨A1, c1, rfl, ?_, ?_⟩
  · have n0 : (Value.slice A1 d.sync.b.length c1).ownBlock ≠ some (w.heap.size + 1) := own_ne hown1 (.inl (by omega))
    exact own_base (own_set (own_set (own_set hown1 n0 _) n0 _) n0 _) (by omega)
  · exact (((hbel.trans (hE.mono (by omega))).setCell (by simp) _).setCell (by simp) _).setCell (by simp) _

set_option maxHeartbeats 400000 in
/-- What a crash does to the disk that is changed. -/
theorem crash1_any (b bk : Nat) (A : Option Addr) (c : Nat) (d : Dk) (keep : Int) (w : World) (hb : Bk w b 24 #[.slice A d.own.b.length c, .int .i64 d.own.s, .int .i64 d.own.r]) (hk : Bk w bk 3 #[.int .i64 keep])
    (hc : d.own.b.length ≤ c) (hcm : c ≤ maxLen) :
    Calls Try.prog 32 #[.pointer (some ⟨b, 0, none⟩), .pointer (some ⟨bk, 0, none⟩)] w fun e w' => e = .returned (.tuple #[]) ∧ Only b w w' ∧
      Bk w' b 24 #[.slice A (d.left keep) c, .int .i64 (d.left keep), .int .i64 d.own.r] := by
  have hfit := d.own_fit
  have hle := d.left_le keep
  have hl : (d.left keep : Int) = d.own.s + min (max keep 0) (d.own.b.length - d.own.s) := by unfold Dk.left; omega
  have hw1 : IntKind.i64.wrap ((d.own.b.length : Int) - d.own.s) = d.own.b.length - d.own.s := IntWalk.i64_in _ (by omega)
  have hw2 : IntKind.i64.wrap (d.own.s + min (max keep 0) ((d.own.b.length : Int) - d.own.s)) = d.left keep := by rw [hl]; exact IntWalk.i64_in _ (by omega)
  have hl0 : (0 : Int) ≤ d.left keep := Int.natCast_nonneg _
  have hl1 : (d.left keep : Int) ≤ c := by omega
  replace hl := Lib.hid hl
  have e0 : w.cell? ⟨b, 0, none⟩ = _ := hb.cell 0
  have e1 : w.cell? ⟨b, 1, none⟩ = _ := hb.cell 1
  have ek : w.cell? ⟨bk, 0, none⟩ = _ := hk.cell 0
  have f0 := hb.frozen 0
  go_enter Try.func32, Try.ntmps32
  go_wp2_with fail
  refine wp_region_still_tail 23 (by kernel_rfl) (by kernel_rfl) ?_
  simp only [List.take_succ_cons, List.take_zero, List.drop_succ_cons, List.drop_zero]
  repeat still_step
  still_call ((within_any _ _ _).mono fun e w' h => ⟨h.1, h.2.symm⟩)
  repeat still_step
  refine wpStill_nil ?_
  change wpList _ _ _ _ _ w.drew
  have k0 := hb.drew
  have o0 : Only b w w.drew := (Only.refl b w).drew
  clear e0 e1 ek f0 hk hb hw1 hw2
  generalize w.drew = w2 at *
  have g0 : w2.cell? ⟨b, 0, none⟩ = _ := k0.cell 0
  have g1 := k0.frozen 0
  go_wp2_with fail
  refine (all_any b A (d.left keep) c d.own.s d.own.r _ (k0.set 0 _)).mono ?_
  rintro e w3 ⟨rfl, rfl⟩
  go_wp2
  go_end0
  exact ⟨rfl, (o0.set 0 _).set 1 _, (k0.set 0 _).set 1 _⟩

set_option maxHeartbeats 400000 in
theorem crash_any (lo : Nat) (A : Option Addr) (c : Nat) (d : Dk) (keep : Int) (w : World) (hr : Rd w lo w.heap.size A (u8s d.b)) (hn : d.b.length ≤ 1000000) (hc : d.b.length ≤ c) :
    Calls Try.prog 14 #[.agg #[.slice A d.b.length c, .int .i64 d.s, .int .i64 d.r], .int .i64 keep] w fun e w' =>
      ∃ A' c', e = .returned (.agg #[.slice A' (d.crash keep).b.length c', .int .i64 (d.crash keep).s, .int .i64 (d.crash keep).r]) ∧
      w'.ownsRow w.heap.size 5 1 (.slice A' (d.crash keep).b.length c') (d.crash keep).b.length (u8s (d.crash keep).b) ∧ Below w.heap.size w w' := by
  go_enter Try.func14, Try.ntmps14
  go_wp2_with fail
  obtain ⟨W0, hW0⟩ : ∃ W0, (((w.alloc (.cells #[.slice A d.b.length c, .int .i64 d.s, .int .i64 d.r] 24)).alloc (.cells #[.int .i64 keep] 3)).alloc (.cells #[.slice none 0 0, .int .i64 0, .int .i64 0] 24)) = W0 := ⟨_, rfl⟩
  have hz : w.heap.size + 3 ≤ W0.heap.size := by rw [← hW0]; simp
  have hb0 : Bk W0 w.heap.size 24 #[.slice A d.b.length c, .int .i64 d.s, .int .i64 d.r] := by rw [← hW0]; exact ((Bk.new _ _ _).alloc _).alloc _
  have hbk : Bk W0 (w.heap.size + 1) 3 #[.int .i64 keep] := by rw [← hW0]; simpa using (Bk.new (w.alloc (.cells #[.slice A d.b.length c, .int .i64 d.s, .int .i64 d.r] 24)) 3 #[.int .i64 keep]).alloc (.cells #[.slice none 0 0, .int .i64 0, .int .i64 0] 24)
  have hb1 : Bk W0 (w.heap.size + 1 + 1) 24 #[.slice none 0 0, .int .i64 0, .int .i64 0] := by rw [← hW0]; simpa using (Bk.new ((w.alloc (.cells #[.slice A d.b.length c, .int .i64 d.s, .int .i64 d.r] 24)).alloc (.cells #[.int .i64 keep] 3)) 24 #[.slice none 0 0, .int .i64 0, .int .i64 0])
  have hbel : Below w.heap.size w W0 := by rw [← hW0]; exact (((Below.refl _ _).alloc (Nat.le_refl _) _).alloc (by simp) _).alloc (by simp; omega) _
  rw [hW0]
  clear hW0
  have hE0 : ∀ {W : World}, Below W0.drew.heap.size W0.drew W → Below W0.heap.size W0 W := fun h => (Below.refl _ _).drew.trans h
  refine wp_region_rg 4 [] [.inl (.func (.func 32) #[] #[.pointer (some ⟨w.heap.size + 1, 0, none⟩)]), .inr (IsChg 32 #[.pointer (some ⟨w.heap.size + 1, 0, none⟩)] W0.heap.size), .inl (.agg #[.slice A d.b.length c, .int .i64 d.s, .int .i64 d.r]), .inr (IsDk W0.heap.size (d.crash keep))]
    (by kernel_rfl) (by kernel_rfl) rfl rfl ?_ ?_
  · rintro (_ | _ | _ | _ | j) φ h <;> simp at h <;> subst h <;> exact fun u W W' hp hb => hp.below hb (Nat.le_refl _)
  refine RG_det (fun W hE _ => ?_) (RG_nd (fun W hE _ => ?_) (fun u1 => RG_det (fun W hE _ => ?_) (RG_nd (fun W hE hN => ?_) (fun u2 => RG_end (fun W hE hN _ => ?_)))))
  · go_wp2
    exact ⟨⟨rfl, Below.refl _ _⟩, rfl⟩
  · have hE := hE0 hE
    have hz' := hE.size
    go_wp2_with (go_at_call 31; refine (change_any _ _ _ _).mono ?_; rintro e w1 ⟨rfl, rfl⟩)
    exact ⟨⟨⟨_, rfl, Bk.new _ _ _, hz'⟩, (Below.refl _ _).alloc (Nat.le_refl _) _, by simp⟩, rfl⟩
  · have k := hb0.below (hE0 hE) (by omega)
    have e0 : W.cell? ⟨w.heap.size, 0, none⟩ = _ := k.cell 0
    have e1 : W.cell? ⟨w.heap.size, 1, none⟩ = _ := k.cell 1
    have e2 : W.cell? ⟨w.heap.size, 2, none⟩ = _ := k.cell 2
    go_wp2
    exact ⟨⟨rfl, Below.refl _ _⟩, rfl⟩
  · obtain ⟨⟨bx, h1, hbx, hbase⟩, _⟩ := hN
    obtain rfl : u1 = _ := h1
    replace hE := hE0 hE
    have hz' := hE.size
    have kk := hbk.below hE (by omega)
    go_wp2_with fail
    refine (change1_any lo A c bx (d.left keep) d 32 #[.pointer (some ⟨w.heap.size + 1, 0, none⟩)] W ((hr.below (hbel.trans (hE.mono (by omega))) (Nat.le_refl _)).wide (Nat.le_refl _) (by omega)) hn hc hbx (d.left_le keep) (enters_fn Try.func32 (by kernel_rfl) rfl)
      (fun W1 A1 c1 hW1 hB1 hc1 hcm => (crash1_any _ (w.heap.size + 1) A1 c1 d keep W1 hB1 (kk.below hW1 (by omega)) hc1 hcm).mono (by rintro e w1 ⟨rfl, h1, h2⟩; exact ⟨rfl, h1, h2⟩))).mono ?_
    rintro e w1 ⟨A1, c1, rfl, hcap, hown1, hbl⟩
    rw [show List.take (d.left keep) d.own.b = (d.crash keep).b from rfl, ← d.crash_len keep] at hown1
    go_wp2
    exact ⟨⟨⟨A1, c1, by rw [d.crash_len keep]; rfl, own_base hown1 hz'⟩, hbl, by simp⟩, rfl⟩
  obtain ⟨_, ⟨A1, c1, h2, hown1⟩, _⟩ := hN
  obtain rfl : u2 = _ := h2
  replace hE := hE0 hE
  dsimp only [List.drop]
  have k1 := hb1.below hE (by omega)
  have e3 : W.cell? ⟨w.heap.size + 1 + 1, 0, none⟩ = _ := k1.cell 0
  have e4 : W.cell? ⟨w.heap.size + 1 + 1, 1, none⟩ = _ := k1.cell 1
  have e5 : W.cell? ⟨w.heap.size + 1 + 1, 2, none⟩ = _ := k1.cell 2
  have f3 := k1.frozen 0
  have f4 := k1.frozen 1
  have f5 := k1.frozen 2
  go_wp2
  refine bodyPost_ret (v := .agg #[.slice A1 (d.crash keep).b.length c1, .int .i64 (d.crash keep).s, .int .i64 (d.crash keep).r]) (by simp [results, Try.results14, go_sem, e3, e4, e5]) rfl ⟨A1, c1, rfl, ?_, ?_⟩
  · have n0 : (Value.slice A1 (d.crash keep).b.length c1).ownBlock ≠ some (w.heap.size + 1 + 1) := own_ne hown1 (.inl (by omega))
    exact own_base (own_set (own_set (own_set hown1 n0 _) n0 _) n0 _) (by omega)
  · exact (((hbel.trans (hE.mono (by omega))).setCell (by simp; omega) _).setCell (by simp; omega) _).setCell (by simp; omega) _

end Go.Proofs.Ythlmleemapeohaa
