/-
Texts of other layers, in one: DkP, LDa, LDb, LDc, LDt.
-/
import Derived.Test.YtcohgnagffibcaaDoorJm
import Derived.Test.YtcohgnagffibcaaDoorTy
import Derived.Test.YtcohgnagffibcaaDoorJy
import Derived.Test.YtcohgnagffibcaaDoorJg
import Derived.Test.YtcohgnagffibcaaDoorJt
namespace Go.Proofs.YtcohgnagffibcaaDoor
set_option linter.unusedVariables false
open Go.RowKit
structure Dk where
  b : List UInt8
  s : Int
  r : Int
def Dk.room (d : Dk) : Int := min (max d.r 0) 65536
def Dk.own (d : Dk) : Dk := ⟨d.b.take d.room.toNat, min (max d.s 0) (d.b.take d.room.toNat).length, d.room⟩
theorem Dk.own_len (d : Dk) : d.own.b.length ≤ d.b.length := by simp [Dk.own]; omega
theorem Dk.own_fit (d : Dk) : (d.own.b.length : Int) ≤ d.own.r ∧ 0 ≤ d.own.s ∧ d.own.s ≤ d.own.b.length ∧ 0 ≤ d.own.r ∧ d.own.r ≤ 65536 := by
  simp [Dk.own, Dk.room]; omega
/-- A disk that counts as it is. -/
def Dk.ok (d : Dk) : Prop := (d.b.length : Int) ≤ d.r ∧ 0 ≤ d.s ∧ d.s ≤ d.b.length ∧ d.r ≤ 65536
theorem Dk.own_ok (d : Dk) : d.own.ok := by have := d.own_fit; exact ⟨this.1, this.2.1, this.2.2.1, this.2.2.2.2⟩
theorem Dk.ok_own {d : Dk} (h : d.ok) : d.own = d := by
  obtain ⟨b, s, r⟩ := d
  obtain ⟨h1, h2, h3, h4⟩ := h
  simp only at h1 h2 h3 h4
  have h0 : (min (max r 0) 65536) = r := by omega
  simp only [Dk.own, Dk.room, h0]
  rw [List.take_of_length_le (by omega)]
  congr 1
  omega
theorem Dk.own_own (d : Dk) : d.own.own = d.own := Dk.ok_own d.own_ok
def Dk.sync (d : Dk) : Dk := ⟨d.own.b, d.own.b.length, d.own.r⟩
def Dk.left (d : Dk) (keep : Int) : Nat := (d.own.s + min (max keep 0) (d.own.b.length - d.own.s)).toNat
def Dk.crash (d : Dk) (keep : Int) : Dk := ⟨d.own.b.take (d.left keep), d.left keep, d.own.r⟩
theorem Dk.left_le (d : Dk) (keep : Int) : d.left keep ≤ d.own.b.length := by
  have := d.own_fit
  unfold Dk.left
  omega
theorem Dk.left_eq (d : Dk) (keep : Int) : (d.left keep : Int) = d.own.s + min (max keep 0) (d.own.b.length - d.own.s) := by
  have := d.own_fit
  unfold Dk.left
  omega
theorem Dk.crash_len (d : Dk) (keep : Int) : (d.crash keep).b.length = d.left keep := by
  have := d.left_le keep
  simp [Dk.crash]; omega
theorem Dk.sync_ok (d : Dk) : d.sync.ok := by have := d.own_fit; refine ⟨?_, ?_, ?_, ?_⟩ <;> simp only [Dk.sync] <;> omega
theorem Dk.crash_ok (d : Dk) (keep : Int) : (d.crash keep).ok := by
  have := d.own_fit
  have h1 := d.left_le keep
  have h2 := d.crash_len keep
  refine ⟨?_, ?_, ?_, ?_⟩
  · rw [h2]; simp only [Dk.crash]; omega
  · simp only [Dk.crash]; omega
  · rw [h2]; simp only [Dk.crash]; omega
  · simp only [Dk.crash]; omega
def Dk.fits (d : Dk) (b : List UInt8) : Prop := ((d.own.b ++ b).length : Int) ≤ d.own.r
instance (d : Dk) (b : List UInt8) : Decidable (d.fits b) := by unfold Dk.fits; infer_instance
def Dk.app (d : Dk) (b : List UInt8) : Dk := if d.fits b then ⟨d.own.b ++ b, d.own.s, d.own.r⟩ else d.own
def Dk.appE (d : Dk) (b : List UInt8) : Int := if d.fits b then 0 else 30
def Dk.swap (d : Dk) (b : List UInt8) : Dk := if (b.length : Int) ≤ d.own.r then ⟨b, b.length, d.own.r⟩ else d.own
def Dk.swapE (d : Dk) (b : List UInt8) : Int := if (b.length : Int) ≤ d.own.r then 0 else 30
def Dk.new (room : Int) : Dk := ⟨[], 0, min (max room 0) 65536⟩
theorem new_own (room : Int) : (⟨[], 0, room⟩ : Dk).own = Dk.new room := by
  unfold Dk.own Dk.new Dk.room
  simp
theorem Dk.app_ok (d : Dk) (b : List UInt8) : (d.app b).ok := by
  unfold Dk.app
  have := d.own_fit
  split
  · rename_i h
    unfold Dk.fits at h
    refine ⟨h, this.2.1, ?_, this.2.2.2.2⟩
    simp only [List.length_append]; omega
  · exact d.own_ok
theorem Dk.swap_ok (d : Dk) (b : List UInt8) : (d.swap b).ok := by
  unfold Dk.swap
  have := d.own_fit
  split
  · rename_i h
    exact ⟨h, by simp only; omega, Int.le_refl _, this.2.2.2.2⟩
  · exact d.own_ok
abbrev OAd := Option Addr × Nat
def Dk.cs (d : Dk) (x : OAd) : List Value := [.slice x.1 d.b.length x.2, .int .i64 d.s, .int .i64 d.r]
def Dk.v (d : Dk) (x : OAd) : Value := .agg #[.slice x.1 d.b.length x.2, .int .i64 d.s, .int .i64 d.r]
def Dk.row (d : Dk) (x : OAd) : Res := .row 5 1 (.slice x.1 d.b.length x.2) d.b.length (u8s d.b)
/-- Bytes in parts. -/
abbrev Ps := List (OAd × List UInt8)
def psv (zs : Ps) : List Value := zs.map fun z => .slice z.1.1 z.2.length z.1.2
def Fact.ps (zs : Ps) : Fact := ⟨fun X W => ∀ z ∈ zs, (Fact.rd z.1.1 (u8s z.2)).p X W, fun X X' W W' h hf hx z hz => (Fact.rd z.1.1 (u8s z.2)).fr X X' W W' (h z hz) hf hx⟩
def solid (zs : Ps) : Ps := zs.filter fun z => decide (0 < z.2.length)
def flat (zs : Ps) : List UInt8 := zs.flatMap (·.2)
theorem solid_flat (zs : Ps) : flat (solid zs) = flat zs := by
  induction zs with
  | nil => rfl
  | cons z zs ih =>
    unfold solid flat at *
    by_cases h : 0 < z.2.length
    · rw [List.filter_cons_of_pos (by simpa using h)]
      simp only [List.flatMap_cons, ih]
    · rw [List.filter_cons_of_neg (by simpa using h), ih]
      have : z.2 = [] := List.eq_nil_of_length_eq_zero (by omega)
      simp [this]
theorem solid_mem {zs : Ps} {z : OAd × List UInt8} (h : z ∈ solid zs) : z ∈ zs ∧ 0 < z.2.length := by
  have := List.mem_filter.1 h
  exact ⟨this.1, by simpa using this.2⟩
theorem solid_len (zs : Ps) : (solid zs).length ≤ zs.length := List.length_filter_le ..
theorem solid_succ {zs : Ps} {k : Nat} (h : k < zs.length) : solid (zs.take (k + 1)) = solid (zs.take k) ++ (if 0 < zs[k].2.length then [zs[k]] else []) := by
  rw [List.take_succ_eq_append_getElem h]
  unfold solid
  rw [List.filter_append]
  congr 1
  by_cases h0 : 0 < zs[k].2.length <;> simp [h0]
theorem solid_at {zs : Ps} {k : Nat} (h : k < zs.length) (h0 : 0 < zs[k].2.length) : (solid (zs.take k)).length < (solid zs).length ∧ (solid zs)[(solid (zs.take k)).length]? = some zs[k] := by
  have e : solid zs = solid (zs.take k) ++ zs[k] :: solid (zs.drop (k + 1)) := by
    have : zs = zs.take k ++ zs[k] :: zs.drop (k + 1) := by simp
    conv => lhs; rw [this]
    unfold solid
    rw [List.filter_append, List.filter_cons_of_pos (by simpa using h0)]
  rw [e]
  exact ⟨by simp, by simp⟩
theorem flat_take {zs : Ps} {k : Nat} (h : k < zs.length) : flat (zs.take (k + 1)) = flat (zs.take k) ++ zs[k].2 := by
  rw [List.take_succ_eq_append_getElem h]; unfold flat; rw [List.flatMap_append]; simp
theorem flat_le (zs : Ps) (k : Nat) : (flat (zs.take k)).length ≤ (flat zs).length := by
  have : flat zs = flat (zs.take k) ++ flat (zs.drop k) := by unfold flat; rw [← List.flatMap_append, List.take_append_drop]
  rw [this, List.length_append]; omega
end Go.Proofs.YtcohgnagffibcaaDoor
namespace Go.Proofs.YtcohgnagffibcaaDoor
set_option linter.unusedVariables false
open Go.RowKit
theorem row_cut {e : TypeId} {c m k : Nat} {A : Option Addr} {xs : List Value} {W : World} (hk : k ≤ m) (h : (Res.row e 1 (.slice A m c) m xs).says W) : (Res.row e 1 (.slice A k c) k (xs.take k)).says W := by
  obtain ⟨h1, h2⟩ := h
  refine ⟨by simp at h1 ⊢; omega, ?_⟩
  rcases h2 with ⟨h3, h4⟩ | ⟨g, cap, cur, h3, hb, h5, h6, h7, h8, h9⟩
  · subst h4
    simp only [Value.slice.injEq] at h3
    obtain ⟨rfl, _, rfl⟩ := h3
    exact .inl ⟨by simp; omega, by omega⟩
  · simp only [Value.slice.injEq, true_and] at h3
    obtain ⟨rfl, rfl⟩ := h3
    refine .inr ⟨g, c, cur, rfl, hb, h5, by omega, h7, h8, ?_⟩
    rw [← h9, List.take_take, Nat.mul_one, Nat.mul_one, Nat.min_eq_left hk]
theorem row_cut_own {e : TypeId} {c m k : Nat} {A : Option Addr} {xs ys : List Value} : ∀ b, (Res.row e 1 (.slice A k c) k ys).own b → (Res.row e 1 (.slice A m c) m xs).own b := fun b h => by
  cases A with
  | none => exact h
  | some a => exact h
attribute [local irreducible] Res.blk Res.row Fact.rd
theorem sclone_ct (A : Option Addr) (c : Nat) (l : List UInt8) (hn : l.length ≤ 10000000) :
    Ct Tryd.prog 48 [.slice A l.length c] [] [.rd A (u8s l)] (fun x : OAd => .slice x.1 l.length x.2) (fun x => [.row 5 1 (.slice x.1 l.length x.2) l.length (u8s l)]) (fun _ => []) := by
  cases A with
  | none =>
    refine Ct.of _ Tryd.func48 Tryd.ntmps48 rfl rfl (fun X W => ?_)
    refine Jc.pure (p := l = []) Mem.here (fun X W h => ?_) ?_
    · cases l with
      | nil => rfl
      | cons x l => exact absurd (Fact.rd_none h) (by simp [u8s])
    rintro rfl
    refine Jc.seq ?_
    refine Jc.region ?_
    refine Jl.pv (PR.assign rfl) ?_
    refine Jl.nil ?_
    refine Jq.thenN ?_
    refine Jc.seq ?_
    refine Jc.seq ?_
    refine Jc.region ?_
    refine Jl.pv (PR.move rfl) ?_
    refine Jl.pv (PR.eqlNil true rfl tsl22 rfl) ?_
    refine Jl.nil ?_
    refine Jq.thenN ?_
    refine Jc.condT rfl ?_
    refine Jc.seq ?_
    refine Jc.region ?_
    refine Jl.pv (PR.assign rfl) ?_
    refine Jl.nil ?_
    refine Jq.thenN ?_
    refine Jc.ret ?_
    refine Jq.thenR ?_
    refine Jq.nilRow 5 1 ?_
    exact Jq.fin (none, 0) (.inl rfl) rfl (RetVs.tmp rfl RetVs.nil) rfl (by repeat (first | exact Take.nil | apply Take.cons (by repeat (first | exact Del.here | apply Del.there)))) (by repeat (first | exact trivial | refine And.intro (by repeat (first | exact Mem.here | apply Mem.there)) ?_))
  | some a =>
    refine Ct.of _ Tryd.func48 Tryd.ntmps48 rfl rfl (fun X W => ?_)
    refine Jc.seq ?_
    refine Jc.region ?_
    refine Jl.pv (PR.assign rfl) ?_
    refine Jl.nil ?_
    refine Jq.thenN ?_
    refine Jc.seq ?_
    refine Jc.seq ?_
    refine Jc.region ?_
    refine Jl.pv (PR.move rfl) ?_
    refine Jl.pv (PR.eqlNil false rfl tsl22 rfl) ?_
    refine Jl.nil ?_
    refine Jq.thenN ?_
    refine Jc.condF rfl ?_
    refine Jc.skip ?_
    refine Jq.thenN ?_
    refine Jc.seq ?_
    refine Jc.region ?_
    refine Jl.buildSlice (by rfl) tsl22 tzr22_0 (by rfl) (by rfl) ?_
    intro b5
    refine Jl.pv (PR.move rfl) ?_
    refine Jl.toRow 1 0 (by repeat (first | exact Swap.here | apply Swap.there)) (by rfl) (by rfl) ?_
    refine Jl.append l.length (u8s l) rfl rfl rfl tsl22 tze5 (by rfl) (by decide) tby5 (fun _ _ => (by repeat (first | exact Swap.here | apply Swap.there))) (by repeat (first | exact Mem.here | apply Mem.there)) (by omega) rfl (by simp [u8s]) (u8s_one _) (by omega) (by decide) ?_
    intro A7 c7
    refine Jl.pv (PR.assign rfl) ?_
    refine Jl.nil ?_
    refine Jq.thenN ?_
    refine Jc.ret ?_
    exact Jq.fin (A7, c7) (.inl rfl) rfl (RetVs.tmp rfl RetVs.nil) rfl (by repeat (first | exact Take.nil | apply Take.cons (by repeat (first | exact Del.here | apply Del.there)))) (by repeat (first | exact trivial | refine And.intro (by repeat (first | exact Mem.here | apply Mem.there)) ?_))
theorem within_ct (k top : Int) : Ct Tryd.prog 47 [.int .i64 k, .int .i64 top] [] [] (fun _ : Unit => .int .i64 (min (max k 0) top)) (fun _ => []) (fun _ => []) := by
  refine Ct.of _ Tryd.func47 Tryd.ntmps47 rfl rfl (fun X W => ?_)
  refine Jc.seq ?_
  refine Jc.region ?_
  refine Jl.pv (PR.assign rfl) ?_
  refine Jl.nil ?_
  refine Jq.thenN ?_
  refine Jc.seq ?_
  refine Jc.region ?_
  refine Jl.pv (PR.move rfl) ?_
  refine Jl.pv (PR.max2 _ rfl rfl rfl) ?_
  refine Jl.pv (PR.move rfl) ?_
  refine Jl.pv (PR.min2 _ rfl rfl rfl) ?_
  refine Jl.pv (PR.assign rfl) ?_
  refine Jl.nil ?_
  refine Jq.thenN ?_
  refine Jc.ret ?_
  exact Jq.fin () (.inl rfl) rfl (RetVs.tmp rfl RetVs.nil) rfl (by repeat (first | exact Take.nil | apply Take.cons (by repeat (first | exact Del.here | apply Del.there)))) (by repeat (first | exact trivial | refine And.intro (by repeat (first | exact Mem.here | apply Mem.there)) ?_))
theorem own_ct (A : Option Addr) (c : Nat) (d : Dk) (hn : d.b.length ≤ 500000) (hc : d.b.length ≤ c) :
    Ct Tryd.prog 33 [d.v (A, c)] [] [.rd A (u8s d.b)] d.own.v (fun x => [d.own.row x]) (fun _ => []) := by
  have hl : d.own.b.length ≤ d.b.length := by simp [Dk.own]; omega
  refine Ct.of _ Tryd.func33 Tryd.ntmps33 rfl rfl (fun X W => ?_)
  refine Jc.seq ?_
  refine Jc.region ?_
  refine Jl.box rfl (by rfl) ?_
  intro b1
  refine Jl.alloc tze24 ?_
  intro b2
  refine Jl.nil ?_
  refine Jq.thenN ?_
  refine Jc.seq ?_
  refine Jc.region ?_
  refine Jl.pv (PR.fieldAddr rfl tfl24_2) ?_
  refine Jl.pv (PR.load1 rfl tsh3 (by repeat (first | exact Has.here | apply Has.there)) (by rfl)) ?_
  refine Jl.call (within_ct d.r 65536) en47 (by rfl) (by repeat (first | exact Take.nil | apply Take.cons (by repeat (first | exact Del.here | apply Del.there)))) (by repeat (first | exact trivial | refine And.intro (by repeat (first | exact Mem.here | apply Mem.there)) ?_)) ?_
  rintro ⟨⟩
  refine Jl.pv (PR.assign rfl) ?_
  refine Jl.nil ?_
  refine Jq.thenN ?_
  refine Jc.seq ?_
  refine Jc.region ?_
  refine Jl.pv (PR.fieldAddr rfl tfl24_0) ?_
  refine Jl.pv (PR.load1 rfl tsh22 (by repeat (first | exact Has.here | apply Has.there)) (by rfl)) ?_
  refine Jl.pv (PR.fieldAddr rfl tfl24_0) ?_
  refine Jl.pv (PR.load1 rfl tsh22 (by repeat (first | exact Has.here | apply Has.there)) (by rfl)) ?_
  refine Jl.pv (PR.len rfl tsl22) ?_
  refine Jl.pv (PR.move rfl) ?_
  refine Jl.pv (PR.min2 d.own.b.length rfl rfl (by simp [Dk.own, Dk.room]; omega)) ?_
  refine Jl.slice 0 d.own.b.length d.own.b.length (u8s d.own.b) rfl tsl22 rfl rfl (by repeat (first | exact Mem.here | apply Mem.there)) (by omega) hl hc rfl (by simp [Dk.own, u8s, List.map_take]) ?_
  intro A15 c15 hc15
  clear hc15
  refine Jl.call (sclone_ct A15 c15 d.own.b (by omega)) en48 (by rfl) (by repeat (first | exact Take.nil | apply Take.cons (by repeat (first | exact Del.here | apply Del.there)))) (by repeat (first | exact trivial | refine And.intro (by repeat (first | exact Mem.here | apply Mem.there)) ?_)) ?_
  rintro ⟨A16, c16⟩
  refine Jl.pv (PR.assign rfl) ?_
  refine Jl.nil ?_
  refine Jq.thenN ?_
  refine Jc.seq ?_
  refine Jc.region ?_
  refine Jl.pv (PR.move rfl) ?_
  refine Jl.pv (PR.fieldAddr rfl tfl24_1) ?_
  refine Jl.pv (PR.load1 rfl tsh3 (by repeat (first | exact Has.here | apply Has.there)) (by rfl)) ?_
  refine Jl.pv (PR.move rfl) ?_
  refine Jl.pv (PR.len rfl tsl22) ?_
  refine Jl.call (within_ct d.s d.own.b.length) en47 (by rfl) (by repeat (first | exact Take.nil | apply Take.cons (by repeat (first | exact Del.here | apply Del.there)))) (by repeat (first | exact trivial | refine And.intro (by repeat (first | exact Mem.here | apply Mem.there)) ?_)) ?_
  rintro ⟨⟩
  refine Jl.pv (PR.move rfl) ?_
  refine Jl.pv (PR.build (by rfl) tze24 tpl24_0_1_2 (by rfl)) ?_
  refine Jl.storeW rfl tsh24 rfl (by rfl) (by simp [Value.oneCell']) (by repeat (first | exact Swap.here | apply Swap.there)) (by rfl) ?_
  refine Jl.nil ?_
  refine Jq.thenN ?_
  refine Jc.ret ?_
  exact Jq.fin (A16, c16) (.inl rfl) rfl (RetVs.cellA rfl (by repeat (first | exact Has.here | apply Has.there)) tsh24 (by rfl) RetVs.nil) rfl (by repeat (first | exact Take.nil | apply Take.cons (by repeat (first | exact Del.here | apply Del.there)))) (by repeat (first | exact trivial | refine And.intro (by repeat (first | exact Mem.here | apply Mem.there)) ?_))
theorem cut_says (d : Dk) (keep : Int) (x : OAd) (W : World) (h : (d.own.row x).says W) : ((d.crash keep).row x).says W := by
  have h1 := d.left_le keep
  have h2 := d.crash_len keep
  have h3 := row_cut (k := d.left keep) h1 h
  unfold Dk.row
  rw [h2]
  have e : u8s (d.crash keep).b = (u8s d.own.b).take (d.left keep) := by simp [Dk.crash, u8s, List.map_take]
  rw [e]
  exact h3
theorem cut_owns (d : Dk) (keep : Int) (x : OAd) : ∀ b, ((d.crash keep).row x).own b → (d.own.row x).own b := row_cut_own
theorem crash_cs (d : Dk) (keep : Int) (x : OAd) : (d.crash keep).cs x = [.slice x.1 (d.left keep) x.2, .int .i64 (d.left keep : Nat), .int .i64 d.own.r] := by unfold Dk.cs; rw [d.crash_len]; rfl
theorem row_cap_dk {d : Dk} {x : OAd} {W : World} (h : (d.row x).says W) : d.b.length ≤ x.2 := row_cap h
end Go.Proofs.YtcohgnagffibcaaDoor
namespace Go.Proofs.YtcohgnagffibcaaDoor
set_option linter.unusedVariables false
open Go.RowKit
attribute [local irreducible] Res.blk Res.row Fact.rd
theorem getps {zs : Ps} {k : Nat} (h : k < zs.length) : (psv zs)[k]? = some (.slice zs[k].1.1 zs[k].2.length zs[k].1.2) := by simp [psv, h]
def pvals (zs : Ps) (k : Nat) : List Value := match (solid zs)[k]? with
  | some z => [.slice z.1.1 z.2.length z.1.2]
  | none => [.slice none 0 0]
theorem parts1_it (L : Option Addr) (cL b0 : Nat) (zs : Ps) (hn : zs.length ≤ 1000000) : It Tryd.prog 75 [.pointer (some ⟨b0, 0, none⟩)] [.blk b0 86 [.slice L zs.length cL]] [.rd L (psv zs)] (solid zs).length (pvals zs) := by
  refine It.of _ Tryd.func75 Tryd.ntmps75 rfl rfl (by rfl) (by simp only [List.mem_singleton]; rintro φ rfl; exact Fact.rd_old _ _) (fun W l cl clx hy => ?_)
  refine Jc.seq ?_
  refine Jc.region ?_
  refine Jl.pv (PR.load1 rfl tsh86 (by repeat (first | exact Has.here | apply Has.there)) (by rfl)) ?_
  refine Jl.pv (PR.len rfl tsl86) ?_
  refine Jl.pv (PR.move rfl) ?_
  refine Jl.nil ?_
  refine Jq.thenN ?_
  refine Jc.block ?_
  refine Jc.loop (σ := { k : Nat // k ≤ zs.length }) (fun s => [(7, .int .i64 (s.1 : Int)), (6, .int .i64 (zs.length : Int)), (5, .slice L zs.length cL), (0, .func (.yield l) #[] #[])]) (fun _ => [.blk b0 86 [.slice L zs.length cL]]) (fun s => [cl (solid (zs.take s.1)).length, .rd L (psv zs)]) (fun s => zs.length - s.1) ⟨0, Nat.zero_le _⟩ (by exact ⟨rfl, rfl, rfl, rfl, trivial⟩) rfl (by exact ⟨(by repeat (first | exact Mem.here | apply Mem.there)), (by repeat (first | exact Mem.here | apply Mem.there)), trivial⟩) ?_
  rintro ⟨k, hk⟩
  show Jc _ _ _ _ _ _ [(7, Value.int .i64 (k : Int)), (6, .int .i64 (zs.length : Int)), (5, .slice L zs.length cL), (0, .func (.yield l) #[] #[])] [.blk b0 86 [.slice L zs.length cL]] [cl (solid (zs.take k)).length, .rd L (psv zs)]
  refine Jc.seq ?_
  refine Jc.region ?_
  refine Jl.pv (PR.lss _ rfl rfl rfl) ?_
  refine Jl.nil ?_
  refine Jq.thenN ?_
  refine Jc.seq ?_
  refine Jc.cond rfl (fun hlt => ?_) (fun hlt => ?_)
  · try replace hlt := of_decide_eq_true hlt
    have hlt' : k < zs.length := by omega
    have hsc := solid_succ hlt'
    refine Jc.skip ?_
    refine Jq.thenN ?_
    refine Jc.seq ?_
    refine Jc.block ?_
    refine Jc.seq ?_
    refine Jc.region ?_
    refine Jl.pv (PR.idx1 k rfl rfl tsl86 (by repeat (first | exact Mem.here | apply Mem.there)) (by simp [psv]) rfl hlt') ?_
    refine Jl.pv (PR.loadR rfl tsh22 (by repeat (first | exact Mem.here | apply Mem.there)) (getps hlt')) ?_
    refine Jl.pv (PR.assign rfl) ?_
    refine Jl.nil ?_
    refine Jq.thenN ?_
    refine Jc.seq ?_
    refine Jc.region ?_
    refine Jl.pv (PR.move rfl) ?_
    refine Jl.pv (PR.len rfl tsl22) ?_
    refine Jl.pv (PR.gtr _ rfl rfl rfl) ?_
    refine Jl.pv (PR.move rfl) ?_
    refine Jl.bsplit (fun g14 => ?_) (fun g14 => ?_)
    · try replace g14 := of_decide_eq_true g14
      obtain ⟨hs1, hs2⟩ := solid_at hlt' (by omega)
      rw [if_pos (by omega)] at hsc
      refine Jl.on rfl rfl ?_
      refine Jl.pv (PR.move rfl) ?_
      refine Jl.on rfl rfl ?_
      refine Jl.pv (PR.move rfl) ?_
      refine Jl.on rfl rfl ?_
      refine hy _ _ _ _ _ _ _ _ _ _ _ _ _ _ ((solid (zs.take k)).length) hs1 rfl (by show some [_] = some (pvals _ _); simp only [pvals, hs2]) (by repeat (first | exact Mem.here | apply Mem.there)) rfl ?_ ?_
      · refine Jl.on rfl rfl ?_
        refine Jl.pv (PR.not rfl) ?_
        refine Jl.pv (PR.pickT rfl rfl) ?_
        refine Jl.nil ?_
        refine Jq.thenN ?_
        refine Jc.condF rfl ?_
        refine Jc.skip ?_
        refine Jq.blkN ?_
        refine Jq.thenN ?_
        refine Jc.region ?_
        refine Jl.pv (PR.add ((k + 1 : Nat) : Int) rfl rfl (by rw [w64 (by omega) (by omega)]; rfl)) ?_
        refine Jl.pv (PR.move rfl) ?_
        refine Jl.nil ?_
        refine Jq.again ⟨k + 1, hlt'⟩ (by simp only; omega) (by exact ⟨rfl, rfl, rfl, rfl, trivial⟩) rfl (by rw [hsc, List.length_append]; exact ⟨(by repeat (first | exact Mem.here | apply Mem.there)), (by repeat (first | exact Mem.here | apply Mem.there)), trivial⟩)
      · refine Jl.on rfl rfl ?_
        refine Jl.pv (PR.not rfl) ?_
        refine Jl.pv (PR.pickT rfl rfl) ?_
        refine Jl.nil ?_
        refine Jq.thenN ?_
        refine Jc.condT rfl ?_
        refine Jc.ret ?_
        refine Jq.blkR ?_
        refine Jq.thenR ?_
        refine Jq.thenR ?_
        refine Jq.blkR ?_
        exact Jq.itStop (.inl rfl) hs1 (by repeat (first | exact Mem.here | apply Mem.there))
    · try replace g14 := of_decide_eq_false g14
      refine Jl.offS rfl rfl rfl ?_
      refine Jl.offS rfl rfl rfl ?_
      refine Jl.offS rfl rfl rfl ?_
      refine Jl.offS rfl rfl rfl ?_
      refine Jl.pv (PR.pickF rfl rfl) ?_
      refine Jl.nil ?_
      refine Jq.thenN ?_
      refine Jc.condF rfl ?_
      refine Jc.skip ?_
      refine Jq.blkN ?_
      refine Jq.thenN ?_
      refine Jc.region ?_
      refine Jl.pv (PR.add ((k + 1 : Nat) : Int) rfl rfl (by rw [w64 (by omega) (by omega)]; rfl)) ?_
      refine Jl.pv (PR.move rfl) ?_
      refine Jl.nil ?_
      refine Jq.again ⟨k + 1, hlt'⟩ (by simp only; omega) (by exact ⟨rfl, rfl, rfl, rfl, trivial⟩) rfl (by rw [hsc, if_neg (by omega), List.append_nil]; exact ⟨(by repeat (first | exact Mem.here | apply Mem.there)), (by repeat (first | exact Mem.here | apply Mem.there)), trivial⟩)
  · try replace hlt := of_decide_eq_false hlt
    refine Jc.exit ?_
    refine Jq.thenX ?_
    refine Jq.thenX ?_
    refine Jq.blkX ?_
    rw [show zs.take k = zs from List.take_of_length_le (by omega)]; exact Jq.itDone (.inr rfl) (by repeat (first | exact Mem.here | apply Mem.there))
theorem parts_ct (L : Option Addr) (n cL : Nat) : Ct Tryd.prog 64 [.slice L n cL] [] [] (fun b : Nat => .func (.func 75) #[] #[.pointer (some ⟨b, 0, none⟩)]) (fun b => [.blk b 86 [.slice L n cL]]) (fun _ => []) := by
  refine Ct.of _ Tryd.func64 Tryd.ntmps64 rfl rfl (fun X W => ?_)
  refine Jc.seq ?_
  refine Jc.region ?_
  refine Jl.box rfl (by rfl) ?_
  intro b1
  refine Jl.pv (PR.assign rfl) ?_
  refine Jl.nil ?_
  refine Jq.thenN ?_
  refine Jc.seq ?_
  refine Jc.region ?_
  refine Jl.pv (PR.makeFunc rfl rfl) ?_
  refine Jl.pv (PR.assign rfl) ?_
  refine Jl.nil ?_
  refine Jq.thenN ?_
  refine Jc.ret ?_
  exact Jq.fin b1 (.inl rfl) rfl (RetVs.tmp rfl RetVs.nil) rfl (by repeat (first | exact Take.nil | apply Take.cons (by repeat (first | exact Del.here | apply Del.there)))) (by repeat (first | exact trivial | refine And.intro (by repeat (first | exact Mem.here | apply Mem.there)) ?_))
/-- The bytes of the first k parts that are some. -/
def pre (zs : Ps) (k : Nat) : List UInt8 := flat ((solid zs).take k)
theorem pre_all (zs : Ps) : pre zs (solid zs).length = flat zs := by rw [pre, List.take_length, solid_flat]
theorem pre_len (zs : Ps) (k : Nat) : (pre zs k).length ≤ (flat zs).length := by rw [← solid_flat]; exact flat_le _ _
theorem pre_succ {zs : Ps} {k : Nat} {z : OAd × List UInt8} (h : (solid zs)[k]? = some z) : pre zs (k + 1) = pre zs k ++ z.2 := by
  obtain ⟨hk, rfl⟩ := List.getElem?_eq_some_iff.1 h
  exact flat_take hk
def errK (zs : Ps) (r : Int) (k : Nat) : Int := if ((pre zs k).length : Int) ≤ r then 0 else 30
theorem put_fit (A L : Option Addr) (c cL : Nat) (d : Dk) (safe : Int) (zs : Ps) (hr : 0 ≤ d.r) (hn : zs.length ≤ 1000) (hf : (flat zs).length ≤ 1000000) (hfit : ((flat zs).length : Int) ≤ d.r) :
    Ct Tryd.prog 49 [d.v (A, c), .int .i64 safe, .slice L zs.length cL] [] [.rd L (psv zs), .ps zs] (fun x : OAd => .tuple #[.agg #[.slice x.1 (flat zs).length x.2, .int .i64 safe, .int .i64 d.r], .int .i64 0]) (fun x => [.row 5 1 (.slice x.1 (flat zs).length x.2) (flat zs).length (u8s (flat zs))]) (fun _ => []) := by
  have hsl := solid_len zs
  refine Ct.of _ Tryd.func49 Tryd.ntmps49 rfl rfl (fun X W => ?_)
  refine Jc.seq ?_
  refine Jc.region ?_
  refine Jl.box rfl (by rfl) ?_
  intro b3
  refine Jl.alloc tze24 ?_
  intro b6
  refine Jl.alloc tze30 ?_
  intro b7
  refine Jl.nil ?_
  refine Jq.thenN ?_
  refine Jc.scopeN (σ := { _u : Unit // ¬ ((flat zs).length : Int) ≤ d.r } × Nat × OAd) (fun s => (31, [s.2.1])) (fun _ => [(3, .pointer (some ⟨b3, 0, none⟩)), (6, .pointer (some ⟨b6, 0, none⟩)), (7, .pointer (some ⟨b7, 0, none⟩))]) (fun s => [.mark s.2.1, .row 5 1 (.slice s.2.2.1 (flat zs).length s.2.2.2) (flat zs).length (u8s (flat zs)), .blk b7 30 [.int .i64 30], .blk b6 24 [.slice s.2.2.1 (flat zs).length s.2.2.2, .int .i64 safe, .int .i64 d.r], .blk b3 24 [.slice A d.b.length c, .int .i64 d.s, .int .i64 d.r]]) (fun _ => []) (fun _ => 0) (l := 0) rfl ?_ ?_
  · rintro ⟨⟨_, hno⟩, D0, A', c'⟩
    exact absurd hfit hno
  · intro hfirst0
    refine Jc.seq ?_
    refine Jc.region ?_
    refine Jl.pv (PR.move rfl) ?_
    refine Jl.pv (PR.fieldAddr rfl tfl24_2) ?_
    refine Jl.pv (PR.load1 rfl tsh3 (by repeat (first | exact Has.here | apply Has.there)) (by rfl)) ?_
    refine Jl.pv (PR.build (by rfl) tze24 tpl24_1_2 (by rfl)) ?_
    refine Jl.storeW rfl tsh24 rfl (by rfl) (by simp [Value.oneCell']) (by repeat (first | exact Swap.here | apply Swap.there)) (by rfl) ?_
    refine Jl.nil ?_
    refine Jq.thenN ?_
    refine Jc.seq ?_
    refine Jc.seq ?_
    refine Jc.region ?_
    refine Jl.pv (PR.move rfl) ?_
    refine Jl.call (parts_ct L zs.length cL) en64 (by rfl) (by repeat (first | exact Take.nil | apply Take.cons (by repeat (first | exact Del.here | apply Del.there)))) (by repeat (first | exact trivial | refine And.intro (by repeat (first | exact Mem.here | apply Mem.there)) ?_)) ?_
    rintro b14
    refine Jl.nil ?_
    refine Jq.thenN ?_
    refine Jc.block ?_
    refine Jc.nilRow 5 1 ?_
    refine Jc.range (σ := (k : Nat) × OAd) (τ := Empty) (Inv := fun k s => s.1 = k) (Rs := fun s => [.row 5 1 (.slice s.2.1 (pre zs s.1).length s.2.2) (pre zs s.1).length (u8s (pre zs s.1)), .blk b7 30 [.int .i64 (errK zs d.r s.1)], .blk b6 24 [.slice s.2.1 (pre zs s.1).length s.2.2, .int .i64 safe, .int .i64 d.r], .blk b3 24 [.slice A d.b.length c, .int .i64 d.s, .int .i64 d.r]]) (Φs := fun _ => [.ps zs]) (InvX := fun _ _ _ => False) (RsX := fun _ => []) (ΦsX := fun _ => []) (vals := pvals zs) rfl en75 (parts1_it L cL b14 zs (by omega)) (by repeat (first | exact Take.nil | apply Take.cons (by repeat (first | exact Del.here | apply Del.there)))) (by repeat (first | exact trivial | refine And.intro (by repeat (first | exact Mem.here | apply Mem.there)) ?_)) (fun k => by unfold pvals; split <;> rfl) rfl ⟨0, none, 0⟩ rfl (by simp [pre, flat, errK, hr, u8s]) (by exact ⟨(by repeat (first | exact Mem.here | apply Mem.there)), trivial⟩) ?_ ?_ ?_
    · rintro k ⟨j, A', c'⟩ hk hj l C1
      obtain rfl : k = j := hj.symm
      obtain ⟨z, hz⟩ : ∃ z, (solid zs)[k]? = some z := ⟨_, List.getElem?_eq_getElem hk⟩
      have hzm : z ∈ zs := (solid_mem (List.mem_of_getElem? hz)).1
      have hps := pre_succ hz
      have hpl := pre_len zs (k + 1)
      have hpll : (pre zs (k + 1)).length = (pre zs k).length + z.2.length := by rw [hps, List.length_append]
      rw [show pvals zs k = [.slice z.1.1 z.2.length z.1.2] by simp [pvals, hz]]
      show Jc _ _ _ _ _ _ (psetL [15] [.slice z.1.1 z.2.length z.1.2] _) [.row 5 1 (.slice A' (pre zs k).length c') (pre zs k).length (u8s (pre zs k)), .blk b7 30 [.int .i64 (errK zs d.r k)], .blk b6 24 [.slice A' (pre zs k).length c', .int .i64 safe, .int .i64 d.r], .blk b3 24 [.slice A d.b.length c, .int .i64 d.s, .int .i64 d.r]] [.ps zs]
      refine Jc.fact (.rd z.1.1 (u8s z.2)) (φ := .ps zs) (by repeat (first | exact Mem.here | apply Mem.there)) (fun X W h => h z hzm) ?_
      refine Jc.region ?_
      refine Jl.pv (PR.assign rfl) ?_
      refine Jl.nil ?_
      refine Jq.assigned (fun C2 => ?_)
      refine Jc.block ?_
      refine Jc.seq ?_
      refine Jc.region ?_
      refine Jl.pv (PR.fieldAddr rfl tfl24_0) ?_
      refine Jl.pv (PR.load1 rfl tsh22 (by repeat (first | exact Has.here | apply Has.there)) (by rfl)) ?_
      refine Jl.pv (PR.move rfl) ?_
      refine Jl.append (pre zs (k + 1)).length (u8s (pre zs (k + 1))) rfl rfl rfl tsl22 tze5 (by rfl) (by decide) tby5 (fun _ _ => (by repeat (first | exact Swap.here | apply Swap.there))) (by repeat (first | exact Mem.here | apply Mem.there)) (by omega) (by rw [hps]; simp [u8s]) (by simp [u8s]) (u8s_one _) (by omega) (by decide) ?_
      intro A19 c19
      refine Jl.pv (PR.fieldAddr rfl tfl24_0) ?_
      refine Jl.store1 rfl tsh22 rfl (by rfl) (by repeat (first | exact Swap.here | apply Swap.there)) (by rfl) ?_
      refine Jl.nil ?_
      refine Jq.thenN ?_
      refine Jc.seq ?_
      refine Jc.region ?_
      refine Jl.pv (PR.fieldAddr rfl tfl24_0) ?_
      refine Jl.pv (PR.load1 rfl tsh22 (by repeat (first | exact Has.here | apply Has.there)) (by rfl)) ?_
      refine Jl.pv (PR.len rfl tsl22) ?_
      refine Jl.pv (PR.fieldAddr rfl tfl24_2) ?_
      refine Jl.pv (PR.load1 rfl tsh3 (by repeat (first | exact Has.here | apply Has.there)) (by rfl)) ?_
      refine Jl.pv (PR.gtr _ rfl rfl rfl) ?_
      refine Jl.nil ?_
      refine Jq.thenN ?_
      refine Jc.cond rfl (fun hgt => ?_) (fun hgt => ?_)
      · try replace hgt := of_decide_eq_true hgt
        have he1 : errK zs d.r (k + 1) = 30 := if_neg (by omega)
        refine Jc.region ?_
        refine Jl.store1 rfl tsh30 rfl (by rfl) (by repeat (first | exact Swap.here | apply Swap.there)) (by rfl) ?_
        refine Jl.nil ?_
        refine Jq.blkN ?_
        exact Jq.next ⟨k + 1, A19, c19⟩ rfl (by simp only [he1]) (by exact ⟨(by repeat (first | exact Mem.here | apply Mem.there)), trivial⟩)
      · try replace hgt := of_decide_eq_false hgt
        have he1 : errK zs d.r (k + 1) = errK zs d.r k := by rw [errK, errK, if_pos (by omega), if_pos (by omega)]
        refine Jc.skip ?_
        refine Jq.blkN ?_
        exact Jq.next ⟨k + 1, A19, c19⟩ rfl (by simp only [he1]) (by exact ⟨(by repeat (first | exact Mem.here | apply Mem.there)), trivial⟩)
    · rintro ⟨j, A', c'⟩ D0 hj
      obtain rfl : j = (solid zs).length := hj
      have hek : errK zs d.r (solid zs).length = 0 := by rw [errK, pre_all, if_pos hfit]
      show Jq _ _ _ .normal _ [.mark D0, .row 5 1 (.slice A' (pre zs (solid zs).length).length c') (pre zs (solid zs).length).length (u8s (pre zs (solid zs).length)), .blk b7 30 [.int .i64 (errK zs d.r (solid zs).length)], .blk b6 24 [.slice A' (pre zs (solid zs).length).length c', .int .i64 safe, .int .i64 d.r], .blk b3 24 [.slice A d.b.length c, .int .i64 d.s, .int .i64 d.r]] [.ps zs]
      rw [pre_all, hek]
      refine Jq.blkN ?_
      refine Jq.thenN ?_
      refine Jc.seq ?_
      refine Jc.seq ?_
      refine Jc.region ?_
      refine Jl.pv (PR.load1 rfl tsh30 (by repeat (first | exact Has.here | apply Has.there)) (by rfl)) ?_
      refine Jl.pv (PR.neq false rfl rfl rfl) ?_
      refine Jl.nil ?_
      refine Jq.thenN ?_
      refine Jc.condF rfl ?_
      refine Jc.skip ?_
      refine Jq.thenN ?_
      refine Jc.seq ?_
      refine Jc.seq ?_
      refine Jc.region ?_
      refine Jl.pv (PR.loadW rfl tsh24 (by repeat (first | exact Has.here | apply Has.there)) (by rfl)) ?_
      refine Jl.storeW rfl tsh24 rfl (by rfl) (by simp [Value.oneCell']) (by repeat (first | exact Swap.here | apply Swap.there)) (by rfl) ?_
      refine Jl.store1 rfl tsh30 rfl (by rfl) (by repeat (first | exact Swap.here | apply Swap.there)) (by rfl) ?_
      refine Jl.nil ?_
      refine Jq.thenN ?_
      refine Jc.ret ?_
      refine Jq.thenR ?_
      refine Jq.jmpR ?_
      exact Jq.finM (Ds := [D0]) (A', c') (.inl rfl) rfl (by repeat (first | exact Take.nil | apply Take.cons (by repeat (first | exact Del.here | apply Del.there)))) (RetVs.cellA rfl (by repeat (first | exact Has.here | apply Has.there)) tsh24 (by rfl) (RetVs.cell1 rfl (by repeat (first | exact Has.here | apply Has.there)) tsh30 (by rfl) RetVs.nil)) rfl (by repeat (first | exact Take.nil | apply Take.cons (by repeat (first | exact Del.here | apply Del.there)))) (by repeat (first | exact trivial | refine And.intro (by repeat (first | exact Mem.here | apply Mem.there)) ?_))
    · exact fun _ _ t => t.elim
theorem put_full (A L : Option Addr) (c cL : Nat) (d : Dk) (safe : Int) (zs : Ps) (hr : 0 ≤ d.r) (hn : zs.length ≤ 1000) (hf : (flat zs).length ≤ 1000000) (hfit : ¬ ((flat zs).length : Int) ≤ d.r) :
    Ct Tryd.prog 49 [d.v (A, c), .int .i64 safe, .slice L zs.length cL] [] [.rd L (psv zs), .ps zs] (fun _ : Unit => .tuple #[d.v (A, c), .int .i64 30]) (fun _ => []) (fun _ => []) := by
  have hsl := solid_len zs
  refine Ct.of _ Tryd.func49 Tryd.ntmps49 rfl rfl (fun X W => ?_)
  refine Jc.seq ?_
  refine Jc.region ?_
  refine Jl.box rfl (by rfl) ?_
  intro b3
  refine Jl.alloc tze24 ?_
  intro b6
  refine Jl.alloc tze30 ?_
  intro b7
  refine Jl.nil ?_
  refine Jq.thenN ?_
  refine Jc.scopeN (σ := { _u : Unit // ¬ ((flat zs).length : Int) ≤ d.r } × Nat × OAd) (fun s => (31, [s.2.1])) (fun _ => [(3, .pointer (some ⟨b3, 0, none⟩)), (6, .pointer (some ⟨b6, 0, none⟩)), (7, .pointer (some ⟨b7, 0, none⟩))]) (fun s => [.mark s.2.1, .row 5 1 (.slice s.2.2.1 (flat zs).length s.2.2.2) (flat zs).length (u8s (flat zs)), .blk b7 30 [.int .i64 30], .blk b6 24 [.slice s.2.2.1 (flat zs).length s.2.2.2, .int .i64 safe, .int .i64 d.r], .blk b3 24 [.slice A d.b.length c, .int .i64 d.s, .int .i64 d.r]]) (fun _ => []) (fun _ => 0) (l := 0) rfl ?_ ?_
  · rintro ⟨⟨_, hno⟩, D0, A', c'⟩
    refine Jc.seq ?_
    refine Jc.region ?_
    refine Jl.pv (PR.loadW rfl tsh24 (by repeat (first | exact Has.here | apply Has.there)) (by rfl)) ?_
    refine Jl.storeW rfl tsh24 rfl (by rfl) (by simp [Value.oneCell']) (by repeat (first | exact Swap.here | apply Swap.there)) (by rfl) ?_
    refine Jl.store1 rfl tsh30 rfl (by rfl) (by repeat (first | exact Swap.here | apply Swap.there)) (by rfl) ?_
    refine Jl.nil ?_
    refine Jq.thenN ?_
    refine Jc.ret ?_
    refine Jq.jmpR ?_
    exact Jq.finM (Ds := [D0]) () (.inl rfl) rfl (by repeat (first | exact Take.nil | apply Take.cons (by repeat (first | exact Del.here | apply Del.there)))) (RetVs.cellA rfl (by repeat (first | exact Has.here | apply Has.there)) tsh24 (by rfl) (RetVs.cell1 rfl (by repeat (first | exact Has.here | apply Has.there)) tsh30 (by rfl) RetVs.nil)) rfl (by repeat (first | exact Take.nil | apply Take.cons (by repeat (first | exact Del.here | apply Del.there)))) (by repeat (first | exact trivial | refine And.intro (by repeat (first | exact Mem.here | apply Mem.there)) ?_))
  · intro hfirst0
    refine Jc.seq ?_
    refine Jc.region ?_
    refine Jl.pv (PR.move rfl) ?_
    refine Jl.pv (PR.fieldAddr rfl tfl24_2) ?_
    refine Jl.pv (PR.load1 rfl tsh3 (by repeat (first | exact Has.here | apply Has.there)) (by rfl)) ?_
    refine Jl.pv (PR.build (by rfl) tze24 tpl24_1_2 (by rfl)) ?_
    refine Jl.storeW rfl tsh24 rfl (by rfl) (by simp [Value.oneCell']) (by repeat (first | exact Swap.here | apply Swap.there)) (by rfl) ?_
    refine Jl.nil ?_
    refine Jq.thenN ?_
    refine Jc.seq ?_
    refine Jc.seq ?_
    refine Jc.region ?_
    refine Jl.pv (PR.move rfl) ?_
    refine Jl.call (parts_ct L zs.length cL) en64 (by rfl) (by repeat (first | exact Take.nil | apply Take.cons (by repeat (first | exact Del.here | apply Del.there)))) (by repeat (first | exact trivial | refine And.intro (by repeat (first | exact Mem.here | apply Mem.there)) ?_)) ?_
    rintro b14
    refine Jl.nil ?_
    refine Jq.thenN ?_
    refine Jc.block ?_
    refine Jc.nilRow 5 1 ?_
    refine Jc.range (σ := (k : Nat) × OAd) (τ := Empty) (Inv := fun k s => s.1 = k) (Rs := fun s => [.row 5 1 (.slice s.2.1 (pre zs s.1).length s.2.2) (pre zs s.1).length (u8s (pre zs s.1)), .blk b7 30 [.int .i64 (errK zs d.r s.1)], .blk b6 24 [.slice s.2.1 (pre zs s.1).length s.2.2, .int .i64 safe, .int .i64 d.r], .blk b3 24 [.slice A d.b.length c, .int .i64 d.s, .int .i64 d.r]]) (Φs := fun _ => [.ps zs]) (InvX := fun _ _ _ => False) (RsX := fun _ => []) (ΦsX := fun _ => []) (vals := pvals zs) rfl en75 (parts1_it L cL b14 zs (by omega)) (by repeat (first | exact Take.nil | apply Take.cons (by repeat (first | exact Del.here | apply Del.there)))) (by repeat (first | exact trivial | refine And.intro (by repeat (first | exact Mem.here | apply Mem.there)) ?_)) (fun k => by unfold pvals; split <;> rfl) rfl ⟨0, none, 0⟩ rfl (by simp [pre, flat, errK, hr, u8s]) (by exact ⟨(by repeat (first | exact Mem.here | apply Mem.there)), trivial⟩) ?_ ?_ ?_
    · rintro k ⟨j, A', c'⟩ hk hj l C1
      obtain rfl : k = j := hj.symm
      obtain ⟨z, hz⟩ : ∃ z, (solid zs)[k]? = some z := ⟨_, List.getElem?_eq_getElem hk⟩
      have hzm : z ∈ zs := (solid_mem (List.mem_of_getElem? hz)).1
      have hps := pre_succ hz
      have hpl := pre_len zs (k + 1)
      have hpll : (pre zs (k + 1)).length = (pre zs k).length + z.2.length := by rw [hps, List.length_append]
      rw [show pvals zs k = [.slice z.1.1 z.2.length z.1.2] by simp [pvals, hz]]
      show Jc _ _ _ _ _ _ (psetL [15] [.slice z.1.1 z.2.length z.1.2] _) [.row 5 1 (.slice A' (pre zs k).length c') (pre zs k).length (u8s (pre zs k)), .blk b7 30 [.int .i64 (errK zs d.r k)], .blk b6 24 [.slice A' (pre zs k).length c', .int .i64 safe, .int .i64 d.r], .blk b3 24 [.slice A d.b.length c, .int .i64 d.s, .int .i64 d.r]] [.ps zs]
      refine Jc.fact (.rd z.1.1 (u8s z.2)) (φ := .ps zs) (by repeat (first | exact Mem.here | apply Mem.there)) (fun X W h => h z hzm) ?_
      refine Jc.region ?_
      refine Jl.pv (PR.assign rfl) ?_
      refine Jl.nil ?_
      refine Jq.assigned (fun C2 => ?_)
      refine Jc.block ?_
      refine Jc.seq ?_
      refine Jc.region ?_
      refine Jl.pv (PR.fieldAddr rfl tfl24_0) ?_
      refine Jl.pv (PR.load1 rfl tsh22 (by repeat (first | exact Has.here | apply Has.there)) (by rfl)) ?_
      refine Jl.pv (PR.move rfl) ?_
      refine Jl.append (pre zs (k + 1)).length (u8s (pre zs (k + 1))) rfl rfl rfl tsl22 tze5 (by rfl) (by decide) tby5 (fun _ _ => (by repeat (first | exact Swap.here | apply Swap.there))) (by repeat (first | exact Mem.here | apply Mem.there)) (by omega) (by rw [hps]; simp [u8s]) (by simp [u8s]) (u8s_one _) (by omega) (by decide) ?_
      intro A19 c19
      refine Jl.pv (PR.fieldAddr rfl tfl24_0) ?_
      refine Jl.store1 rfl tsh22 rfl (by rfl) (by repeat (first | exact Swap.here | apply Swap.there)) (by rfl) ?_
      refine Jl.nil ?_
      refine Jq.thenN ?_
      refine Jc.seq ?_
      refine Jc.region ?_
      refine Jl.pv (PR.fieldAddr rfl tfl24_0) ?_
      refine Jl.pv (PR.load1 rfl tsh22 (by repeat (first | exact Has.here | apply Has.there)) (by rfl)) ?_
      refine Jl.pv (PR.len rfl tsl22) ?_
      refine Jl.pv (PR.fieldAddr rfl tfl24_2) ?_
      refine Jl.pv (PR.load1 rfl tsh3 (by repeat (first | exact Has.here | apply Has.there)) (by rfl)) ?_
      refine Jl.pv (PR.gtr _ rfl rfl rfl) ?_
      refine Jl.nil ?_
      refine Jq.thenN ?_
      refine Jc.cond rfl (fun hgt => ?_) (fun hgt => ?_)
      · try replace hgt := of_decide_eq_true hgt
        have he1 : errK zs d.r (k + 1) = 30 := if_neg (by omega)
        refine Jc.region ?_
        refine Jl.store1 rfl tsh30 rfl (by rfl) (by repeat (first | exact Swap.here | apply Swap.there)) (by rfl) ?_
        refine Jl.nil ?_
        refine Jq.blkN ?_
        exact Jq.next ⟨k + 1, A19, c19⟩ rfl (by simp only [he1]) (by exact ⟨(by repeat (first | exact Mem.here | apply Mem.there)), trivial⟩)
      · try replace hgt := of_decide_eq_false hgt
        have he1 : errK zs d.r (k + 1) = errK zs d.r k := by rw [errK, errK, if_pos (by omega), if_pos (by omega)]
        refine Jc.skip ?_
        refine Jq.blkN ?_
        exact Jq.next ⟨k + 1, A19, c19⟩ rfl (by simp only [he1]) (by exact ⟨(by repeat (first | exact Mem.here | apply Mem.there)), trivial⟩)
    · rintro ⟨j, A', c'⟩ D0 hj
      obtain rfl : j = (solid zs).length := hj
      have hek : errK zs d.r (solid zs).length = 30 := by rw [errK, pre_all, if_neg hfit]
      show Jq _ _ _ .normal _ [.mark D0, .row 5 1 (.slice A' (pre zs (solid zs).length).length c') (pre zs (solid zs).length).length (u8s (pre zs (solid zs).length)), .blk b7 30 [.int .i64 (errK zs d.r (solid zs).length)], .blk b6 24 [.slice A' (pre zs (solid zs).length).length c', .int .i64 safe, .int .i64 d.r], .blk b3 24 [.slice A d.b.length c, .int .i64 d.s, .int .i64 d.r]] [.ps zs]
      rw [pre_all, hek]
      refine Jq.blkN ?_
      refine Jq.thenN ?_
      refine Jc.seq ?_
      refine Jc.seq ?_
      refine Jc.region ?_
      refine Jl.pv (PR.load1 rfl tsh30 (by repeat (first | exact Has.here | apply Has.there)) (by rfl)) ?_
      refine Jl.pv (PR.neq true rfl rfl rfl) ?_
      refine Jl.nil ?_
      refine Jq.thenN ?_
      refine Jc.condT rfl ?_
      refine Jc.goto ?_
      refine Jq.thenG ?_
      exact Jq.jmpAN (⟨(), hfit⟩, D0, (A', c')) rfl (by exact ⟨rfl, rfl, rfl, trivial⟩) rfl trivial
    · exact fun _ _ t => t.elim
end Go.Proofs.YtcohgnagffibcaaDoor
namespace Go.Proofs.YtcohgnagffibcaaDoor
set_option linter.unusedVariables false
open Go.RowKit
attribute [local irreducible] Res.blk Res.row Fact.rd
theorem Ct.pre_of {P : Program} {f : FuncId} {args : List Value} {Rin : List Res} {pre pre' : List Fact} {α : Type} {res : α → Value} {Rout : α → List Res} {post : α → List Fact} (h : Ct P f args Rin pre res Rout post) (k : ∀ X W, (∀ φ ∈ pre', φ.p X W) → ∀ φ ∈ pre, φ.p X W) : Ct P f args Rin pre' res Rout post :=
  fun X W hX hs hp => h X W hX hs (k _ W hp)
theorem ps_of {zs : Ps} {L : Option Addr} : ∀ X W, (∀ φ ∈ (Fact.rd L (psv zs) :: zs.map fun z => Fact.rd z.1.1 (u8s z.2)), φ.p X W) → ∀ φ ∈ [Fact.rd L (psv zs), .ps zs], φ.p X W := fun X W h φ hφ => by
  rcases List.mem_cons.1 hφ with rfl | hφ
  · exact h _ (List.mem_cons_self ..)
  · obtain rfl : φ = _ := by simpa using hφ
    intro z hz
    exact h _ (List.mem_cons_of_mem _ (List.mem_map.2 ⟨z, hz, rfl⟩))
theorem flat2 (x y : OAd) (a b : List UInt8) : flat [(x, a), (y, b)] = a ++ b := by simp [flat]
theorem flat1 (x : OAd) (a : List UInt8) : flat [(x, a)] = a := by simp [flat]
theorem append_ct (A B : Option Addr) (c c' : Nat) (d : Dk) (b : List UInt8) (hn : d.b.length ≤ 500000) (hc : d.b.length ≤ c) (hb : b.length ≤ 100000) :
    Ct Tryd.prog 34 [d.v (A, c), .slice B b.length c'] [] [.rd A (u8s d.b), .rd B (u8s b)] (fun x => .tuple #[(d.app b).v x, .int .i64 (d.appE b)]) (fun x => [(d.app b).row x]) (fun _ => []) := by
  have hl : d.own.b.length ≤ d.b.length := by simp [Dk.own]; omega
  have hfo := d.own_fit
  by_cases hfit : d.fits b
  · have e1 : d.app b = ⟨d.own.b ++ b, d.own.s, d.own.r⟩ := if_pos hfit
    have e2 : d.appE b = 0 := if_pos hfit
    rw [e1, e2]
    refine Ct.of _ Tryd.func34 Tryd.ntmps34 rfl rfl (fun X W => ?_)
    refine Jc.seq ?_
    refine Jc.region ?_
    refine Jl.box rfl (by rfl) ?_
    intro b2
    refine Jl.alloc tze24 ?_
    intro b4
    refine Jl.pv (PR.assign rfl) ?_
    refine Jl.nil ?_
    refine Jq.thenN ?_
    refine Jc.seq ?_
    refine Jc.region ?_
    refine Jl.pv (PR.loadW rfl tsh24 (by repeat (first | exact Has.here | apply Has.there)) (by rfl)) ?_
    refine Jl.call (own_ct A c d hn hc) en33 (by rfl) (by repeat (first | exact Take.nil | apply Take.cons (by repeat (first | exact Del.here | apply Del.there)))) (by repeat (first | exact trivial | refine And.intro (by repeat (first | exact Mem.here | apply Mem.there)) ?_)) ?_
    rintro ⟨A7, c7⟩
    refine Jl.storeW rfl tsh24 rfl (by rfl) (by simp [Value.oneCell']) (by repeat (first | exact Swap.here | apply Swap.there)) (by rfl) ?_
    refine Jl.nil ?_
    refine Jq.thenN ?_
    refine Jc.seq ?_
    refine Jc.region ?_
    refine Jl.pv (PR.loadW rfl tsh24 (by repeat (first | exact Has.here | apply Has.there)) (by rfl)) ?_
    refine Jl.pv (PR.fieldAddr rfl tfl24_1) ?_
    refine Jl.pv (PR.load1 rfl tsh3 (by repeat (first | exact Has.here | apply Has.there)) (by rfl)) ?_
    refine Jl.pv (PR.fieldAddr rfl tfl24_0) ?_
    refine Jl.pv (PR.load1 rfl tsh22 (by repeat (first | exact Has.here | apply Has.there)) (by rfl)) ?_
    refine Jl.pv (PR.move rfl) ?_
    refine Jl.buildSlice (by rfl) tsl86 tzr86_2 (by rfl) (by rfl) ?_
    intro b14
    have hct := (put_fit A7 (some ⟨b14, 0, none⟩) c7 2 d.own d.own.s [((A7, c7), d.own.b), ((B, c'), b)] (by omega) (by simp) (by rw [flat2]; simp; omega) (by rw [flat2]; exact hfit)).pre_of ps_of
    rw [flat2] at hct
    refine Jl.calll (fs := []) (cs := []) hct en49 rfl (by rfl) (by rfl) (by repeat (first | exact Take.nil | apply Take.cons (by repeat (first | exact Del.here | apply Del.there)))) (ls := [.blk b14 22 [.slice A7 d.own.b.length c7, .slice B b.length c'], d.own.row (A7, c7)]) (by repeat (first | exact Take.nil | apply Take.cons (by repeat (first | exact Del.here | apply Del.there)))) (by repeat (first | exact Lends.nil | apply Lends.row | apply Lends.blk)) (by repeat (first | exact trivial | refine And.intro (by repeat (first | exact Mem.here | apply Mem.there)) ?_)) ?_
    rintro ⟨A15, c15⟩
    refine Jl.pv (PR.extract rfl (by rfl)) ?_
    refine Jl.pv (PR.extract rfl (by rfl)) ?_
    refine Jl.storeW rfl tsh24 rfl (by rfl) (by simp [Value.oneCell']) (by repeat (first | exact Swap.here | apply Swap.there)) (by rfl) ?_
    refine Jl.pv (PR.assign rfl) ?_
    refine Jl.nil ?_
    refine Jq.thenN ?_
    refine Jc.ret ?_
    exact Jq.fin (A15, c15) (.inl rfl) rfl (RetVs.cellA rfl (by repeat (first | exact Has.here | apply Has.there)) tsh24 (by rfl) (RetVs.tmp rfl RetVs.nil)) rfl (by repeat (first | exact Take.nil | apply Take.cons (by repeat (first | exact Del.here | apply Del.there)))) (by repeat (first | exact trivial | refine And.intro (by repeat (first | exact Mem.here | apply Mem.there)) ?_))
  · have e1 : d.app b = d.own := if_neg hfit
    have e2 : d.appE b = 30 := if_neg hfit
    rw [e1, e2]
    refine Ct.of _ Tryd.func34 Tryd.ntmps34 rfl rfl (fun X W => ?_)
    refine Jc.seq ?_
    refine Jc.region ?_
    refine Jl.box rfl (by rfl) ?_
    intro b2
    refine Jl.alloc tze24 ?_
    intro b4
    refine Jl.pv (PR.assign rfl) ?_
    refine Jl.nil ?_
    refine Jq.thenN ?_
    refine Jc.seq ?_
    refine Jc.region ?_
    refine Jl.pv (PR.loadW rfl tsh24 (by repeat (first | exact Has.here | apply Has.there)) (by rfl)) ?_
    refine Jl.call (own_ct A c d hn hc) en33 (by rfl) (by repeat (first | exact Take.nil | apply Take.cons (by repeat (first | exact Del.here | apply Del.there)))) (by repeat (first | exact trivial | refine And.intro (by repeat (first | exact Mem.here | apply Mem.there)) ?_)) ?_
    rintro ⟨A7, c7⟩
    refine Jl.storeW rfl tsh24 rfl (by rfl) (by simp [Value.oneCell']) (by repeat (first | exact Swap.here | apply Swap.there)) (by rfl) ?_
    refine Jl.nil ?_
    refine Jq.thenN ?_
    refine Jc.seq ?_
    refine Jc.region ?_
    refine Jl.pv (PR.loadW rfl tsh24 (by repeat (first | exact Has.here | apply Has.there)) (by rfl)) ?_
    refine Jl.pv (PR.fieldAddr rfl tfl24_1) ?_
    refine Jl.pv (PR.load1 rfl tsh3 (by repeat (first | exact Has.here | apply Has.there)) (by rfl)) ?_
    refine Jl.pv (PR.fieldAddr rfl tfl24_0) ?_
    refine Jl.pv (PR.load1 rfl tsh22 (by repeat (first | exact Has.here | apply Has.there)) (by rfl)) ?_
    refine Jl.pv (PR.move rfl) ?_
    refine Jl.buildSlice (by rfl) tsl86 tzr86_2 (by rfl) (by rfl) ?_
    intro b14
    have hct := (put_full A7 (some ⟨b14, 0, none⟩) c7 2 d.own d.own.s [((A7, c7), d.own.b), ((B, c'), b)] (by omega) (by simp) (by rw [flat2]; simp; omega) (by rw [flat2]; exact hfit)).pre_of ps_of
    refine Jl.calll (fs := []) (cs := []) hct en49 rfl (by rfl) (by rfl) (by repeat (first | exact Take.nil | apply Take.cons (by repeat (first | exact Del.here | apply Del.there)))) (ls := [.blk b14 22 [.slice A7 d.own.b.length c7, .slice B b.length c'], d.own.row (A7, c7)]) (by repeat (first | exact Take.nil | apply Take.cons (by repeat (first | exact Del.here | apply Del.there)))) (by repeat (first | exact Lends.nil | apply Lends.row | apply Lends.blk)) (by repeat (first | exact trivial | refine And.intro (by repeat (first | exact Mem.here | apply Mem.there)) ?_)) ?_
    rintro ⟨⟩
    refine Jl.pv (PR.extract rfl (by rfl)) ?_
    refine Jl.pv (PR.extract rfl (by rfl)) ?_
    refine Jl.storeW rfl tsh24 rfl (by rfl) (by simp [Value.oneCell']) (by repeat (first | exact Swap.here | apply Swap.there)) (by rfl) ?_
    refine Jl.pv (PR.assign rfl) ?_
    refine Jl.nil ?_
    refine Jq.thenN ?_
    refine Jc.ret ?_
    exact Jq.fin (A7, c7) (.inl rfl) rfl (RetVs.cellA rfl (by repeat (first | exact Has.here | apply Has.there)) tsh24 (by rfl) (RetVs.tmp rfl RetVs.nil)) rfl (by repeat (first | exact Take.nil | apply Take.cons (by repeat (first | exact Del.here | apply Del.there)))) (by repeat (first | exact trivial | refine And.intro (by repeat (first | exact Mem.here | apply Mem.there)) ?_))
end Go.Proofs.YtcohgnagffibcaaDoor
namespace Go.Proofs.YtcohgnagffibcaaDoor
set_option linter.unusedVariables false
open Go.RowKit
attribute [local irreducible] Res.blk Res.row Fact.rd
theorem rown_ct (A : Option Addr) (c : Nat) (d : Dk) (hn : d.b.length ≤ 500000) (hc : d.b.length ≤ c) :
    Ct Tryd.prog 28 [d.v (A, c)] [] [.rd A (u8s d.b)] d.own.v (fun x => [d.own.row x]) (fun _ => []) := by
  have hl : d.own.b.length ≤ d.b.length := by simp [Dk.own]; omega
  refine Ct.of _ Tryd.func28 Tryd.ntmps28 rfl rfl (fun X W => ?_)
  refine Jc.seq ?_
  refine Jc.region ?_
  refine Jl.box rfl (by rfl) ?_
  intro b1
  refine Jl.alloc tze24 ?_
  intro b2
  refine Jl.nil ?_
  refine Jq.thenN ?_
  refine Jc.seq ?_
  refine Jc.region ?_
  refine Jl.pv (PR.fieldAddr rfl tfl24_2) ?_
  refine Jl.pv (PR.load1 rfl tsh3 (by repeat (first | exact Has.here | apply Has.there)) (by rfl)) ?_
  refine Jl.pv (PR.max2 _ rfl rfl rfl) ?_
  refine Jl.pv (PR.min2 d.room rfl rfl rfl) ?_
  refine Jl.pv (PR.assign rfl) ?_
  refine Jl.nil ?_
  refine Jq.thenN ?_
  refine Jc.seq ?_
  refine Jc.region ?_
  refine Jl.buildSlice (by rfl) tsl22 tzr22_0 (by rfl) (by rfl) ?_
  intro b9
  refine Jl.pv (PR.fieldAddr rfl tfl24_0) ?_
  refine Jl.pv (PR.load1 rfl tsh22 (by repeat (first | exact Has.here | apply Has.there)) (by rfl)) ?_
  refine Jl.pv (PR.fieldAddr rfl tfl24_0) ?_
  refine Jl.pv (PR.load1 rfl tsh22 (by repeat (first | exact Has.here | apply Has.there)) (by rfl)) ?_
  refine Jl.pv (PR.len rfl tsl22) ?_
  refine Jl.pv (PR.move rfl) ?_
  refine Jl.pv (PR.min2 d.own.b.length rfl rfl (by simp [Dk.own, Dk.room]; omega)) ?_
  refine Jl.slice 0 d.own.b.length d.own.b.length (u8s d.own.b) rfl tsl22 rfl rfl (by repeat (first | exact Mem.here | apply Mem.there)) (by omega) hl hc rfl (by simp [Dk.own, u8s, List.map_take]) ?_
  intro A17 c17 hc17
  clear hc17
  refine Jl.toRow 1 0 (by repeat (first | exact Swap.here | apply Swap.there)) (by rfl) (by rfl) ?_
  refine Jl.append d.own.b.length (u8s d.own.b) rfl rfl rfl tsl22 tze5 (by rfl) (by decide) tby5 (fun _ _ => (by repeat (first | exact Swap.here | apply Swap.there))) (by repeat (first | exact Mem.here | apply Mem.there)) (by omega) rfl (by simp [u8s]) (u8s_one _) (by omega) (by decide) ?_
  intro A18 c18
  refine Jl.pv (PR.assign rfl) ?_
  refine Jl.nil ?_
  refine Jq.thenN ?_
  refine Jc.seq ?_
  refine Jc.region ?_
  refine Jl.pv (PR.move rfl) ?_
  refine Jl.pv (PR.fieldAddr rfl tfl24_1) ?_
  refine Jl.pv (PR.load1 rfl tsh3 (by repeat (first | exact Has.here | apply Has.there)) (by rfl)) ?_
  refine Jl.pv (PR.max2 _ rfl rfl rfl) ?_
  refine Jl.pv (PR.move rfl) ?_
  refine Jl.pv (PR.len rfl tsl22) ?_
  refine Jl.pv (PR.min2 d.own.s rfl rfl rfl) ?_
  refine Jl.pv (PR.move rfl) ?_
  refine Jl.pv (PR.build (by rfl) tze24 tpl24_0_1_2 (by rfl)) ?_
  refine Jl.storeW rfl tsh24 rfl (by rfl) (by simp [Value.oneCell']) (by repeat (first | exact Swap.here | apply Swap.there)) (by rfl) ?_
  refine Jl.nil ?_
  refine Jq.thenN ?_
  refine Jc.ret ?_
  exact Jq.fin (A18, c18) (.inl rfl) rfl (RetVs.cellA rfl (by repeat (first | exact Has.here | apply Has.there)) tsh24 (by rfl) RetVs.nil) rfl (by repeat (first | exact Take.nil | apply Take.cons (by repeat (first | exact Del.here | apply Del.there)))) (by repeat (first | exact trivial | refine And.intro (by repeat (first | exact Mem.here | apply Mem.there)) ?_))
theorem rnew_ct (room : Int) : Ct Tryd.prog 23 [.int .i64 room] [] [] (Dk.new room).v (fun x => [(Dk.new room).row x]) (fun _ => []) := by
  rw [← new_own]
  refine Ct.of _ Tryd.func23 Tryd.ntmps23 rfl rfl (fun X W => ?_)
  refine Jc.seq ?_
  refine Jc.region ?_
  refine Jl.alloc tze24 ?_
  intro b2
  refine Jl.nil ?_
  refine Jq.thenN ?_
  refine Jc.seq ?_
  refine Jc.region ?_
  refine Jl.pv (PR.move rfl) ?_
  refine Jl.pv (PR.build (by rfl) tze24 tpl24_2 (by rfl)) ?_
  refine Jl.fact0 (.rd none (u8s (⟨[], 0, room⟩ : Dk).b)) (fun X W => Fact.rd_nil none X W) ?_
  refine Jl.call (rown_ct none 0 ⟨[], 0, room⟩ (by simp) (by simp)) en28 (by rfl) (by repeat (first | exact Take.nil | apply Take.cons (by repeat (first | exact Del.here | apply Del.there)))) (by repeat (first | exact trivial | refine And.intro (by repeat (first | exact Mem.here | apply Mem.there)) ?_)) ?_
  rintro ⟨A5, c5⟩
  refine Jl.storeW rfl tsh24 rfl (by rfl) (by simp [Value.oneCell']) (by repeat (first | exact Swap.here | apply Swap.there)) (by rfl) ?_
  refine Jl.nil ?_
  refine Jq.thenN ?_
  refine Jc.ret ?_
  exact Jq.fin (A5, c5) (.inl rfl) rfl (RetVs.cellA rfl (by repeat (first | exact Has.here | apply Has.there)) tsh24 (by rfl) RetVs.nil) rfl (by repeat (first | exact Take.nil | apply Take.cons (by repeat (first | exact Del.here | apply Del.there)))) (by repeat (first | exact trivial | refine And.intro (by repeat (first | exact Mem.here | apply Mem.there)) ?_))
theorem rfree_ct (A : Option Addr) (c : Nat) (d : Dk) (hn : d.b.length ≤ 500000) (hc : d.b.length ≤ c) : Ct Tryd.prog 51 [d.v (A, c)] [] [.rd A (u8s d.b)] (fun _ : Unit => .int .i64 (d.own.r - d.own.b.length)) (fun _ => []) (fun _ => []) := by
  have hl : d.own.b.length ≤ d.b.length := by simp [Dk.own]; omega
  have hr : 0 ≤ d.own.r ∧ d.own.r ≤ 65536 := by have := d.own_fit; omega
  refine Ct.of _ Tryd.func51 Tryd.ntmps51 rfl rfl (fun X W => ?_)
  refine Jc.seq ?_
  refine Jc.region ?_
  refine Jl.box rfl (by rfl) ?_
  intro b1
  refine Jl.pv (PR.assign rfl) ?_
  refine Jl.nil ?_
  refine Jq.thenN ?_
  refine Jc.seq ?_
  refine Jc.region ?_
  refine Jl.pv (PR.loadW rfl tsh24 (by repeat (first | exact Has.here | apply Has.there)) (by rfl)) ?_
  refine Jl.call (rown_ct A c d hn hc) en28 (by rfl) (by repeat (first | exact Take.nil | apply Take.cons (by repeat (first | exact Del.here | apply Del.there)))) (by repeat (first | exact trivial | refine And.intro (by repeat (first | exact Mem.here | apply Mem.there)) ?_)) ?_
  rintro ⟨A4, c4⟩
  refine Jl.storeW rfl tsh24 rfl (by rfl) (by simp [Value.oneCell']) (by repeat (first | exact Swap.here | apply Swap.there)) (by rfl) ?_
  refine Jl.nil ?_
  refine Jq.thenN ?_
  refine Jc.seq ?_
  refine Jc.region ?_
  refine Jl.pv (PR.fieldAddr rfl tfl24_2) ?_
  refine Jl.pv (PR.load1 rfl tsh3 (by repeat (first | exact Has.here | apply Has.there)) (by rfl)) ?_
  refine Jl.pv (PR.fieldAddr rfl tfl24_0) ?_
  refine Jl.pv (PR.load1 rfl tsh22 (by repeat (first | exact Has.here | apply Has.there)) (by rfl)) ?_
  refine Jl.pv (PR.len rfl tsl22) ?_
  refine Jl.pv (PR.sub (d.own.r - d.own.b.length) rfl rfl (w64 (by omega) (by omega))) ?_
  refine Jl.pv (PR.assign rfl) ?_
  refine Jl.nil ?_
  refine Jq.thenN ?_
  refine Jc.ret ?_
  exact Jq.fin () (.inl rfl) rfl (RetVs.tmp rfl RetVs.nil) rfl (by repeat (first | exact Take.nil | apply Take.cons (by repeat (first | exact Del.here | apply Del.there)))) (by repeat (first | exact trivial | refine And.intro (by repeat (first | exact Mem.here | apply Mem.there)) ?_))
theorem rsync_ct (A : Option Addr) (c : Nat) (d : Dk) (hn : d.b.length ≤ 500000) (hc : d.b.length ≤ c) :
    Ct Tryd.prog 24 [d.v (A, c)] [] [.rd A (u8s d.b)] d.sync.v (fun x => [d.sync.row x]) (fun _ => []) := by
  refine Ct.of _ Tryd.func24 Tryd.ntmps24 rfl rfl (fun X W => ?_)
  refine Jc.seq ?_
  refine Jc.region ?_
  refine Jl.box rfl (by rfl) ?_
  intro b1
  refine Jl.alloc tze24 ?_
  intro b2
  refine Jl.nil ?_
  refine Jq.thenN ?_
  refine Jc.seq ?_
  refine Jc.region ?_
  refine Jl.pv (PR.loadW rfl tsh24 (by repeat (first | exact Has.here | apply Has.there)) (by rfl)) ?_
  refine Jl.call (rown_ct A c d hn hc) en28 (by rfl) (by repeat (first | exact Take.nil | apply Take.cons (by repeat (first | exact Del.here | apply Del.there)))) (by repeat (first | exact trivial | refine And.intro (by repeat (first | exact Mem.here | apply Mem.there)) ?_)) ?_
  rintro ⟨A4, c4⟩
  refine Jl.storeW rfl tsh24 rfl (by rfl) (by simp [Value.oneCell']) (by repeat (first | exact Swap.here | apply Swap.there)) (by rfl) ?_
  refine Jl.nil ?_
  refine Jq.thenN ?_
  refine Jc.seq ?_
  refine Jc.region ?_
  refine Jl.pv (PR.fieldAddr rfl tfl24_0) ?_
  refine Jl.pv (PR.load1 rfl tsh22 (by repeat (first | exact Has.here | apply Has.there)) (by rfl)) ?_
  refine Jl.pv (PR.len rfl tsl22) ?_
  refine Jl.pv (PR.fieldAddr rfl tfl24_1) ?_
  refine Jl.store1 rfl tsh3 rfl (by rfl) (by repeat (first | exact Swap.here | apply Swap.there)) (by rfl) ?_
  refine Jl.nil ?_
  refine Jq.thenN ?_
  refine Jc.seq ?_
  refine Jc.region ?_
  refine Jl.pv (PR.loadW rfl tsh24 (by repeat (first | exact Has.here | apply Has.there)) (by rfl)) ?_
  refine Jl.storeW rfl tsh24 rfl (by rfl) (by simp [Value.oneCell']) (by repeat (first | exact Swap.here | apply Swap.there)) (by rfl) ?_
  refine Jl.nil ?_
  refine Jq.thenN ?_
  refine Jc.ret ?_
  exact Jq.fin (A4, c4) (.inl rfl) rfl (RetVs.cellA rfl (by repeat (first | exact Has.here | apply Has.there)) tsh24 (by rfl) RetVs.nil) rfl (by repeat (first | exact Take.nil | apply Take.cons (by repeat (first | exact Del.here | apply Del.there)))) (by repeat (first | exact trivial | refine And.intro (by repeat (first | exact Mem.here | apply Mem.there)) ?_))
theorem rcrash_ct (A : Option Addr) (c : Nat) (d : Dk) (keep : Int) (hn : d.b.length ≤ 500000) (hc : d.b.length ≤ c) :
    Ct Tryd.prog 25 [d.v (A, c), .int .i64 keep] [] [.rd A (u8s d.b)] (d.crash keep).v (fun x => [(d.crash keep).row x]) (fun _ => []) := by
  have hl : d.own.b.length ≤ d.b.length := by simp [Dk.own]; omega
  have hle := d.left_le keep
  have heq := d.left_eq keep
  have hfit := d.own_fit
  refine Ct.of _ Tryd.func25 Tryd.ntmps25 rfl rfl (fun X W => ?_)
  refine Jc.seq ?_
  refine Jc.region ?_
  refine Jl.box rfl (by rfl) ?_
  intro b2
  refine Jl.alloc tze24 ?_
  intro b4
  refine Jl.nil ?_
  refine Jq.thenN ?_
  refine Jc.seq ?_
  refine Jc.region ?_
  refine Jl.pv (PR.loadW rfl tsh24 (by repeat (first | exact Has.here | apply Has.there)) (by rfl)) ?_
  refine Jl.call (rown_ct A c d hn hc) en28 (by rfl) (by repeat (first | exact Take.nil | apply Take.cons (by repeat (first | exact Del.here | apply Del.there)))) (by repeat (first | exact trivial | refine And.intro (by repeat (first | exact Mem.here | apply Mem.there)) ?_)) ?_
  rintro ⟨A7, c7⟩
  refine Jl.pureR (p := d.own.b.length ≤ c7) (fun W hs => row_cap_dk hs.1) fun hcap => ?_
  refine Jl.storeW rfl tsh24 rfl (by rfl) (by simp [Value.oneCell']) (by repeat (first | exact Swap.here | apply Swap.there)) (by rfl) ?_
  refine Jl.nil ?_
  refine Jq.thenN ?_
  refine Jc.seq ?_
  refine Jc.region ?_
  refine Jl.pv (PR.fieldAddr rfl tfl24_1) ?_
  refine Jl.pv (PR.load1 rfl tsh3 (by repeat (first | exact Has.here | apply Has.there)) (by rfl)) ?_
  refine Jl.pv (PR.move rfl) ?_
  refine Jl.pv (PR.max2 _ rfl rfl rfl) ?_
  refine Jl.pv (PR.fieldAddr rfl tfl24_0) ?_
  refine Jl.pv (PR.load1 rfl tsh22 (by repeat (first | exact Has.here | apply Has.there)) (by rfl)) ?_
  refine Jl.pv (PR.len rfl tsl22) ?_
  refine Jl.pv (PR.fieldAddr rfl tfl24_1) ?_
  refine Jl.pv (PR.load1 rfl tsh3 (by repeat (first | exact Has.here | apply Has.there)) (by rfl)) ?_
  refine Jl.pv (PR.sub ((d.own.b.length : Int) - d.own.s) rfl rfl (w64 (by omega) (by omega))) ?_
  refine Jl.pv (PR.min2 _ rfl rfl rfl) ?_
  refine Jl.pv (PR.add ((d.left keep : Nat) : Int) rfl rfl (by rw [heq, w64 (by omega) (by omega)])) ?_
  refine Jl.pv (PR.assign rfl) ?_
  refine Jl.nil ?_
  refine Jq.thenN ?_
  refine Jc.seq ?_
  refine Jc.region ?_
  refine Jl.pv (PR.fieldAddr rfl tfl24_0) ?_
  refine Jl.pv (PR.load1 rfl tsh22 (by repeat (first | exact Has.here | apply Has.there)) (by rfl)) ?_
  refine Jl.pv (PR.move rfl) ?_
  refine Jl.pv (PR.slice0 (d.left keep) rfl tsl22 rfl hle hcap) ?_
  refine Jl.rsay (q := d.own.row (A7, c7)) (q' := (d.crash keep).row (A7, c7)) (by repeat (first | exact Swap.here | apply Swap.there)) (cut_says d keep _) (cut_owns d keep _) ?_
  refine Jl.pv (PR.fieldAddr rfl tfl24_0) ?_
  refine Jl.store1 rfl tsh22 rfl (by rfl) (by repeat (first | exact Swap.here | apply Swap.there)) (by rfl) ?_
  refine Jl.nil ?_
  refine Jq.thenN ?_
  refine Jc.seq ?_
  refine Jc.region ?_
  refine Jl.pv (PR.move rfl) ?_
  refine Jl.pv (PR.fieldAddr rfl tfl24_1) ?_
  refine Jl.store1 rfl tsh3 rfl (by rfl) (by repeat (first | exact Swap.here | apply Swap.there)) (by rfl) ?_
  refine Jl.nil ?_
  refine Jq.thenN ?_
  refine Jc.seq ?_
  refine Jc.region ?_
  refine Jl.pv (PR.loadW rfl tsh24 (by repeat (first | exact Has.here | apply Has.there)) (by rfl)) ?_
  refine Jl.storeW rfl tsh24 rfl (by rfl) (by simp [Value.oneCell']) (by repeat (first | exact Swap.here | apply Swap.there)) (by rfl) ?_
  refine Jl.nil ?_
  refine Jq.thenN ?_
  refine Jc.ret ?_
  exact Jq.fin (A7, c7) (.inl rfl) rfl (RetVs.cellA rfl (by repeat (first | exact Has.here | apply Has.there)) tsh24 (by rfl) RetVs.nil) (by rw [Dk.v, d.crash_len]; rfl) (by repeat (first | exact Take.nil | apply Take.cons (by repeat (first | exact Del.here | apply Del.there)))) (by repeat (first | exact trivial | refine And.intro (by repeat (first | exact Mem.here | apply Mem.there)) ?_))
theorem rappend_ct (A B : Option Addr) (c c' : Nat) (d : Dk) (b : List UInt8) (hn : d.b.length ≤ 500000) (hc : d.b.length ≤ c) (hb : b.length ≤ 100000) :
    Ct Tryd.prog 36 [d.v (A, c), .slice B b.length c'] [] [.rd A (u8s d.b), .rd B (u8s b)] (fun x => .tuple #[(d.app b).v x, .int .i64 (d.appE b)]) (fun x => [(d.app b).row x]) (fun _ => []) := by
  have hl : d.own.b.length ≤ d.b.length := by simp [Dk.own]; omega
  have hfo := d.own_fit
  have hof : ∀ A7 c7, d.own.b.length ≤ c7 → Ct Tryd.prog 51 [d.own.v (A7, c7)] [] [.rd A7 (u8s d.own.b)] (fun _ : Unit => .int .i64 (d.own.r - d.own.b.length)) (fun _ => []) (fun _ => []) := fun A7 c7 h => by
    have := rfree_ct A7 c7 d.own (by omega) h
    rw [d.own_own] at this
    exact this
  by_cases hfit : d.fits b
  · have e1 : d.app b = ⟨d.own.b ++ b, d.own.s, d.own.r⟩ := if_pos hfit
    have e2 : d.appE b = 0 := if_pos hfit
    have hf' : ((d.own.b.length + b.length : Nat) : Int) ≤ d.own.r := by unfold Dk.fits at hfit; simpa using hfit
    rw [e1, e2]
    refine Ct.of _ Tryd.func36 Tryd.ntmps36 rfl rfl (fun X W => ?_)
    refine Jc.seq ?_
    refine Jc.region ?_
    refine Jl.box rfl (by rfl) ?_
    intro b2
    refine Jl.alloc tze24 ?_
    intro b4
    refine Jl.pv (PR.assign rfl) ?_
    refine Jl.nil ?_
    refine Jq.thenN ?_
    refine Jc.seq ?_
    refine Jc.region ?_
    refine Jl.pv (PR.loadW rfl tsh24 (by repeat (first | exact Has.here | apply Has.there)) (by rfl)) ?_
    refine Jl.call (rown_ct A c d hn hc) en28 (by rfl) (by repeat (first | exact Take.nil | apply Take.cons (by repeat (first | exact Del.here | apply Del.there)))) (by repeat (first | exact trivial | refine And.intro (by repeat (first | exact Mem.here | apply Mem.there)) ?_)) ?_
    rintro ⟨A7, c7⟩
    refine Jl.pureR (p := d.own.b.length ≤ c7) (fun W hs => row_cap_dk hs.1) fun hcap => ?_
    refine Jl.storeW rfl tsh24 rfl (by rfl) (by simp [Value.oneCell']) (by repeat (first | exact Swap.here | apply Swap.there)) (by rfl) ?_
    refine Jl.nil ?_
    refine Jq.thenN ?_
    refine Jc.seq ?_
    refine Jc.seq ?_
    refine Jc.region ?_
    refine Jl.pv (PR.move rfl) ?_
    refine Jl.pv (PR.len rfl tsl22) ?_
    refine Jl.pv (PR.loadW rfl tsh24 (by repeat (first | exact Has.here | apply Has.there)) (by rfl)) ?_
    refine Jl.calll (fs := []) (cs := []) (hof A7 c7 hcap) en51 rfl (by rfl) (by rfl) (by repeat (first | exact Take.nil | apply Take.cons (by repeat (first | exact Del.here | apply Del.there)))) (ls := [d.own.row (A7, c7)]) (by repeat (first | exact Take.nil | apply Take.cons (by repeat (first | exact Del.here | apply Del.there)))) (by repeat (first | exact Lends.nil | apply Lends.row | apply Lends.blk)) (by repeat (first | exact trivial | refine And.intro (by repeat (first | exact Mem.here | apply Mem.there)) ?_)) ?_
    rintro ⟨⟩
    refine Jl.pv (PR.gtr false rfl rfl (by simp; omega)) ?_
    refine Jl.nil ?_
    refine Jq.thenN ?_
    refine Jc.condF rfl ?_
    refine Jc.skip ?_
    refine Jq.thenN ?_
    refine Jc.seq ?_
    refine Jc.region ?_
    refine Jl.pv (PR.fieldAddr rfl tfl24_0) ?_
    refine Jl.pv (PR.load1 rfl tsh22 (by repeat (first | exact Has.here | apply Has.there)) (by rfl)) ?_
    refine Jl.pv (PR.move rfl) ?_
    refine Jl.append (d.own.b ++ b).length (u8s (d.own.b ++ b)) rfl rfl rfl tsl22 tze5 (by rfl) (by decide) tby5 (fun _ _ => (by repeat (first | exact Swap.here | apply Swap.there))) (by repeat (first | exact Mem.here | apply Mem.there)) (by simp) (by simp [u8s]) (by simp [u8s]) (u8s_one _) (by omega) (by decide) ?_
    intro A17 c17
    refine Jl.pv (PR.fieldAddr rfl tfl24_0) ?_
    refine Jl.store1 rfl tsh22 rfl (by rfl) (by repeat (first | exact Swap.here | apply Swap.there)) (by rfl) ?_
    refine Jl.nil ?_
    refine Jq.thenN ?_
    refine Jc.seq ?_
    refine Jc.region ?_
    refine Jl.pv (PR.loadW rfl tsh24 (by repeat (first | exact Has.here | apply Has.there)) (by rfl)) ?_
    refine Jl.storeW rfl tsh24 rfl (by rfl) (by simp [Value.oneCell']) (by repeat (first | exact Swap.here | apply Swap.there)) (by rfl) ?_
    refine Jl.pv (PR.assign rfl) ?_
    refine Jl.nil ?_
    refine Jq.thenN ?_
    refine Jc.ret ?_
    exact Jq.fin (A17, c17) (.inl rfl) rfl (RetVs.cellA rfl (by repeat (first | exact Has.here | apply Has.there)) tsh24 (by rfl) (RetVs.tmp rfl RetVs.nil)) rfl (by repeat (first | exact Take.nil | apply Take.cons (by repeat (first | exact Del.here | apply Del.there)))) (by repeat (first | exact trivial | refine And.intro (by repeat (first | exact Mem.here | apply Mem.there)) ?_))
  · have e1 : d.app b = d.own := if_neg hfit
    have e2 : d.appE b = 30 := if_neg hfit
    have hf' : ¬ ((d.own.b.length + b.length : Nat) : Int) ≤ d.own.r := by unfold Dk.fits at hfit; simpa using hfit
    rw [e1, e2]
    refine Ct.of _ Tryd.func36 Tryd.ntmps36 rfl rfl (fun X W => ?_)
    refine Jc.seq ?_
    refine Jc.region ?_
    refine Jl.box rfl (by rfl) ?_
    intro b2
    refine Jl.alloc tze24 ?_
    intro b4
    refine Jl.pv (PR.assign rfl) ?_
    refine Jl.nil ?_
    refine Jq.thenN ?_
    refine Jc.seq ?_
    refine Jc.region ?_
    refine Jl.pv (PR.loadW rfl tsh24 (by repeat (first | exact Has.here | apply Has.there)) (by rfl)) ?_
    refine Jl.call (rown_ct A c d hn hc) en28 (by rfl) (by repeat (first | exact Take.nil | apply Take.cons (by repeat (first | exact Del.here | apply Del.there)))) (by repeat (first | exact trivial | refine And.intro (by repeat (first | exact Mem.here | apply Mem.there)) ?_)) ?_
    rintro ⟨A7, c7⟩
    refine Jl.pureR (p := d.own.b.length ≤ c7) (fun W hs => row_cap_dk hs.1) fun hcap => ?_
    refine Jl.storeW rfl tsh24 rfl (by rfl) (by simp [Value.oneCell']) (by repeat (first | exact Swap.here | apply Swap.there)) (by rfl) ?_
    refine Jl.nil ?_
    refine Jq.thenN ?_
    refine Jc.seq ?_
    refine Jc.seq ?_
    refine Jc.region ?_
    refine Jl.pv (PR.move rfl) ?_
    refine Jl.pv (PR.len rfl tsl22) ?_
    refine Jl.pv (PR.loadW rfl tsh24 (by repeat (first | exact Has.here | apply Has.there)) (by rfl)) ?_
    refine Jl.calll (fs := []) (cs := []) (hof A7 c7 hcap) en51 rfl (by rfl) (by rfl) (by repeat (first | exact Take.nil | apply Take.cons (by repeat (first | exact Del.here | apply Del.there)))) (ls := [d.own.row (A7, c7)]) (by repeat (first | exact Take.nil | apply Take.cons (by repeat (first | exact Del.here | apply Del.there)))) (by repeat (first | exact Lends.nil | apply Lends.row | apply Lends.blk)) (by repeat (first | exact trivial | refine And.intro (by repeat (first | exact Mem.here | apply Mem.there)) ?_)) ?_
    rintro ⟨⟩
    refine Jl.pv (PR.gtr true rfl rfl (by simp; omega)) ?_
    refine Jl.nil ?_
    refine Jq.thenN ?_
    refine Jc.condT rfl ?_
    refine Jc.seq ?_
    refine Jc.region ?_
    refine Jl.pv (PR.loadW rfl tsh24 (by repeat (first | exact Has.here | apply Has.there)) (by rfl)) ?_
    refine Jl.storeW rfl tsh24 rfl (by rfl) (by simp [Value.oneCell']) (by repeat (first | exact Swap.here | apply Swap.there)) (by rfl) ?_
    refine Jl.pv (PR.assign rfl) ?_
    refine Jl.nil ?_
    refine Jq.thenN ?_
    refine Jc.ret ?_
    refine Jq.thenR ?_
    exact Jq.fin (A7, c7) (.inl rfl) rfl (RetVs.cellA rfl (by repeat (first | exact Has.here | apply Has.there)) tsh24 (by rfl) (RetVs.tmp rfl RetVs.nil)) rfl (by repeat (first | exact Take.nil | apply Take.cons (by repeat (first | exact Del.here | apply Del.there)))) (by repeat (first | exact trivial | refine And.intro (by repeat (first | exact Mem.here | apply Mem.there)) ?_))
theorem rsame_ct (A B : Option Addr) (c c' : Nat) (d d' : Dk) (hn : d.b.length ≤ 500000) (hn' : d'.b.length ≤ 500000) (hc : d.b.length ≤ c) (hc' : d'.b.length ≤ c') :
    Ct Tryd.prog 17 [d.v (A, c), d'.v (B, c')] [] [.rd A (u8s d.b), .rd B (u8s d'.b)] (fun _ : Unit => .bool (decide (d.own.b = d'.own.b ∧ d.own.s = d'.own.s ∧ d.own.r = d'.own.r))) (fun _ => []) (fun _ => []) := by
  refine Ct.of _ Tryd.func17 Tryd.ntmps17 rfl rfl (fun X W => ?_)
  refine Jc.seq ?_
  refine Jc.region ?_
  refine Jl.box rfl (by rfl) ?_
  intro b2
  refine Jl.box rfl (by rfl) ?_
  intro b3
  refine Jl.pv (PR.assign rfl) ?_
  refine Jl.nil ?_
  refine Jq.thenN ?_
  refine Jc.seq ?_
  refine Jc.drawn [0, 1, 0, 7, 15, 31] ([], []) [⟨[(0, false), (2, false)], [], 1⟩, ⟨[], [], 3⟩, ⟨[], [], 4⟩, ⟨[], [], 5⟩] tmx (by kernel_rfl) ?_
  refine Dh.JH.cons ?_
  refine Dh.JB.rd [.blk _ _ _] rfl trivial (by repeat (first | exact Take.nil | apply Take.cons (by repeat (first | exact Del.here | apply Del.there)))) (fun _ => PR.loadW rfl tsh24 Has.here (by rfl)) ?_
  refine Dh.JB.rd [.blk _ _ _] rfl trivial (by repeat (first | exact Take.nil | apply Take.cons (by repeat (first | exact Del.here | apply Del.there)))) (fun _ => PR.loadW rfl tsh24 Has.here (by rfl)) ?_
  refine Dh.JB.nil ?_
  refine Dh.JL.nil ?_
  refine Dh.JE.mk rfl (fun _ h => by cases h) (fun C1_1 => ?_)
  refine Jl.call (rown_ct A c d hn hc) en28 (by rfl) (by repeat (first | exact Take.nil | apply Take.cons (by repeat (first | exact Del.here | apply Del.there)))) (by repeat (first | exact trivial | refine And.intro (by repeat (first | exact Mem.here | apply Mem.there)) ?_)) ?_
  rintro ⟨A6, c6⟩
  refine Jl.nil ?_
  refine Dh.Jq.segV (by repeat (first | exact Dh.FExt.refl | apply Dh.FExt.cons | apply Dh.FExt.app)) ?_ (by repeat (first | exact Dh.KeepL.nil | apply Dh.KeepL.anc (by rfl) | apply Dh.KeepL.keep (by repeat (first | exact Take.nil | apply Take.cons (by repeat (first | exact Del.here | apply Del.there))))))
  refine Dh.JH.cons ?_
  refine Dh.JB.nil ?_
  refine Dh.JL.nil ?_
  refine Dh.JE.mk rfl (fun _ h => by cases h) (fun C1_3 => ?_)
  refine Jl.call (rown_ct B c' d' hn' hc') en28 (by rfl) (by repeat (first | exact Take.nil | apply Take.cons (by repeat (first | exact Del.here | apply Del.there)))) (by repeat (first | exact trivial | refine And.intro (by repeat (first | exact Mem.here | apply Mem.there)) ?_)) ?_
  rintro ⟨A8, c8⟩
  refine Jl.nil ?_
  refine Dh.Jq.segV (by repeat (first | exact Dh.FExt.refl | apply Dh.FExt.cons | apply Dh.FExt.app)) ?_ (by repeat (first | exact Dh.KeepL.nil | apply Dh.KeepL.anc (by rfl) | apply Dh.KeepL.keep (by repeat (first | exact Take.nil | apply Take.cons (by repeat (first | exact Del.here | apply Del.there))))))
  refine Dh.JH.cons ?_
  refine Dh.JB.nil ?_
  refine Dh.JL.nil ?_
  refine Dh.JE.mk rfl (fun _ h => by cases h) (fun C1_4 => ?_)
  refine Jl.storeW rfl tsh24 rfl (by rfl) (by simp [Value.oneCell']) (by repeat (first | exact Swap.here | apply Swap.there)) (by rfl) ?_
  refine Jl.nil ?_
  refine Dh.Jq.segN (by repeat (first | exact Dh.FExt.refl | apply Dh.FExt.cons | apply Dh.FExt.app)) ?_ (by repeat (first | exact Dh.KeepL.nil | apply Dh.KeepL.anc (by rfl) | apply Dh.KeepL.keep (by repeat (first | exact Take.nil | apply Take.cons (by repeat (first | exact Del.here | apply Del.there))))))
  refine Dh.JH.cons ?_
  refine Dh.JB.nil ?_
  refine Dh.JL.nil ?_
  refine Dh.JE.mk rfl (fun _ h => by cases h) (fun C1_5 => ?_)
  refine Jl.storeW rfl tsh24 rfl (by rfl) (by simp [Value.oneCell']) (by repeat (first | exact Swap.here | apply Swap.there)) (by rfl) ?_
  refine Jl.nil ?_
  refine Dh.Jq.segN (by repeat (first | exact Dh.FExt.refl | apply Dh.FExt.cons | apply Dh.FExt.app)) ?_ (by repeat (first | exact Dh.KeepL.nil | apply Dh.KeepL.anc (by rfl) | apply Dh.KeepL.keep (by repeat (first | exact Take.nil | apply Take.cons (by repeat (first | exact Del.here | apply Del.there))))))
  refine Dh.JH.nil ?_
  refine Dh.JB.nil ?_
  refine Dh.JL.nil ?_
  refine Jq.thenN ?_
  refine Jc.seq ?_
  refine Jc.region ?_
  refine Jl.sealR (by repeat (first | exact Del.here | apply Del.there)) ?_
  refine Jl.sealR (by repeat (first | exact Del.here | apply Del.there)) ?_
  refine Jl.pv (PR.fieldAddr rfl tfl24_0) ?_
  refine Jl.pv (PR.load1 rfl tsh22 (by repeat (first | exact Has.here | apply Has.there)) (by rfl)) ?_
  refine Jl.pv (PR.str rfl Tryd.underlying22 Tryd.underlying5 Tryd.underlying9 (by repeat (first | exact Mem.here | apply Mem.there)) rfl) ?_
  refine Jl.pv (PR.fieldAddr rfl tfl24_0) ?_
  refine Jl.pv (PR.load1 rfl tsh22 (by repeat (first | exact Has.here | apply Has.there)) (by rfl)) ?_
  refine Jl.pv (PR.str rfl Tryd.underlying22 Tryd.underlying5 Tryd.underlying9 (by repeat (first | exact Mem.here | apply Mem.there)) rfl) ?_
  refine Jl.pv (PR.seql _ rfl rfl rfl) ?_
  refine Jl.pv (PR.move rfl) ?_
  refine Jl.bsplit (fun g16 => ?_) (fun g16 => ?_)
  · try replace g16 := of_decide_eq_true g16
    replace g16 : d.own.b = d'.own.b := by simpa using g16
    refine Jl.on rfl rfl ?_
    refine Jl.pv (PR.fieldAddr rfl tfl24_1) ?_
    refine Jl.on rfl rfl ?_
    refine Jl.pv (PR.load1 rfl tsh3 (by repeat (first | exact Has.here | apply Has.there)) (by rfl)) ?_
    refine Jl.on rfl rfl ?_
    refine Jl.pv (PR.fieldAddr rfl tfl24_1) ?_
    refine Jl.on rfl rfl ?_
    refine Jl.pv (PR.load1 rfl tsh3 (by repeat (first | exact Has.here | apply Has.there)) (by rfl)) ?_
    refine Jl.on rfl rfl ?_
    refine Jl.pv (PR.eql _ rfl rfl rfl) ?_
    refine Jl.pv (PR.pickT rfl rfl) ?_
    refine Jl.pv (PR.move rfl) ?_
    refine Jl.bsplit (fun g23 => ?_) (fun g23 => ?_)
    · try replace g23 := of_decide_eq_true g23
      refine Jl.on rfl rfl ?_
      refine Jl.pv (PR.fieldAddr rfl tfl24_2) ?_
      refine Jl.on rfl rfl ?_
      refine Jl.pv (PR.load1 rfl tsh3 (by repeat (first | exact Has.here | apply Has.there)) (by rfl)) ?_
      refine Jl.on rfl rfl ?_
      refine Jl.pv (PR.fieldAddr rfl tfl24_2) ?_
      refine Jl.on rfl rfl ?_
      refine Jl.pv (PR.load1 rfl tsh3 (by repeat (first | exact Has.here | apply Has.there)) (by rfl)) ?_
      refine Jl.on rfl rfl ?_
      refine Jl.pv (PR.eql _ rfl rfl rfl) ?_
      refine Jl.pv (PR.pickT rfl rfl) ?_
      refine Jl.pv (PR.assign rfl) ?_
      refine Jl.nil ?_
      refine Jq.thenN ?_
      refine Jc.ret ?_
      exact Jq.fin () (.inl rfl) rfl (RetVs.tmp rfl RetVs.nil) (by simp [retval, g23, g16]) (by repeat (first | exact Take.nil | apply Take.cons (by repeat (first | exact Del.here | apply Del.there)))) (by repeat (first | exact trivial | refine And.intro (by repeat (first | exact Mem.here | apply Mem.there)) ?_))
    · try replace g23 := of_decide_eq_false g23
      refine Jl.offS rfl rfl rfl ?_
      refine Jl.offS rfl rfl rfl ?_
      refine Jl.offS rfl rfl rfl ?_
      refine Jl.offS rfl rfl rfl ?_
      refine Jl.offS rfl rfl rfl ?_
      refine Jl.pv (PR.pickF rfl rfl) ?_
      refine Jl.pv (PR.assign rfl) ?_
      refine Jl.nil ?_
      refine Jq.thenN ?_
      refine Jc.ret ?_
      exact Jq.fin () (.inl rfl) rfl (RetVs.tmp rfl RetVs.nil) (by simp [retval, g23]) (by repeat (first | exact Take.nil | apply Take.cons (by repeat (first | exact Del.here | apply Del.there)))) (by repeat (first | exact trivial | refine And.intro (by repeat (first | exact Mem.here | apply Mem.there)) ?_))
  · try replace g16 := of_decide_eq_false g16
    refine Jl.offS rfl rfl rfl ?_
    refine Jl.offS rfl rfl rfl ?_
    refine Jl.offS rfl rfl rfl ?_
    refine Jl.offS rfl rfl rfl ?_
    refine Jl.offS rfl rfl rfl ?_
    refine Jl.pv (PR.pickF rfl rfl) ?_
    refine Jl.pv (PR.move rfl) ?_
    refine Jl.offS rfl rfl rfl ?_
    refine Jl.offS rfl rfl rfl ?_
    refine Jl.offS rfl rfl rfl ?_
    refine Jl.offS rfl rfl rfl ?_
    refine Jl.offS rfl rfl rfl ?_
    refine Jl.pv (PR.pickF rfl rfl) ?_
    refine Jl.pv (PR.assign rfl) ?_
    refine Jl.nil ?_
    refine Jq.thenN ?_
    refine Jc.ret ?_
    have h16 : ¬ d.own.b = d'.own.b := by simpa using g16
    exact Jq.fin () (.inl rfl) rfl (RetVs.tmp rfl RetVs.nil) (by simp [retval, h16]) (by repeat (first | exact Take.nil | apply Take.cons (by repeat (first | exact Del.here | apply Del.there)))) (by repeat (first | exact trivial | refine And.intro (by repeat (first | exact Mem.here | apply Mem.there)) ?_))
end Go.Proofs.YtcohgnagffibcaaDoor
