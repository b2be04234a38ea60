/-
Contracts of herd/disk: within, Own, New, Free, what changes a disk.
-/
import Derived.Test.YthlmleemapeohaaTy
import Derived.Test.YthlmleemapeohaaJy
import Derived.Test.YthlmleemapeohaaJw
import Derived.Test.YthlmleemapeohaaDkP
namespace Go.Proofs.Ythlmleemapeohaa
set_option linter.unusedVariables false
open Go.RowKit
theorem row_cut {e : TypeId} {c m k : Nat} {A : Option Addr} {xs : List Value} {W : World} (hk : k ≤ m) (h : (Res.row e 1 (.slice A m c) m xs).says W) : (Res.row e 1 (.slice A k c) k (xs.take k)).says W := by
  obtain ⟨h1, h2⟩ := h
  refine ⟨by simp at h1 ⊢; omega, ?_⟩
  rcases h2 with ⟨h3, h4⟩ | ⟨g, cap, cur, h3, hb, h5, h6, h7, h8, h9⟩
  · subst h4
    simp only [Value.slice.injEq] at h3
    obtain ⟨rfl, _, rfl⟩ := h3
    exact .inl ⟨by simp; omega, by omega⟩
  · simp only [Value.slice.injEq, true_and] at h3
    obtain ⟨rfl, rfl⟩ := h3
    refine .inr ⟨g, c, cur, rfl, hb, h5, by omega, h7, h8, ?_⟩
    rw [← h9, List.take_take, Nat.mul_one, Nat.mul_one, Nat.min_eq_left hk]
theorem row_cut_own {e : TypeId} {c m k : Nat} {A : Option Addr} {xs ys : List Value} : ∀ b, (Res.row e 1 (.slice A k c) k ys).own b → (Res.row e 1 (.slice A m c) m xs).own b := fun b h => by
  cases A with
  | none => exact h
  | some a => exact h
attribute [local irreducible] Res.blk Res.row Fact.rd
section
variable {P : Program} {r : Option Nat} {C : Cx} {n : Nat × List Nat} {ops : Array Oper} {Q : Exit → Act → World → Prop} {rest : List Oper} {env : List (Nat × Value)} {R R' : List Res} {Φ : List Fact} {d : Nat} {T T' : TypeId} {x : Operand}
/-- The beginning of a slice. -/
theorem PR.slice0 {A : Option Addr} {len cap s : Nat} {e : TypeId} {hi : Operand} (h : Nat) (hx : opv env x = some (.slice A len cap)) (hT : tslice P T' = some (e, s)) (hhi : opv env hi = some (.int .i64 (h : Int))) (h2 : h ≤ len) (h3 : len ≤ cap) :
    PR P C n env R Φ (.slice T' x none (some hi) none) T (.slice A h cap) := fun a W he _ d pos af g => by
  have := Dh.slice_run (P := P) (n := n) (l := 0) (h := h) (a := a) (W := W) (o := ⟨d, .slice T' x none (some hi) none, T, pos, af, g⟩) rfl he hx hT rfl hhi (Nat.zero_le _) h2 h3
  rw [this]
  cases A with
  | none => simp
  | some a => simp [Addr.add]
end
theorem sclone_ct (A : Option Addr) (c : Nat) (l : List UInt8) (hn : l.length ≤ 10000000) :
    Ct Try.prog 28 [.slice A l.length c] [] [.rd A (u8s l)] (fun x : OAd => .slice x.1 l.length x.2) (fun x => [.row 5 1 (.slice x.1 l.length x.2) l.length (u8s l)]) (fun _ => []) := by
  cases A with
  | none =>
    refine Ct.of _ Try.func28 Try.ntmps28 rfl rfl (fun X W => ?_)
    refine Jc.pure (p := l = []) Mem.here (fun X W h => ?_) ?_
    · cases l with
      | nil => rfl
      | cons x l => exact absurd (Fact.rd_none h) (by simp [u8s])
    rintro rfl
    refine Jc.seq ?_
    refine Jc.region ?_
    refine Jl.pv (PR.assign rfl) ?_
    refine Jl.nil ?_
    refine Jq.thenN ?_
    refine Jc.seq ?_
    refine Jc.seq ?_
    refine Jc.region ?_
    refine Jl.pv (PR.move rfl) ?_
    refine Jl.pv (PR.eqlNil true rfl tsl22 rfl) ?_
    refine Jl.nil ?_
    refine Jq.thenN ?_
    refine Jc.condT rfl ?_
    refine Jc.seq ?_
    refine Jc.region ?_
    refine Jl.pv (PR.assign rfl) ?_
    refine Jl.nil ?_
    refine Jq.thenN ?_
    refine Jc.ret ?_
    refine Jq.thenR ?_
    refine Jq.nilRow 5 1 ?_
    exact Jq.fin (none, 0) (.inl rfl) rfl (RetVs.tmp rfl RetVs.nil) rfl (by repeat (first | exact Take.nil | apply Take.cons (by repeat (first | exact Del.here | apply Del.there)))) (by repeat (first | exact trivial | refine And.intro (by repeat (first | exact Mem.here | apply Mem.there)) ?_))
  | some a =>
    refine Ct.of _ Try.func28 Try.ntmps28 rfl rfl (fun X W => ?_)
    refine Jc.seq ?_
    refine Jc.region ?_
    refine Jl.pv (PR.assign rfl) ?_
    refine Jl.nil ?_
    refine Jq.thenN ?_
    refine Jc.seq ?_
    refine Jc.seq ?_
    refine Jc.region ?_
    refine Jl.pv (PR.move rfl) ?_
    refine Jl.pv (PR.eqlNil false rfl tsl22 rfl) ?_
    refine Jl.nil ?_
    refine Jq.thenN ?_
    refine Jc.condF rfl ?_
    refine Jc.skip ?_
    refine Jq.thenN ?_
    refine Jc.seq ?_
    refine Jc.region ?_
    refine Jl.buildSlice (by rfl) tsl22 tzr22_0 (by rfl) (by rfl) ?_
    intro b5
    refine Jl.pv (PR.move rfl) ?_
    refine Jl.toRow 1 0 (by repeat (first | exact Swap.here | apply Swap.there)) (by rfl) (by rfl) ?_
    refine Jl.append l.length (u8s l) rfl rfl rfl tsl22 tze5 (by rfl) (by decide) tby5 (fun _ _ => (by repeat (first | exact Swap.here | apply Swap.there))) (by repeat (first | exact Mem.here | apply Mem.there)) (by omega) rfl (by simp [u8s]) (u8s_one _) (by omega) (by decide) ?_
    intro A7 c7
    refine Jl.pv (PR.assign rfl) ?_
    refine Jl.nil ?_
    refine Jq.thenN ?_
    refine Jc.ret ?_
    exact Jq.fin (A7, c7) (.inl rfl) rfl (RetVs.tmp rfl RetVs.nil) rfl (by repeat (first | exact Take.nil | apply Take.cons (by repeat (first | exact Del.here | apply Del.there)))) (by repeat (first | exact trivial | refine And.intro (by repeat (first | exact Mem.here | apply Mem.there)) ?_))
theorem equal_ct (A B : Option Addr) (c c' : Nat) (l m : List UInt8) : Ct Try.prog 30 [.slice A l.length c, .slice B m.length c'] [] [.rd A (u8s l), .rd B (u8s m)] (fun _ : Unit => .bool (decide (l = m))) (fun _ => []) (fun _ => []) := by
  refine Ct.of _ Try.func30 Try.ntmps30 rfl rfl (fun X W => ?_)
  refine Jc.seq ?_
  refine Jc.region ?_
  refine Jl.pv (PR.assign rfl) ?_
  refine Jl.nil ?_
  refine Jq.thenN ?_
  refine Jc.seq ?_
  refine Jc.region ?_
  refine Jl.pv (PR.move rfl) ?_
  refine Jl.pv (PR.str rfl Try.underlying22 Try.underlying5 Try.underlying9 (by repeat (first | exact Mem.here | apply Mem.there)) rfl) ?_
  refine Jl.pv (PR.move rfl) ?_
  refine Jl.pv (PR.str rfl Try.underlying22 Try.underlying5 Try.underlying9 (by repeat (first | exact Mem.here | apply Mem.there)) rfl) ?_
  refine Jl.pv (PR.seql _ rfl rfl rfl) ?_
  refine Jl.pv (PR.assign rfl) ?_
  refine Jl.nil ?_
  refine Jq.thenN ?_
  refine Jc.ret ?_
  exact Jq.fin () (.inl rfl) rfl (RetVs.tmp rfl RetVs.nil) rfl (by repeat (first | exact Take.nil | apply Take.cons (by repeat (first | exact Del.here | apply Del.there)))) (by repeat (first | exact trivial | refine And.intro (by repeat (first | exact Mem.here | apply Mem.there)) ?_))
theorem within_ct (k top : Int) : Ct Try.prog 27 [.int .i64 k, .int .i64 top] [] [] (fun _ : Unit => .int .i64 (min (max k 0) top)) (fun _ => []) (fun _ => []) := by
  refine Ct.of _ Try.func27 Try.ntmps27 rfl rfl (fun X W => ?_)
  refine Jc.seq ?_
  refine Jc.region ?_
  refine Jl.pv (PR.assign rfl) ?_
  refine Jl.nil ?_
  refine Jq.thenN ?_
  refine Jc.seq ?_
  refine Jc.region ?_
  refine Jl.pv (PR.move rfl) ?_
  refine Jl.pv (PR.max2 _ rfl rfl rfl) ?_
  refine Jl.pv (PR.move rfl) ?_
  refine Jl.pv (PR.min2 _ rfl rfl rfl) ?_
  refine Jl.pv (PR.assign rfl) ?_
  refine Jl.nil ?_
  refine Jq.thenN ?_
  refine Jc.ret ?_
  exact Jq.fin () (.inl rfl) rfl (RetVs.tmp rfl RetVs.nil) rfl (by repeat (first | exact Take.nil | apply Take.cons (by repeat (first | exact Del.here | apply Del.there)))) (by repeat (first | exact trivial | refine And.intro (by repeat (first | exact Mem.here | apply Mem.there)) ?_))
theorem own_ct (A : Option Addr) (c : Nat) (d : Dk) (hn : d.b.length ≤ 500000) (hc : d.b.length ≤ c) :
    Ct Try.prog 10 [d.v (A, c)] [] [.rd A (u8s d.b)] d.own.v (fun x => [d.own.row x]) (fun _ => []) := by
  have hl : d.own.b.length ≤ d.b.length := by simp [Dk.own]; omega
  refine Ct.of _ Try.func10 Try.ntmps10 rfl rfl (fun X W => ?_)
  refine Jc.seq ?_
  refine Jc.region ?_
  refine Jl.box rfl (by rfl) ?_
  intro b1
  refine Jl.alloc tze24 ?_
  intro b2
  refine Jl.nil ?_
  refine Jq.thenN ?_
  refine Jc.seq ?_
  refine Jc.region ?_
  refine Jl.pv (PR.fieldAddr rfl tfl24_2) ?_
  refine Jl.pv (PR.load1 rfl tsh3 (by repeat (first | exact Has.here | apply Has.there)) (by rfl)) ?_
  refine Jl.call (within_ct d.r 65536) en27 (by rfl) (by repeat (first | exact Take.nil | apply Take.cons (by repeat (first | exact Del.here | apply Del.there)))) (by repeat (first | exact trivial | refine And.intro (by repeat (first | exact Mem.here | apply Mem.there)) ?_)) ?_
  rintro ⟨⟩
  refine Jl.pv (PR.assign rfl) ?_
  refine Jl.nil ?_
  refine Jq.thenN ?_
  refine Jc.seq ?_
  refine Jc.region ?_
  refine Jl.pv (PR.fieldAddr rfl tfl24_0) ?_
  refine Jl.pv (PR.load1 rfl tsh22 (by repeat (first | exact Has.here | apply Has.there)) (by rfl)) ?_
  refine Jl.pv (PR.fieldAddr rfl tfl24_0) ?_
  refine Jl.pv (PR.load1 rfl tsh22 (by repeat (first | exact Has.here | apply Has.there)) (by rfl)) ?_
  refine Jl.pv (PR.len rfl tsl22) ?_
  refine Jl.pv (PR.move rfl) ?_
  refine Jl.pv (PR.min2 d.own.b.length rfl rfl (by simp [Dk.own, Dk.room]; omega)) ?_
  refine Jl.slice 0 d.own.b.length d.own.b.length (u8s d.own.b) rfl tsl22 rfl rfl (by repeat (first | exact Mem.here | apply Mem.there)) (by omega) hl hc rfl (by simp [Dk.own, u8s, List.map_take]) ?_
  intro A15 c15 hc15
  clear hc15
  refine Jl.call (sclone_ct A15 c15 d.own.b (by omega)) en28 (by rfl) (by repeat (first | exact Take.nil | apply Take.cons (by repeat (first | exact Del.here | apply Del.there)))) (by repeat (first | exact trivial | refine And.intro (by repeat (first | exact Mem.here | apply Mem.there)) ?_)) ?_
  rintro ⟨A16, c16⟩
  refine Jl.pv (PR.assign rfl) ?_
  refine Jl.nil ?_
  refine Jq.thenN ?_
  refine Jc.seq ?_
  refine Jc.region ?_
  refine Jl.pv (PR.move rfl) ?_
  refine Jl.pv (PR.fieldAddr rfl tfl24_1) ?_
  refine Jl.pv (PR.load1 rfl tsh3 (by repeat (first | exact Has.here | apply Has.there)) (by rfl)) ?_
  refine Jl.pv (PR.move rfl) ?_
  refine Jl.pv (PR.len rfl tsl22) ?_
  refine Jl.call (within_ct d.s d.own.b.length) en27 (by rfl) (by repeat (first | exact Take.nil | apply Take.cons (by repeat (first | exact Del.here | apply Del.there)))) (by repeat (first | exact trivial | refine And.intro (by repeat (first | exact Mem.here | apply Mem.there)) ?_)) ?_
  rintro ⟨⟩
  refine Jl.pv (PR.move rfl) ?_
  refine Jl.pv (PR.build (by rfl) tze24 tpl24_0_1_2 (by rfl)) ?_
  refine Jl.storeW rfl tsh24 rfl (by rfl) (by simp [Value.oneCell']) (by repeat (first | exact Swap.here | apply Swap.there)) (by rfl) ?_
  refine Jl.nil ?_
  refine Jq.thenN ?_
  refine Jc.ret ?_
  exact Jq.fin (A16, c16) (.inl rfl) rfl (RetVs.cellA rfl (by repeat (first | exact Has.here | apply Has.there)) tsh24 (by rfl) RetVs.nil) rfl (by repeat (first | exact Take.nil | apply Take.cons (by repeat (first | exact Del.here | apply Del.there)))) (by repeat (first | exact trivial | refine And.intro (by repeat (first | exact Mem.here | apply Mem.there)) ?_))
theorem new_ct (room : Int) : Ct Try.prog 19 [.int .i64 room] [] [] (Dk.new room).v (fun x => [(Dk.new room).row x]) (fun _ => []) := by
  rw [← new_own]
  refine Ct.of _ Try.func19 Try.ntmps19 rfl rfl (fun X W => ?_)
  refine Jc.seq ?_
  refine Jc.region ?_
  refine Jl.alloc tze24 ?_
  intro b2
  refine Jl.nil ?_
  refine Jq.thenN ?_
  refine Jc.seq ?_
  refine Jc.region ?_
  refine Jl.pv (PR.move rfl) ?_
  refine Jl.pv (PR.build (by rfl) tze24 tpl24_2 (by rfl)) ?_
  refine Jl.fact0 (.rd none (u8s (⟨[], 0, room⟩ : Dk).b)) (fun X W => Fact.rd_nil none X W) ?_
  refine Jl.call (own_ct none 0 ⟨[], 0, room⟩ (by simp) (by simp)) en10 (by rfl) (by repeat (first | exact Take.nil | apply Take.cons (by repeat (first | exact Del.here | apply Del.there)))) (by repeat (first | exact trivial | refine And.intro (by repeat (first | exact Mem.here | apply Mem.there)) ?_)) ?_
  rintro ⟨A5, c5⟩
  refine Jl.storeW rfl tsh24 rfl (by rfl) (by simp [Value.oneCell']) (by repeat (first | exact Swap.here | apply Swap.there)) (by rfl) ?_
  refine Jl.nil ?_
  refine Jq.thenN ?_
  refine Jc.ret ?_
  exact Jq.fin (A5, c5) (.inl rfl) rfl (RetVs.cellA rfl (by repeat (first | exact Has.here | apply Has.there)) tsh24 (by rfl) RetVs.nil) rfl (by repeat (first | exact Take.nil | apply Take.cons (by repeat (first | exact Del.here | apply Del.there)))) (by repeat (first | exact trivial | refine And.intro (by repeat (first | exact Mem.here | apply Mem.there)) ?_))
theorem free_ct (A : Option Addr) (c : Nat) (d : Dk) (hn : d.b.length ≤ 500000) : Ct Try.prog 24 [d.v (A, c)] [] [] (fun _ : Unit => .int .i64 (d.own.r - d.own.b.length)) (fun _ => []) (fun _ => []) := by
  have hl : d.own.b.length ≤ d.b.length := by simp [Dk.own]; omega
  have hr : 0 ≤ d.own.r ∧ d.own.r ≤ 65536 := by have := d.own_fit; omega
  refine Ct.of _ Try.func24 Try.ntmps24 rfl rfl (fun X W => ?_)
  refine Jc.seq ?_
  refine Jc.region ?_
  refine Jl.box rfl (by rfl) ?_
  intro b1
  refine Jl.pv (PR.assign rfl) ?_
  refine Jl.nil ?_
  refine Jq.thenN ?_
  refine Jc.seq ?_
  refine Jc.region ?_
  refine Jl.pv (PR.fieldAddr rfl tfl24_2) ?_
  refine Jl.pv (PR.load1 rfl tsh3 (by repeat (first | exact Has.here | apply Has.there)) (by rfl)) ?_
  refine Jl.call (within_ct d.r 65536) en27 (by rfl) (by repeat (first | exact Take.nil | apply Take.cons (by repeat (first | exact Del.here | apply Del.there)))) (by repeat (first | exact trivial | refine And.intro (by repeat (first | exact Mem.here | apply Mem.there)) ?_)) ?_
  rintro ⟨⟩
  refine Jl.pv (PR.assign rfl) ?_
  refine Jl.nil ?_
  refine Jq.thenN ?_
  refine Jc.seq ?_
  refine Jc.region ?_
  refine Jl.pv (PR.move rfl) ?_
  refine Jl.pv (PR.fieldAddr rfl tfl24_0) ?_
  refine Jl.pv (PR.load1 rfl tsh22 (by repeat (first | exact Has.here | apply Has.there)) (by rfl)) ?_
  refine Jl.pv (PR.len rfl tsl22) ?_
  refine Jl.pv (PR.move rfl) ?_
  refine Jl.pv (PR.min2 d.own.b.length rfl rfl (by simp [Dk.own, Dk.room]; omega)) ?_
  refine Jl.pv (PR.sub (d.own.r - d.own.b.length) rfl rfl (by rw [show min (max d.r 0) 65536 = d.own.r from rfl, w64 (by omega) (by omega)])) ?_
  refine Jl.pv (PR.assign rfl) ?_
  refine Jl.nil ?_
  refine Jq.thenN ?_
  refine Jc.ret ?_
  exact Jq.fin () (.inl rfl) rfl (RetVs.tmp rfl RetVs.nil) rfl (by repeat (first | exact Take.nil | apply Take.cons (by repeat (first | exact Del.here | apply Del.there)))) (by repeat (first | exact trivial | refine And.intro (by repeat (first | exact Mem.here | apply Mem.there)) ?_))
theorem all_ct (b : Nat) (A : Option Addr) (n c : Nat) (s r : Int) : Ct Try.prog 33 [.pointer (some ⟨b, 0, none⟩)] [.blk b 24 [.slice A n c, .int .i64 s, .int .i64 r]] [] (fun _ : Unit => .tuple #[]) (fun _ => [.blk b 24 [.slice A n c, .int .i64 n, .int .i64 r]]) (fun _ => []) := by
  refine Ct.of _ Try.func33 Try.ntmps33 rfl rfl (fun X W => ?_)
  refine Jc.region ?_
  refine Jl.pv (PR.move rfl) ?_
  refine Jl.pv (PR.move rfl) ?_
  refine Jl.pv (PR.nilCheck rfl) ?_
  refine Jl.pv (PR.fieldAddr rfl tfl24_0) ?_
  refine Jl.pv (PR.load1 rfl tsh22 (by repeat (first | exact Has.here | apply Has.there)) (by rfl)) ?_
  refine Jl.pv (PR.len rfl tsl22) ?_
  refine Jl.pv (PR.nilCheck rfl) ?_
  refine Jl.pv (PR.fieldAddr rfl tfl24_1) ?_
  refine Jl.store1 rfl tsh3 rfl (by rfl) (by repeat (first | exact Swap.here | apply Swap.there)) (by rfl) ?_
  refine Jl.nil ?_
  exact Jq.fin () (.inr rfl) rfl RetVs.nil rfl (by repeat (first | exact Take.nil | apply Take.cons (by repeat (first | exact Del.here | apply Del.there)))) (by repeat (first | exact trivial | refine And.intro (by repeat (first | exact Mem.here | apply Mem.there)) ?_))
theorem change_ct (fn : Fn) (ys zs : Array Value) : Ct Try.prog 31 [.func fn ys zs] [] [] (fun b : Nat => .func (.func 35) #[] #[.pointer (some ⟨b, 0, none⟩)]) (fun b => [.blk b 49 [.func fn ys zs]]) (fun _ => []) := by
  refine Ct.of _ Try.func31 Try.ntmps31 rfl rfl (fun X W => ?_)
  refine Jc.seq ?_
  refine Jc.region ?_
  refine Jl.box rfl (by rfl) ?_
  intro b1
  refine Jl.pv (PR.assign rfl) ?_
  refine Jl.nil ?_
  refine Jq.thenN ?_
  refine Jc.seq ?_
  refine Jc.region ?_
  refine Jl.pv (PR.makeFunc rfl rfl) ?_
  refine Jl.pv (PR.assign rfl) ?_
  refine Jl.nil ?_
  refine Jq.thenN ?_
  refine Jc.ret ?_
  exact Jq.fin b1 (.inl rfl) rfl (RetVs.tmp rfl RetVs.nil) rfl (by repeat (first | exact Take.nil | apply Take.cons (by repeat (first | exact Del.here | apply Del.there)))) (by repeat (first | exact trivial | refine And.intro (by repeat (first | exact Mem.here | apply Mem.there)) ?_))
theorem cut_says (d : Dk) (keep : Int) (x : OAd) (W : World) (h : (d.own.row x).says W) : ((d.crash keep).row x).says W := by
  have h1 := d.left_le keep
  have h2 := d.crash_len keep
  have h3 := row_cut (k := d.left keep) h1 h
  unfold Dk.row
  rw [h2]
  have e : u8s (d.crash keep).b = (u8s d.own.b).take (d.left keep) := by simp [Dk.crash, u8s, List.map_take]
  rw [e]
  exact h3
theorem cut_owns (d : Dk) (keep : Int) (x : OAd) : ∀ b, ((d.crash keep).row x).own b → (d.own.row x).own b := row_cut_own
theorem crash_cs (d : Dk) (keep : Int) (x : OAd) : (d.crash keep).cs x = [.slice x.1 (d.left keep) x.2, .int .i64 (d.left keep : Nat), .int .i64 d.own.r] := by unfold Dk.cs; rw [d.crash_len]; rfl
theorem row_cap_dk {d : Dk} {x : OAd} {W : World} (h : (d.row x).says W) : d.b.length ≤ x.2 := row_cap h
theorem crash1_ct (b bk : Nat) (x : OAd) (d : Dk) (keep : Int) (hn : d.b.length ≤ 500000) : Ct Try.prog 32 [.pointer (some ⟨b, 0, none⟩), .pointer (some ⟨bk, 0, none⟩)] [.blk b 24 (d.own.cs x), d.own.row x, .blk bk 3 [.int .i64 keep]] [] (fun _ : Unit => .tuple #[])
      (fun _ => [.blk b 24 ((d.crash keep).cs x), (d.crash keep).row x]) (fun _ => []) := by
  have hl : d.own.b.length ≤ d.b.length := by simp [Dk.own]; omega
  have hle := d.left_le keep
  have heq := d.left_eq keep
  have hfit := d.own_fit
  refine Ct.of _ Try.func32 Try.ntmps32 rfl rfl (fun X W => ?_)
  refine Jc.pureR (p := d.own.b.length ≤ x.2) (fun W hs => row_cap_dk hs.2.2.1) fun hcap => ?_
  refine Jc.seq ?_
  refine Jc.drawn [0, 0, 2, 6, 14, 0, 32, 96, 224, 0, 0, 1024, 3072, 7168, 15360, 0, 32768, 98304, 229376, 523264, 1048064, 2097120, 4194302, 8388607, 16777215, 33554431] ([], []) [⟨[(0, false), (1, false), (2, false), (3, false), (4, false), (5, false), (6, false), (7, false), (8, false), (9, false), (10, false), (11, false), (12, false), (13, false), (14, false), (15, false), (16, false), (17, false), (18, false), (19, false)], [], 20⟩, ⟨[(21, false), (22, false), (23, false), (24, false)], [], 25⟩] tmx (by kernel_rfl) ?_
  refine Dh.JH.cons ?_
  refine Dh.JB.pv rfl trivial (fun _ => PR.move rfl) ?_
  refine Dh.JB.pv rfl trivial (fun _ => PR.move rfl) ?_
  refine Dh.JB.pv rfl trivial (fun _ => PR.nilCheck rfl) ?_
  refine Dh.JB.pv rfl trivial (fun _ => PR.fieldAddr rfl tfl24_0) ?_
  refine Dh.JB.rd [.blk _ _ _] rfl trivial (by repeat (first | exact Take.nil | apply Take.cons (by repeat (first | exact Del.here | apply Del.there)))) (fun _ => PR.load1 rfl tsh22 Has.here (by rfl)) ?_
  refine Dh.JB.pv rfl trivial (fun _ => PR.move rfl) ?_
  refine Dh.JB.pv rfl trivial (fun _ => PR.nilCheck rfl) ?_
  refine Dh.JB.pv rfl trivial (fun _ => PR.fieldAddr rfl tfl24_1) ?_
  refine Dh.JB.rd [.blk _ _ _] rfl trivial (by repeat (first | exact Take.nil | apply Take.cons (by repeat (first | exact Del.here | apply Del.there)))) (fun _ => PR.load1 rfl tsh3 Has.here (by rfl)) ?_
  refine Dh.JB.rd [.blk _ _ _] rfl trivial (by repeat (first | exact Take.nil | apply Take.cons (by repeat (first | exact Del.here | apply Del.there)))) (fun _ => PR.load1 rfl tsh3 Has.here (by rfl)) ?_
  refine Dh.JB.pv rfl trivial (fun _ => PR.move rfl) ?_
  refine Dh.JB.pv rfl trivial (fun _ => PR.nilCheck rfl) ?_
  refine Dh.JB.pv rfl trivial (fun _ => PR.fieldAddr rfl tfl24_0) ?_
  refine Dh.JB.rd [.blk _ _ _] rfl trivial (by repeat (first | exact Take.nil | apply Take.cons (by repeat (first | exact Del.here | apply Del.there)))) (fun _ => PR.load1 rfl tsh22 Has.here (by rfl)) ?_
  refine Dh.JB.pv rfl trivial (fun _ => PR.len rfl tsl22) ?_
  refine Dh.JB.pv rfl trivial (fun _ => PR.move rfl) ?_
  refine Dh.JB.pv rfl trivial (fun _ => PR.nilCheck rfl) ?_
  refine Dh.JB.pv rfl trivial (fun _ => PR.fieldAddr rfl tfl24_1) ?_
  refine Dh.JB.rd [.blk _ _ _] rfl trivial (by repeat (first | exact Take.nil | apply Take.cons (by repeat (first | exact Del.here | apply Del.there)))) (fun _ => PR.load1 rfl tsh3 Has.here (by rfl)) ?_
  refine Dh.JB.pv rfl trivial (fun _ => PR.sub ((d.own.b.length : Int) - d.own.s) rfl rfl (w64 (by omega) (by omega))) ?_
  refine Dh.JB.nil ?_
  refine Dh.JL.nil ?_
  refine Dh.JE.mk rfl (fun _ h => by cases h) (fun C0_20 => ?_)
  refine Jl.call (within_ct keep ((d.own.b.length : Int) - d.own.s)) en27 (by rfl) (by repeat (first | exact Take.nil | apply Take.cons (by repeat (first | exact Del.here | apply Del.there)))) (by repeat (first | exact trivial | refine And.intro (by repeat (first | exact Mem.here | apply Mem.there)) ?_)) ?_
  rintro ⟨⟩
  refine Jl.nil ?_
  refine Dh.Jq.segV (by repeat (first | exact Dh.FExt.refl | apply Dh.FExt.cons | apply Dh.FExt.app)) ?_ (by repeat (first | exact Dh.KeepL.nil | apply Dh.KeepL.anc (by rfl) | apply Dh.KeepL.keep (by repeat (first | exact Take.nil | apply Take.cons (by repeat (first | exact Del.here | apply Del.there))))))
  refine Dh.JH.cons ?_
  refine Dh.JB.pv rfl trivial (fun _ => PR.add ((d.left keep : Nat) : Int) rfl rfl (by rw [heq, w64 (by omega) (by omega)])) ?_
  refine Dh.JB.pv rfl trivial (fun _ => PR.slice0 (d.left keep) rfl tsl22 rfl hle hcap) ?_
  refine Dh.JB.pv rfl trivial (fun _ => PR.nilCheck rfl) ?_
  refine Dh.JB.pv rfl trivial (fun _ => PR.fieldAddr rfl tfl24_0) ?_
  refine Dh.JB.nil ?_
  refine Dh.JL.nil ?_
  refine Dh.JE.mk rfl (fun _ h => by cases h) (fun C0_25 => ?_)
  refine Jl.store1 rfl tsh22 rfl (by rfl) (by repeat (first | exact Swap.here | apply Swap.there)) (by rfl) ?_
  refine Jl.nil ?_
  refine Dh.Jq.segN (by repeat (first | exact Dh.FExt.refl | apply Dh.FExt.cons | apply Dh.FExt.app)) ?_ (by repeat (first | exact Dh.KeepL.nil | apply Dh.KeepL.anc (by rfl) | apply Dh.KeepL.keep (by repeat (first | exact Take.nil | apply Take.cons (by repeat (first | exact Del.here | apply Del.there))))))
  refine Dh.JH.nil ?_
  refine Dh.JB.nil ?_
  refine Dh.JL.nil ?_
  refine Jq.thenN ?_
  refine Jc.region ?_
  refine Jl.pv (PR.move rfl) ?_
  refine Jl.call (all_ct b x.1 (d.left keep) x.2 d.own.s d.own.r) en33 (by rfl) (by repeat (first | exact Take.nil | apply Take.cons (by repeat (first | exact Del.here | apply Del.there)))) (by repeat (first | exact trivial | refine And.intro (by repeat (first | exact Mem.here | apply Mem.there)) ?_)) ?_
  rintro ⟨⟩
  refine Jl.rsay (q := d.own.row x) (q' := (d.crash keep).row x) (by repeat (first | exact Swap.here | apply Swap.there)) (cut_says d keep x) (cut_owns d keep x) ?_
  refine Jl.rsay (q := .blk b 24 [.slice x.1 (d.left keep) x.2, .int .i64 (d.left keep : Nat), .int .i64 d.own.r]) (q' := .blk b 24 ((d.crash keep).cs x)) (by repeat (first | exact Swap.here | apply Swap.there)) (fun W h => by rw [crash_cs]; exact h) (fun _ h => by rw [crash_cs] at h; exact h) ?_
  refine Jl.nil ?_
  exact Jq.fin () (.inr rfl) rfl RetVs.nil rfl (by repeat (first | exact Take.nil | apply Take.cons (by repeat (first | exact Del.here | apply Del.there)))) (by repeat (first | exact trivial | refine And.intro (by repeat (first | exact Mem.here | apply Mem.there)) ?_))
theorem changeS_ct (A : Option Addr) (c bg : Nat) (d : Dk) (hn : d.b.length ≤ 500000) (hc : d.b.length ≤ c) :
    Ct Try.prog 35 [d.v (A, c), .pointer (some ⟨bg, 0, none⟩)] [.blk bg 49 [.func (.func 33) #[] #[]]] [.rd A (u8s d.b)] d.sync.v (fun x => [d.sync.row x]) (fun _ => []) := by
  refine Ct.of _ Try.func35 Try.ntmps35 rfl rfl (fun X W => ?_)
  refine Jc.seq ?_
  refine Jc.region ?_
  refine Jl.box rfl (by rfl) ?_
  intro b2
  refine Jl.alloc tze24 ?_
  intro b3
  refine Jl.nil ?_
  refine Jq.thenN ?_
  refine Jc.seq ?_
  refine Jc.region ?_
  refine Jl.pv (PR.loadW rfl tsh24 (by repeat (first | exact Has.here | apply Has.there)) (by rfl)) ?_
  refine Jl.call (own_ct A c d hn hc) en10 (by rfl) (by repeat (first | exact Take.nil | apply Take.cons (by repeat (first | exact Del.here | apply Del.there)))) (by repeat (first | exact trivial | refine And.intro (by repeat (first | exact Mem.here | apply Mem.there)) ?_)) ?_
  rintro ⟨A5, c5⟩
  refine Jl.storeW rfl tsh24 rfl (by rfl) (by simp [Value.oneCell']) (by repeat (first | exact Swap.here | apply Swap.there)) (by rfl) ?_
  refine Jl.nil ?_
  refine Jq.thenN ?_
  refine Jc.seq ?_
  refine Jc.region ?_
  refine Jl.pv (PR.load1 rfl tsh49 (by repeat (first | exact Has.here | apply Has.there)) (by rfl)) ?_
  refine Jl.callv (all_ct b2 A5 d.own.b.length c5 d.own.s d.own.r) en33 rfl (by rfl) (by rfl) (by repeat (first | exact Take.nil | apply Take.cons (by repeat (first | exact Del.here | apply Del.there)))) (by repeat (first | exact trivial | refine And.intro (by repeat (first | exact Mem.here | apply Mem.there)) ?_)) ?_
  rintro ⟨⟩
  refine Jl.nil ?_
  refine Jq.thenN ?_
  refine Jc.seq ?_
  refine Jc.region ?_
  refine Jl.pv (PR.loadW rfl tsh24 (by repeat (first | exact Has.here | apply Has.there)) (by rfl)) ?_
  refine Jl.storeW rfl tsh24 rfl (by rfl) (by simp [Value.oneCell']) (by repeat (first | exact Swap.here | apply Swap.there)) (by rfl) ?_
  refine Jl.nil ?_
  refine Jq.thenN ?_
  refine Jc.ret ?_
  exact Jq.fin (A5, c5) (.inl rfl) rfl (RetVs.cellA rfl (by repeat (first | exact Has.here | apply Has.there)) tsh24 (by rfl) RetVs.nil) rfl (by repeat (first | exact Take.nil | apply Take.cons (by repeat (first | exact Del.here | apply Del.there)))) (by repeat (first | exact trivial | refine And.intro (by repeat (first | exact Mem.here | apply Mem.there)) ?_))
theorem changeC_ct (A : Option Addr) (c bg bk : Nat) (d : Dk) (keep : Int) (hn : d.b.length ≤ 500000) (hc : d.b.length ≤ c) :
    Ct Try.prog 35 [d.v (A, c), .pointer (some ⟨bg, 0, none⟩)] [.blk bg 49 [.func (.func 32) #[] #[.pointer (some ⟨bk, 0, none⟩)]], .blk bk 3 [.int .i64 keep]] [.rd A (u8s d.b)] (d.crash keep).v (fun x => [(d.crash keep).row x]) (fun _ => []) := by
  refine Ct.of _ Try.func35 Try.ntmps35 rfl rfl (fun X W => ?_)
  refine Jc.seq ?_
  refine Jc.region ?_
  refine Jl.box rfl (by rfl) ?_
  intro b2
  refine Jl.alloc tze24 ?_
  intro b3
  refine Jl.nil ?_
  refine Jq.thenN ?_
  refine Jc.seq ?_
  refine Jc.region ?_
  refine Jl.pv (PR.loadW rfl tsh24 (by repeat (first | exact Has.here | apply Has.there)) (by rfl)) ?_
  refine Jl.call (own_ct A c d hn hc) en10 (by rfl) (by repeat (first | exact Take.nil | apply Take.cons (by repeat (first | exact Del.here | apply Del.there)))) (by repeat (first | exact trivial | refine And.intro (by repeat (first | exact Mem.here | apply Mem.there)) ?_)) ?_
  rintro ⟨A5, c5⟩
  refine Jl.storeW rfl tsh24 rfl (by rfl) (by simp [Value.oneCell']) (by repeat (first | exact Swap.here | apply Swap.there)) (by rfl) ?_
  refine Jl.nil ?_
  refine Jq.thenN ?_
  refine Jc.seq ?_
  refine Jc.region ?_
  refine Jl.pv (PR.load1 rfl tsh49 (by repeat (first | exact Has.here | apply Has.there)) (by rfl)) ?_
  refine Jl.callv (crash1_ct b2 bk (A5, c5) d keep hn) en32 rfl (by rfl) (by rfl) (by repeat (first | exact Take.nil | apply Take.cons (by repeat (first | exact Del.here | apply Del.there)))) (by repeat (first | exact trivial | refine And.intro (by repeat (first | exact Mem.here | apply Mem.there)) ?_)) ?_
  rintro ⟨⟩
  refine Jl.rsay (q := .blk b2 24 ((d.crash keep).cs (A5, c5))) (q' := .blk b2 24 [.slice A5 (d.crash keep).b.length c5, .int .i64 (d.crash keep).s, .int .i64 (d.crash keep).r]) (by repeat (first | exact Swap.here | apply Swap.there)) (fun _ h => h) (fun _ h => h) ?_
  refine Jl.nil ?_
  refine Jq.thenN ?_
  refine Jc.seq ?_
  refine Jc.region ?_
  refine Jl.pv (PR.loadW rfl tsh24 (by repeat (first | exact Has.here | apply Has.there)) (by rfl)) ?_
  refine Jl.storeW rfl tsh24 rfl (by rfl) (by simp [Value.oneCell']) (by repeat (first | exact Swap.here | apply Swap.there)) (by rfl) ?_
  refine Jl.nil ?_
  refine Jq.thenN ?_
  refine Jc.ret ?_
  exact Jq.fin (A5, c5) (.inl rfl) rfl (RetVs.cellA rfl (by repeat (first | exact Has.here | apply Has.there)) tsh24 (by rfl) RetVs.nil) rfl (by repeat (first | exact Take.nil | apply Take.cons (by repeat (first | exact Del.here | apply Del.there)))) (by repeat (first | exact trivial | refine And.intro (by repeat (first | exact Mem.here | apply Mem.there)) ?_))
theorem sync_ct (A : Option Addr) (c : Nat) (d : Dk) (hn : d.b.length ≤ 500000) (hc : d.b.length ≤ c) :
    Ct Try.prog 15 [d.v (A, c)] [] [.rd A (u8s d.b)] d.sync.v (fun x => [d.sync.row x]) (fun _ => []) := by
  refine Ct.of _ Try.func15 Try.ntmps15 rfl rfl (fun X W => ?_)
  refine Jc.seq ?_
  refine Jc.region ?_
  refine Jl.box rfl (by rfl) ?_
  intro b1
  refine Jl.alloc tze24 ?_
  intro b2
  refine Jl.nil ?_
  refine Jq.thenN ?_
  refine Jc.seq ?_
  refine Jc.drawn [0, 0, 3, 7] ([], []) [⟨[(1, false)], [], 0⟩, ⟨[], [], 2⟩, ⟨[], [], 3⟩] tmx (by kernel_rfl) ?_
  refine Dh.JH.cons ?_
  refine Dh.JB.rd [.blk _ _ _] rfl trivial (by repeat (first | exact Take.nil | apply Take.cons (by repeat (first | exact Del.here | apply Del.there)))) (fun _ => PR.loadW rfl tsh24 Has.here (by rfl)) ?_
  refine Dh.JB.nil ?_
  refine Dh.JL.nil ?_
  refine Dh.JE.mk rfl (fun _ h => by cases h) (fun C1_0 => ?_)
  refine Jl.call (change_ct (.func 33) #[] #[]) en31 (by rfl) (by repeat (first | exact Take.nil | apply Take.cons (by repeat (first | exact Del.here | apply Del.there)))) (by repeat (first | exact trivial | refine And.intro (by repeat (first | exact Mem.here | apply Mem.there)) ?_)) ?_
  rintro b3
  refine Jl.nil ?_
  refine Dh.Jq.segV (by repeat (first | exact Dh.FExt.refl | apply Dh.FExt.cons | apply Dh.FExt.app)) ?_ (by repeat (first | exact Dh.KeepL.nil | apply Dh.KeepL.anc (by rfl) | apply Dh.KeepL.keep (by repeat (first | exact Take.nil | apply Take.cons (by repeat (first | exact Del.here | apply Del.there))))))
  refine Dh.JH.cons ?_
  refine Dh.JB.nil ?_
  refine Dh.JL.nil ?_
  refine Dh.JE.mk rfl (fun _ h => by cases h) (fun C1_2 => ?_)
  refine Jl.callv (changeS_ct A c b3 d hn hc) en35 rfl (by rfl) (by rfl) (by repeat (first | exact Take.nil | apply Take.cons (by repeat (first | exact Del.here | apply Del.there)))) (by repeat (first | exact trivial | refine And.intro (by repeat (first | exact Mem.here | apply Mem.there)) ?_)) ?_
  rintro ⟨A5, c5⟩
  refine Jl.nil ?_
  refine Dh.Jq.segV (by repeat (first | exact Dh.FExt.refl | apply Dh.FExt.cons | apply Dh.FExt.app)) ?_ (by repeat (first | exact Dh.KeepL.nil | apply Dh.KeepL.anc (by rfl) | apply Dh.KeepL.keep (by repeat (first | exact Take.nil | apply Take.cons (by repeat (first | exact Del.here | apply Del.there))))))
  refine Dh.JH.cons ?_
  refine Dh.JB.nil ?_
  refine Dh.JL.nil ?_
  refine Dh.JE.mk rfl (fun _ h => by cases h) (fun C1_3 => ?_)
  refine Jl.storeW rfl tsh24 rfl (by rfl) (by simp [Value.oneCell']) (by repeat (first | exact Swap.here | apply Swap.there)) (by rfl) ?_
  refine Jl.nil ?_
  refine Dh.Jq.segN (by repeat (first | exact Dh.FExt.refl | apply Dh.FExt.cons | apply Dh.FExt.app)) ?_ (by repeat (first | exact Dh.KeepL.nil | apply Dh.KeepL.anc (by rfl) | apply Dh.KeepL.keep (by repeat (first | exact Take.nil | apply Take.cons (by repeat (first | exact Del.here | apply Del.there))))))
  refine Dh.JH.nil ?_
  refine Dh.JB.nil ?_
  refine Dh.JL.nil ?_
  refine Jq.thenN ?_
  refine Jc.ret ?_
  exact Jq.fin (A5, c5) (.inl rfl) rfl (RetVs.cellA rfl (by repeat (first | exact Has.here | apply Has.there)) tsh24 (by rfl) RetVs.nil) rfl (by repeat (first | exact Take.nil | apply Take.cons (by repeat (first | exact Del.here | apply Del.there)))) (by repeat (first | exact trivial | refine And.intro (by repeat (first | exact Mem.here | apply Mem.there)) ?_))
theorem crash_ct (A : Option Addr) (c : Nat) (d : Dk) (keep : Int) (hn : d.b.length ≤ 500000) (hc : d.b.length ≤ c) :
    Ct Try.prog 14 [d.v (A, c), .int .i64 keep] [] [.rd A (u8s d.b)] (d.crash keep).v (fun x => [(d.crash keep).row x]) (fun _ => []) := by
  refine Ct.of _ Try.func14 Try.ntmps14 rfl rfl (fun X W => ?_)
  refine Jc.seq ?_
  refine Jc.region ?_
  refine Jl.box rfl (by rfl) ?_
  intro b2
  refine Jl.box rfl (by rfl) ?_
  intro b3
  refine Jl.alloc tze24 ?_
  intro b4
  refine Jl.nil ?_
  refine Jq.thenN ?_
  refine Jc.seq ?_
  refine Jc.drawn [0, 1, 0, 7, 15] ([], []) [⟨[(0, false), (2, false)], [], 1⟩, ⟨[], [], 3⟩, ⟨[], [], 4⟩] tmx (by kernel_rfl) ?_
  refine Dh.JH.cons ?_
  refine Dh.JB.pv rfl trivial (fun _ => PR.makeFunc rfl rfl) ?_
  refine Dh.JB.rd [.blk _ _ _] rfl trivial (by repeat (first | exact Take.nil | apply Take.cons (by repeat (first | exact Del.here | apply Del.there)))) (fun _ => PR.loadW rfl tsh24 Has.here (by rfl)) ?_
  refine Dh.JB.nil ?_
  refine Dh.JL.nil ?_
  refine Dh.JE.mk rfl (fun _ h => by cases h) (fun C1_1 => ?_)
  refine Jl.call (change_ct (.func 32) #[] #[.pointer (some ⟨b3, 0, none⟩)]) en31 (by rfl) (by repeat (first | exact Take.nil | apply Take.cons (by repeat (first | exact Del.here | apply Del.there)))) (by repeat (first | exact trivial | refine And.intro (by repeat (first | exact Mem.here | apply Mem.there)) ?_)) ?_
  rintro b6
  refine Jl.nil ?_
  refine Dh.Jq.segV (by repeat (first | exact Dh.FExt.refl | apply Dh.FExt.cons | apply Dh.FExt.app)) ?_ (by repeat (first | exact Dh.KeepL.nil | apply Dh.KeepL.anc (by rfl) | apply Dh.KeepL.keep (by repeat (first | exact Take.nil | apply Take.cons (by repeat (first | exact Del.here | apply Del.there))))))
  refine Dh.JH.cons ?_
  refine Dh.JB.nil ?_
  refine Dh.JL.nil ?_
  refine Dh.JE.mk rfl (fun _ h => by cases h) (fun C1_3 => ?_)
  refine Jl.callv (changeC_ct A c b6 b3 d keep hn hc) en35 rfl (by rfl) (by rfl) (by repeat (first | exact Take.nil | apply Take.cons (by repeat (first | exact Del.here | apply Del.there)))) (by repeat (first | exact trivial | refine And.intro (by repeat (first | exact Mem.here | apply Mem.there)) ?_)) ?_
  rintro ⟨A8, c8⟩
  refine Jl.nil ?_
  refine Dh.Jq.segV (by repeat (first | exact Dh.FExt.refl | apply Dh.FExt.cons | apply Dh.FExt.app)) ?_ (by repeat (first | exact Dh.KeepL.nil | apply Dh.KeepL.anc (by rfl) | apply Dh.KeepL.keep (by repeat (first | exact Take.nil | apply Take.cons (by repeat (first | exact Del.here | apply Del.there))))))
  refine Dh.JH.cons ?_
  refine Dh.JB.nil ?_
  refine Dh.JL.nil ?_
  refine Dh.JE.mk rfl (fun _ h => by cases h) (fun C1_4 => ?_)
  refine Jl.storeW rfl tsh24 rfl (by rfl) (by simp [Value.oneCell']) (by repeat (first | exact Swap.here | apply Swap.there)) (by rfl) ?_
  refine Jl.nil ?_
  refine Dh.Jq.segN (by repeat (first | exact Dh.FExt.refl | apply Dh.FExt.cons | apply Dh.FExt.app)) ?_ (by repeat (first | exact Dh.KeepL.nil | apply Dh.KeepL.anc (by rfl) | apply Dh.KeepL.keep (by repeat (first | exact Take.nil | apply Take.cons (by repeat (first | exact Del.here | apply Del.there))))))
  refine Dh.JH.nil ?_
  refine Dh.JB.nil ?_
  refine Dh.JL.nil ?_
  refine Jq.thenN ?_
  refine Jc.ret ?_
  exact Jq.fin (A8, c8) (.inl rfl) rfl (RetVs.cellA rfl (by repeat (first | exact Has.here | apply Has.there)) tsh24 (by rfl) RetVs.nil) rfl (by repeat (first | exact Take.nil | apply Take.cons (by repeat (first | exact Del.here | apply Del.there)))) (by repeat (first | exact trivial | refine And.intro (by repeat (first | exact Mem.here | apply Mem.there)) ?_))
theorem dsame_ct (A B : Option Addr) (c c' : Nat) (d d' : Dk) (hn : d.b.length ≤ 500000) (hn' : d'.b.length ≤ 500000) (hc : d.b.length ≤ c) (hc' : d'.b.length ≤ c') :
    Ct Try.prog 13 [d.v (A, c), d'.v (B, c')] [] [.rd A (u8s d.b), .rd B (u8s d'.b)] (fun _ : Unit => .bool (decide (d.own.b = d'.own.b ∧ d.own.s = d'.own.s ∧ d.own.r = d'.own.r))) (fun _ => []) (fun _ => []) := by
  refine Ct.of _ Try.func13 Try.ntmps13 rfl rfl (fun X W => ?_)
  refine Jc.seq ?_
  refine Jc.region ?_
  refine Jl.box rfl (by rfl) ?_
  intro b2
  refine Jl.box rfl (by rfl) ?_
  intro b3
  refine Jl.pv (PR.assign rfl) ?_
  refine Jl.nil ?_
  refine Jq.thenN ?_
  refine Jc.seq ?_
  refine Jc.drawn [0, 1, 0, 7, 15, 31] ([], []) [⟨[(0, false), (2, false)], [], 1⟩, ⟨[], [], 3⟩, ⟨[], [], 4⟩, ⟨[], [], 5⟩] tmx (by kernel_rfl) ?_
  refine Dh.JH.cons ?_
  refine Dh.JB.rd [.blk _ _ _] rfl trivial (by repeat (first | exact Take.nil | apply Take.cons (by repeat (first | exact Del.here | apply Del.there)))) (fun _ => PR.loadW rfl tsh24 Has.here (by rfl)) ?_
  refine Dh.JB.rd [.blk _ _ _] rfl trivial (by repeat (first | exact Take.nil | apply Take.cons (by repeat (first | exact Del.here | apply Del.there)))) (fun _ => PR.loadW rfl tsh24 Has.here (by rfl)) ?_
  refine Dh.JB.nil ?_
  refine Dh.JL.nil ?_
  refine Dh.JE.mk rfl (fun _ h => by cases h) (fun C1_1 => ?_)
  refine Jl.call (own_ct A c d hn hc) en10 (by rfl) (by repeat (first | exact Take.nil | apply Take.cons (by repeat (first | exact Del.here | apply Del.there)))) (by repeat (first | exact trivial | refine And.intro (by repeat (first | exact Mem.here | apply Mem.there)) ?_)) ?_
  rintro ⟨A6, c6⟩
  refine Jl.nil ?_
  refine Dh.Jq.segV (by repeat (first | exact Dh.FExt.refl | apply Dh.FExt.cons | apply Dh.FExt.app)) ?_ (by repeat (first | exact Dh.KeepL.nil | apply Dh.KeepL.anc (by rfl) | apply Dh.KeepL.keep (by repeat (first | exact Take.nil | apply Take.cons (by repeat (first | exact Del.here | apply Del.there))))))
  refine Dh.JH.cons ?_
  refine Dh.JB.nil ?_
  refine Dh.JL.nil ?_
  refine Dh.JE.mk rfl (fun _ h => by cases h) (fun C1_3 => ?_)
  refine Jl.call (own_ct B c' d' hn' hc') en10 (by rfl) (by repeat (first | exact Take.nil | apply Take.cons (by repeat (first | exact Del.here | apply Del.there)))) (by repeat (first | exact trivial | refine And.intro (by repeat (first | exact Mem.here | apply Mem.there)) ?_)) ?_
  rintro ⟨A8, c8⟩
  refine Jl.nil ?_
  refine Dh.Jq.segV (by repeat (first | exact Dh.FExt.refl | apply Dh.FExt.cons | apply Dh.FExt.app)) ?_ (by repeat (first | exact Dh.KeepL.nil | apply Dh.KeepL.anc (by rfl) | apply Dh.KeepL.keep (by repeat (first | exact Take.nil | apply Take.cons (by repeat (first | exact Del.here | apply Del.there))))))
  refine Dh.JH.cons ?_
  refine Dh.JB.nil ?_
  refine Dh.JL.nil ?_
  refine Dh.JE.mk rfl (fun _ h => by cases h) (fun C1_4 => ?_)
  refine Jl.storeW rfl tsh24 rfl (by rfl) (by simp [Value.oneCell']) (by repeat (first | exact Swap.here | apply Swap.there)) (by rfl) ?_
  refine Jl.nil ?_
  refine Dh.Jq.segN (by repeat (first | exact Dh.FExt.refl | apply Dh.FExt.cons | apply Dh.FExt.app)) ?_ (by repeat (first | exact Dh.KeepL.nil | apply Dh.KeepL.anc (by rfl) | apply Dh.KeepL.keep (by repeat (first | exact Take.nil | apply Take.cons (by repeat (first | exact Del.here | apply Del.there))))))
  refine Dh.JH.cons ?_
  refine Dh.JB.nil ?_
  refine Dh.JL.nil ?_
  refine Dh.JE.mk rfl (fun _ h => by cases h) (fun C1_5 => ?_)
  refine Jl.storeW rfl tsh24 rfl (by rfl) (by simp [Value.oneCell']) (by repeat (first | exact Swap.here | apply Swap.there)) (by rfl) ?_
  refine Jl.nil ?_
  refine Dh.Jq.segN (by repeat (first | exact Dh.FExt.refl | apply Dh.FExt.cons | apply Dh.FExt.app)) ?_ (by repeat (first | exact Dh.KeepL.nil | apply Dh.KeepL.anc (by rfl) | apply Dh.KeepL.keep (by repeat (first | exact Take.nil | apply Take.cons (by repeat (first | exact Del.here | apply Del.there))))))
  refine Dh.JH.nil ?_
  refine Dh.JB.nil ?_
  refine Dh.JL.nil ?_
  refine Jq.thenN ?_
  refine Jc.seq ?_
  refine Jc.region ?_
  refine Jl.sealR (by repeat (first | exact Del.here | apply Del.there)) ?_
  refine Jl.sealR (by repeat (first | exact Del.here | apply Del.there)) ?_
  refine Jl.pv (PR.fieldAddr rfl tfl24_0) ?_
  refine Jl.pv (PR.load1 rfl tsh22 (by repeat (first | exact Has.here | apply Has.there)) (by rfl)) ?_
  refine Jl.pv (PR.fieldAddr rfl tfl24_0) ?_
  refine Jl.pv (PR.load1 rfl tsh22 (by repeat (first | exact Has.here | apply Has.there)) (by rfl)) ?_
  refine Jl.call (equal_ct A6 A8 c6 c8 d.own.b d'.own.b) en30 (by rfl) (by repeat (first | exact Take.nil | apply Take.cons (by repeat (first | exact Del.here | apply Del.there)))) (by repeat (first | exact trivial | refine And.intro (by repeat (first | exact Mem.here | apply Mem.there)) ?_)) ?_
  rintro ⟨⟩
  refine Jl.pv (PR.move rfl) ?_
  refine Jl.bsplit (fun g14 => ?_) (fun g14 => ?_)
  · try replace g14 := of_decide_eq_true g14
    replace g14 : d.own.b = d'.own.b := by simpa using g14
    refine Jl.on rfl rfl ?_
    refine Jl.pv (PR.fieldAddr rfl tfl24_1) ?_
    refine Jl.on rfl rfl ?_
    refine Jl.pv (PR.load1 rfl tsh3 (by repeat (first | exact Has.here | apply Has.there)) (by rfl)) ?_
    refine Jl.on rfl rfl ?_
    refine Jl.pv (PR.fieldAddr rfl tfl24_1) ?_
    refine Jl.on rfl rfl ?_
    refine Jl.pv (PR.load1 rfl tsh3 (by repeat (first | exact Has.here | apply Has.there)) (by rfl)) ?_
    refine Jl.on rfl rfl ?_
    refine Jl.pv (PR.eql _ rfl rfl rfl) ?_
    refine Jl.pv (PR.pickT rfl rfl) ?_
    refine Jl.pv (PR.move rfl) ?_
    refine Jl.bsplit (fun g21 => ?_) (fun g21 => ?_)
    · try replace g21 := of_decide_eq_true g21
      refine Jl.on rfl rfl ?_
      refine Jl.pv (PR.fieldAddr rfl tfl24_2) ?_
      refine Jl.on rfl rfl ?_
      refine Jl.pv (PR.load1 rfl tsh3 (by repeat (first | exact Has.here | apply Has.there)) (by rfl)) ?_
      refine Jl.on rfl rfl ?_
      refine Jl.pv (PR.fieldAddr rfl tfl24_2) ?_
      refine Jl.on rfl rfl ?_
      refine Jl.pv (PR.load1 rfl tsh3 (by repeat (first | exact Has.here | apply Has.there)) (by rfl)) ?_
      refine Jl.on rfl rfl ?_
      refine Jl.pv (PR.eql _ rfl rfl rfl) ?_
      refine Jl.pv (PR.pickT rfl rfl) ?_
      refine Jl.pv (PR.assign rfl) ?_
      refine Jl.nil ?_
      refine Jq.thenN ?_
      refine Jc.ret ?_
      exact Jq.fin () (.inl rfl) rfl (RetVs.tmp rfl RetVs.nil) (by simp [retval, g21, g14]) (by repeat (first | exact Take.nil | apply Take.cons (by repeat (first | exact Del.here | apply Del.there)))) (by repeat (first | exact trivial | refine And.intro (by repeat (first | exact Mem.here | apply Mem.there)) ?_))
    · try replace g21 := of_decide_eq_false g21
      refine Jl.off rfl rfl rfl rfl ?_
      refine Jl.off rfl rfl rfl rfl ?_
      refine Jl.off rfl rfl rfl rfl ?_
      refine Jl.off rfl rfl rfl rfl ?_
      refine Jl.off rfl rfl rfl rfl ?_
      refine Jl.pv (PR.pickF rfl rfl) ?_
      refine Jl.pv (PR.assign rfl) ?_
      refine Jl.nil ?_
      refine Jq.thenN ?_
      refine Jc.ret ?_
      exact Jq.fin () (.inl rfl) rfl (RetVs.tmp rfl RetVs.nil) (by simp [retval, g21]) (by repeat (first | exact Take.nil | apply Take.cons (by repeat (first | exact Del.here | apply Del.there)))) (by repeat (first | exact trivial | refine And.intro (by repeat (first | exact Mem.here | apply Mem.there)) ?_))
  · try replace g14 := of_decide_eq_false g14
    refine Jl.off rfl rfl rfl rfl ?_
    refine Jl.off rfl rfl rfl rfl ?_
    refine Jl.off rfl rfl rfl rfl ?_
    refine Jl.off rfl rfl rfl rfl ?_
    refine Jl.off rfl rfl rfl rfl ?_
    refine Jl.pv (PR.pickF rfl rfl) ?_
    refine Jl.pv (PR.move rfl) ?_
    refine Jl.off rfl rfl rfl rfl ?_
    refine Jl.off rfl rfl rfl rfl ?_
    refine Jl.off rfl rfl rfl rfl ?_
    refine Jl.off rfl rfl rfl rfl ?_
    refine Jl.off rfl rfl rfl rfl ?_
    refine Jl.pv (PR.pickF rfl rfl) ?_
    refine Jl.pv (PR.assign rfl) ?_
    refine Jl.nil ?_
    refine Jq.thenN ?_
    refine Jc.ret ?_
    have h14 : ¬ d.own.b = d'.own.b := by simpa using g14
    exact Jq.fin () (.inl rfl) rfl (RetVs.tmp rfl RetVs.nil) (by simp [retval, h14]) (by repeat (first | exact Take.nil | apply Take.cons (by repeat (first | exact Del.here | apply Del.there)))) (by repeat (first | exact trivial | refine And.intro (by repeat (first | exact Mem.here | apply Mem.there)) ?_))
end Go.Proofs.Ythlmleemapeohaa
