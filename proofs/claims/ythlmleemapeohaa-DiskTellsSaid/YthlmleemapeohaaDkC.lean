/-
Contracts of herd/disk: Append, Swap.
-/
import Derived.Test.YthlmleemapeohaaDkB
namespace Go.Proofs.Ythlmleemapeohaa
set_option linter.unusedVariables false
open Go.RowKit
attribute [local irreducible] Res.blk Res.row Fact.rd
theorem Ct.pre_of {P : Program} {f : FuncId} {args : List Value} {Rin : List Res} {pre pre' : List Fact} {α : Type} {res : α → Value} {Rout : α → List Res} {post : α → List Fact} (h : Ct P f args Rin pre res Rout post) (k : ∀ X W, (∀ φ ∈ pre', φ.p X W) → ∀ φ ∈ pre, φ.p X W) : Ct P f args Rin pre' res Rout post :=
  fun X W hX hs hp => h X W hX hs (k _ W hp)
theorem ps_of {zs : Ps} {L : Option Addr} : ∀ X W, (∀ φ ∈ (Fact.rd L (psv zs) :: zs.map fun z => Fact.rd z.1.1 (u8s z.2)), φ.p X W) → ∀ φ ∈ [Fact.rd L (psv zs), .ps zs], φ.p X W := fun X W h φ hφ => by
  rcases List.mem_cons.1 hφ with rfl | hφ
  · exact h _ (List.mem_cons_self ..)
  · obtain rfl : φ = _ := by simpa using hφ
    intro z hz
    exact h _ (List.mem_cons_of_mem _ (List.mem_map.2 ⟨z, hz, rfl⟩))
theorem flat2 (x y : OAd) (a b : List UInt8) : flat [(x, a), (y, b)] = a ++ b := by simp [flat]
theorem flat1 (x : OAd) (a : List UInt8) : flat [(x, a)] = a := by simp [flat]
theorem append_ct (A B : Option Addr) (c c' : Nat) (d : Dk) (b : List UInt8) (hn : d.b.length ≤ 500000) (hc : d.b.length ≤ c) (hb : b.length ≤ 100000) :
    Ct Try.prog 11 [d.v (A, c), .slice B b.length c'] [] [.rd A (u8s d.b), .rd B (u8s b)] (fun x => .tuple #[(d.app b).v x, .int .i64 (d.appE b)]) (fun x => [(d.app b).row x]) (fun _ => []) := by
  have hl : d.own.b.length ≤ d.b.length := by simp [Dk.own]; omega
  have hfo := d.own_fit
  by_cases hfit : d.fits b
  · have e1 : d.app b = ⟨d.own.b ++ b, d.own.s, d.own.r⟩ := if_pos hfit
    have e2 : d.appE b = 0 := if_pos hfit
    rw [e1, e2]
    refine Ct.of _ Try.func11 Try.ntmps11 rfl rfl (fun X W => ?_)
    refine Jc.seq ?_
    refine Jc.region ?_
    refine Jl.box rfl (by rfl) ?_
    intro b2
    refine Jl.alloc tze24 ?_
    intro b4
    refine Jl.pv (PR.assign rfl) ?_
    refine Jl.nil ?_
    refine Jq.thenN ?_
    refine Jc.seq ?_
    refine Jc.region ?_
    refine Jl.pv (PR.loadW rfl tsh24 (by repeat (first | exact Has.here | apply Has.there)) (by rfl)) ?_
    refine Jl.call (own_ct A c d hn hc) en10 (by rfl) (by repeat (first | exact Take.nil | apply Take.cons (by repeat (first | exact Del.here | apply Del.there)))) (by repeat (first | exact trivial | refine And.intro (by repeat (first | exact Mem.here | apply Mem.there)) ?_)) ?_
    rintro ⟨A7, c7⟩
    refine Jl.storeW rfl tsh24 rfl (by rfl) (by simp [Value.oneCell']) (by repeat (first | exact Swap.here | apply Swap.there)) (by rfl) ?_
    refine Jl.nil ?_
    refine Jq.thenN ?_
    refine Jc.seq ?_
    refine Jc.region ?_
    refine Jl.pv (PR.loadW rfl tsh24 (by repeat (first | exact Has.here | apply Has.there)) (by rfl)) ?_
    refine Jl.pv (PR.fieldAddr rfl tfl24_1) ?_
    refine Jl.pv (PR.load1 rfl tsh3 (by repeat (first | exact Has.here | apply Has.there)) (by rfl)) ?_
    refine Jl.pv (PR.fieldAddr rfl tfl24_0) ?_
    refine Jl.pv (PR.load1 rfl tsh22 (by repeat (first | exact Has.here | apply Has.there)) (by rfl)) ?_
    refine Jl.pv (PR.move rfl) ?_
    refine Jl.buildSlice (by rfl) tsl25 tzr25_2 (by rfl) (by rfl) ?_
    intro b14
    have hct := (put_fit A7 (some ⟨b14, 0, none⟩) c7 2 d.own d.own.s [((A7, c7), d.own.b), ((B, c'), b)] (by omega) (by simp) (by rw [flat2]; simp; omega) (by rw [flat2]; exact hfit)).pre_of ps_of
    rw [flat2] at hct
    refine Jl.calll (fs := []) (cs := []) hct en29 rfl (by rfl) (by rfl) (by repeat (first | exact Take.nil | apply Take.cons (by repeat (first | exact Del.here | apply Del.there)))) (ls := [.blk b14 22 [.slice A7 d.own.b.length c7, .slice B b.length c'], d.own.row (A7, c7)]) (by repeat (first | exact Take.nil | apply Take.cons (by repeat (first | exact Del.here | apply Del.there)))) (by repeat (first | exact Lends.nil | apply Lends.row | apply Lends.blk)) (by repeat (first | exact trivial | refine And.intro (by repeat (first | exact Mem.here | apply Mem.there)) ?_)) ?_
    rintro ⟨A15, c15⟩
    refine Jl.pv (PR.extract rfl (by rfl)) ?_
    refine Jl.pv (PR.extract rfl (by rfl)) ?_
    refine Jl.storeW rfl tsh24 rfl (by rfl) (by simp [Value.oneCell']) (by repeat (first | exact Swap.here | apply Swap.there)) (by rfl) ?_
    refine Jl.pv (PR.assign rfl) ?_
    refine Jl.nil ?_
    refine Jq.thenN ?_
    refine Jc.ret ?_
    exact Jq.fin (A15, c15) (.inl rfl) rfl (RetVs.cellA rfl (by repeat (first | exact Has.here | apply Has.there)) tsh24 (by rfl) (RetVs.tmp rfl RetVs.nil)) rfl (by repeat (first | exact Take.nil | apply Take.cons (by repeat (first | exact Del.here | apply Del.there)))) (by repeat (first | exact trivial | refine And.intro (by repeat (first | exact Mem.here | apply Mem.there)) ?_))
  · have e1 : d.app b = d.own := if_neg hfit
    have e2 : d.appE b = 30 := if_neg hfit
    rw [e1, e2]
    refine Ct.of _ Try.func11 Try.ntmps11 rfl rfl (fun X W => ?_)
    refine Jc.seq ?_
    refine Jc.region ?_
    refine Jl.box rfl (by rfl) ?_
    intro b2
    refine Jl.alloc tze24 ?_
    intro b4
    refine Jl.pv (PR.assign rfl) ?_
    refine Jl.nil ?_
    refine Jq.thenN ?_
    refine Jc.seq ?_
    refine Jc.region ?_
    refine Jl.pv (PR.loadW rfl tsh24 (by repeat (first | exact Has.here | apply Has.there)) (by rfl)) ?_
    refine Jl.call (own_ct A c d hn hc) en10 (by rfl) (by repeat (first | exact Take.nil | apply Take.cons (by repeat (first | exact Del.here | apply Del.there)))) (by repeat (first | exact trivial | refine And.intro (by repeat (first | exact Mem.here | apply Mem.there)) ?_)) ?_
    rintro ⟨A7, c7⟩
    refine Jl.storeW rfl tsh24 rfl (by rfl) (by simp [Value.oneCell']) (by repeat (first | exact Swap.here | apply Swap.there)) (by rfl) ?_
    refine Jl.nil ?_
    refine Jq.thenN ?_
    refine Jc.seq ?_
    refine Jc.region ?_
    refine Jl.pv (PR.loadW rfl tsh24 (by repeat (first | exact Has.here | apply Has.there)) (by rfl)) ?_
    refine Jl.pv (PR.fieldAddr rfl tfl24_1) ?_
    refine Jl.pv (PR.load1 rfl tsh3 (by repeat (first | exact Has.here | apply Has.there)) (by rfl)) ?_
    refine Jl.pv (PR.fieldAddr rfl tfl24_0) ?_
    refine Jl.pv (PR.load1 rfl tsh22 (by repeat (first | exact Has.here | apply Has.there)) (by rfl)) ?_
    refine Jl.pv (PR.move rfl) ?_
    refine Jl.buildSlice (by rfl) tsl25 tzr25_2 (by rfl) (by rfl) ?_
    intro b14
    have hct := (put_full A7 (some ⟨b14, 0, none⟩) c7 2 d.own d.own.s [((A7, c7), d.own.b), ((B, c'), b)] (by omega) (by simp) (by rw [flat2]; simp; omega) (by rw [flat2]; exact hfit)).pre_of ps_of
    refine Jl.calll (fs := []) (cs := []) hct en29 rfl (by rfl) (by rfl) (by repeat (first | exact Take.nil | apply Take.cons (by repeat (first | exact Del.here | apply Del.there)))) (ls := [.blk b14 22 [.slice A7 d.own.b.length c7, .slice B b.length c'], d.own.row (A7, c7)]) (by repeat (first | exact Take.nil | apply Take.cons (by repeat (first | exact Del.here | apply Del.there)))) (by repeat (first | exact Lends.nil | apply Lends.row | apply Lends.blk)) (by repeat (first | exact trivial | refine And.intro (by repeat (first | exact Mem.here | apply Mem.there)) ?_)) ?_
    rintro ⟨⟩
    refine Jl.pv (PR.extract rfl (by rfl)) ?_
    refine Jl.pv (PR.extract rfl (by rfl)) ?_
    refine Jl.storeW rfl tsh24 rfl (by rfl) (by simp [Value.oneCell']) (by repeat (first | exact Swap.here | apply Swap.there)) (by rfl) ?_
    refine Jl.pv (PR.assign rfl) ?_
    refine Jl.nil ?_
    refine Jq.thenN ?_
    refine Jc.ret ?_
    exact Jq.fin (A7, c7) (.inl rfl) rfl (RetVs.cellA rfl (by repeat (first | exact Has.here | apply Has.there)) tsh24 (by rfl) (RetVs.tmp rfl RetVs.nil)) rfl (by repeat (first | exact Take.nil | apply Take.cons (by repeat (first | exact Del.here | apply Del.there)))) (by repeat (first | exact trivial | refine And.intro (by repeat (first | exact Mem.here | apply Mem.there)) ?_))
theorem swap_ct (A B : Option Addr) (c c' : Nat) (d : Dk) (b : List UInt8) (hn : d.b.length ≤ 500000) (hc : d.b.length ≤ c) (hb : b.length ≤ 100000) :
    Ct Try.prog 17 [d.v (A, c), .slice B b.length c'] [] [.rd A (u8s d.b), .rd B (u8s b)] (fun x => .tuple #[(d.swap b).v x, .int .i64 (d.swapE b)]) (fun x => [(d.swap b).row x]) (fun _ => []) := by
  have hl : d.own.b.length ≤ d.b.length := by simp [Dk.own]; omega
  have hfo := d.own_fit
  by_cases hfit : (b.length : Int) ≤ d.own.r
  · have e1 : d.swap b = ⟨b, b.length, d.own.r⟩ := if_pos hfit
    have e2 : d.swapE b = 0 := if_pos hfit
    rw [e1, e2]
    refine Ct.of _ Try.func17 Try.ntmps17 rfl rfl (fun X W => ?_)
    refine Jc.seq ?_
    refine Jc.region ?_
    refine Jl.box rfl (by rfl) ?_
    intro b2
    refine Jl.alloc tze24 ?_
    intro b4
    refine Jl.pv (PR.assign rfl) ?_
    refine Jl.nil ?_
    refine Jq.thenN ?_
    refine Jc.seq ?_
    refine Jc.region ?_
    refine Jl.pv (PR.loadW rfl tsh24 (by repeat (first | exact Has.here | apply Has.there)) (by rfl)) ?_
    refine Jl.call (own_ct A c d hn hc) en10 (by rfl) (by repeat (first | exact Take.nil | apply Take.cons (by repeat (first | exact Del.here | apply Del.there)))) (by repeat (first | exact trivial | refine And.intro (by repeat (first | exact Mem.here | apply Mem.there)) ?_)) ?_
    rintro ⟨A7, c7⟩
    refine Jl.pv (PR.move rfl) ?_
    refine Jl.pv (PR.len rfl tsl22) ?_
    refine Jl.pv (PR.move rfl) ?_
    refine Jl.buildSlice (by rfl) tsl25 tzr25_1 (by rfl) (by rfl) ?_
    intro b11
    have hct := (put_fit A7 (some ⟨b11, 0, none⟩) c7 1 d.own b.length [((B, c'), b)] (by omega) (by simp) (by rw [flat1]; omega) (by rw [flat1]; exact hfit)).pre_of ps_of
    rw [flat1] at hct
    refine Jl.calll (fs := []) (cs := []) hct en29 rfl (by rfl) (by rfl) (by repeat (first | exact Take.nil | apply Take.cons (by repeat (first | exact Del.here | apply Del.there)))) (ls := [.blk b11 22 [.slice B b.length c']]) (by repeat (first | exact Take.nil | apply Take.cons (by repeat (first | exact Del.here | apply Del.there)))) (by repeat (first | exact Lends.nil | apply Lends.row | apply Lends.blk)) (by repeat (first | exact trivial | refine And.intro (by repeat (first | exact Mem.here | apply Mem.there)) ?_)) ?_
    rintro ⟨A12, c12⟩
    refine Jl.pv (PR.extract rfl (by rfl)) ?_
    refine Jl.pv (PR.extract rfl (by rfl)) ?_
    refine Jl.storeW rfl tsh24 rfl (by rfl) (by simp [Value.oneCell']) (by repeat (first | exact Swap.here | apply Swap.there)) (by rfl) ?_
    refine Jl.pv (PR.assign rfl) ?_
    refine Jl.nil ?_
    refine Jq.thenN ?_
    refine Jc.ret ?_
    exact Jq.fin (A12, c12) (.inl rfl) rfl (RetVs.cellA rfl (by repeat (first | exact Has.here | apply Has.there)) tsh24 (by rfl) (RetVs.tmp rfl RetVs.nil)) rfl (by repeat (first | exact Take.nil | apply Take.cons (by repeat (first | exact Del.here | apply Del.there)))) (by repeat (first | exact trivial | refine And.intro (by repeat (first | exact Mem.here | apply Mem.there)) ?_))
  · have e1 : d.swap b = d.own := if_neg hfit
    have e2 : d.swapE b = 30 := if_neg hfit
    rw [e1, e2]
    refine Ct.of _ Try.func17 Try.ntmps17 rfl rfl (fun X W => ?_)
    refine Jc.seq ?_
    refine Jc.region ?_
    refine Jl.box rfl (by rfl) ?_
    intro b2
    refine Jl.alloc tze24 ?_
    intro b4
    refine Jl.pv (PR.assign rfl) ?_
    refine Jl.nil ?_
    refine Jq.thenN ?_
    refine Jc.seq ?_
    refine Jc.region ?_
    refine Jl.pv (PR.loadW rfl tsh24 (by repeat (first | exact Has.here | apply Has.there)) (by rfl)) ?_
    refine Jl.call (own_ct A c d hn hc) en10 (by rfl) (by repeat (first | exact Take.nil | apply Take.cons (by repeat (first | exact Del.here | apply Del.there)))) (by repeat (first | exact trivial | refine And.intro (by repeat (first | exact Mem.here | apply Mem.there)) ?_)) ?_
    rintro ⟨A7, c7⟩
    refine Jl.pv (PR.move rfl) ?_
    refine Jl.pv (PR.len rfl tsl22) ?_
    refine Jl.pv (PR.move rfl) ?_
    refine Jl.buildSlice (by rfl) tsl25 tzr25_1 (by rfl) (by rfl) ?_
    intro b11
    have hct := (put_full A7 (some ⟨b11, 0, none⟩) c7 1 d.own b.length [((B, c'), b)] (by omega) (by simp) (by rw [flat1]; omega) (by rw [flat1]; exact hfit)).pre_of ps_of
    refine Jl.calll (fs := []) (cs := []) hct en29 rfl (by rfl) (by rfl) (by repeat (first | exact Take.nil | apply Take.cons (by repeat (first | exact Del.here | apply Del.there)))) (ls := [.blk b11 22 [.slice B b.length c']]) (by repeat (first | exact Take.nil | apply Take.cons (by repeat (first | exact Del.here | apply Del.there)))) (by repeat (first | exact Lends.nil | apply Lends.row | apply Lends.blk)) (by repeat (first | exact trivial | refine And.intro (by repeat (first | exact Mem.here | apply Mem.there)) ?_)) ?_
    rintro ⟨⟩
    refine Jl.pv (PR.extract rfl (by rfl)) ?_
    refine Jl.pv (PR.extract rfl (by rfl)) ?_
    refine Jl.storeW rfl tsh24 rfl (by rfl) (by simp [Value.oneCell']) (by repeat (first | exact Swap.here | apply Swap.there)) (by rfl) ?_
    refine Jl.pv (PR.assign rfl) ?_
    refine Jl.nil ?_
    refine Jq.thenN ?_
    refine Jc.ret ?_
    exact Jq.fin (A7, c7) (.inl rfl) rfl (RetVs.cellA rfl (by repeat (first | exact Has.here | apply Has.there)) tsh24 (by rfl) (RetVs.tmp rfl RetVs.nil)) rfl (by repeat (first | exact Take.nil | apply Take.cons (by repeat (first | exact Del.here | apply Del.there)))) (by repeat (first | exact trivial | refine And.intro (by repeat (first | exact Mem.here | apply Mem.there)) ?_))
end Go.Proofs.Ythlmleemapeohaa
