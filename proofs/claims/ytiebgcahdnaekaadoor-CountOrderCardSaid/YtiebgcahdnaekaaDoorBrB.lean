/-
Contracts of counts: Zones, Full; of brains: Great, Right, Own.
-/
import Derived.Test.YtiebgcahdnaekaaDoorBrA
import Derived.Test.YtiebgcahdnaekaaDoorBrQ
import Derived.Test.YtiebgcahdnaekaaDoorCfR1
namespace Go.Proofs.YtiebgcahdnaekaaDoor
set_option linter.unusedVariables false
open Go.RowKit
attribute [local irreducible] Res.blk Res.row Fact.rd
theorem great_ct (b : Br) (z : BrA) : Ct Tryd.prog 7 [b.v z] [] [] (fun _ : Unit => .bool b.great) (fun _ => []) (fun _ => []) := by
  refine Ct.of _ Tryd.func7 Tryd.ntmps7 rfl rfl (fun X W => ?_)
  refine Jc.seq ?_
  refine Jc.region ?_
  refine Jl.box rfl (by rfl) ?_
  intro b1
  refine Jl.pv (PR.assign rfl) ?_
  refine Jl.nil ?_
  refine Jq.thenN ?_
  refine Jc.seq ?_
  refine Jc.region ?_
  refine Jl.pv (PR.fieldAddr rfl tfl30_4) ?_
  refine Jl.pv (PR.load1 rfl tsh25 (by repeat (first | exact Has.here | apply Has.there)) (by rfl)) ?_
  refine Jl.pv (PR.len rfl tsl25) ?_
  refine Jl.pv (PR.gtr _ rfl rfl rfl) ?_
  refine Jl.pv (PR.move rfl) ?_
  refine Jl.bsplit (fun g7 => ?_) (fun g7 => ?_)
  · try replace g7 := of_decide_eq_true g7
    refine Jl.offS rfl rfl rfl ?_
    refine Jl.offS rfl rfl rfl ?_
    refine Jl.offS rfl rfl rfl ?_
    refine Jl.offS rfl rfl rfl ?_
    refine Jl.pv (PR.pickT rfl rfl) ?_
    refine Jl.pv (PR.move rfl) ?_
    refine Jl.offS rfl rfl rfl ?_
    refine Jl.offS rfl rfl rfl ?_
    refine Jl.offS rfl rfl rfl ?_
    refine Jl.offS rfl rfl rfl ?_
    refine Jl.offS rfl rfl rfl ?_
    refine Jl.pv (PR.pickT rfl rfl) ?_
    refine Jl.pv (PR.assign rfl) ?_
    refine Jl.nil ?_
    refine Jq.thenN ?_
    refine Jc.ret ?_
    exact Jq.fin () (.inl rfl) rfl (RetVs.tmp rfl RetVs.nil) (congrArg Value.bool (show b.great = _ by rw [Bool.eq_iff_iff]; simp_all [Br.great] <;> omega)) (by repeat (first | exact Take.nil | apply Take.cons (by repeat (first | exact Del.here | apply Del.there)))) (by repeat (first | exact trivial | refine And.intro (by repeat (first | exact Mem.here | apply Mem.there)) ?_))
  · try replace g7 := of_decide_eq_false g7
    refine Jl.on rfl rfl ?_
    refine Jl.pv (PR.fieldAddr rfl tfl30_5) ?_
    refine Jl.on rfl rfl ?_
    refine Jl.pv (PR.load1 rfl tsh26 (by repeat (first | exact Has.here | apply Has.there)) (by rfl)) ?_
    refine Jl.on rfl rfl ?_
    refine Jl.pv (PR.len rfl tsl26) ?_
    refine Jl.on rfl rfl ?_
    refine Jl.pv (PR.gtr _ rfl rfl rfl) ?_
    refine Jl.pv (PR.pickF rfl rfl) ?_
    refine Jl.pv (PR.move rfl) ?_
    refine Jl.bsplit (fun g13 => ?_) (fun g13 => ?_)
    · try replace g13 := of_decide_eq_true g13
      refine Jl.offS rfl rfl rfl ?_
      refine Jl.offS rfl rfl rfl ?_
      refine Jl.offS rfl rfl rfl ?_
      refine Jl.offS rfl rfl rfl ?_
      refine Jl.offS rfl rfl rfl ?_
      refine Jl.pv (PR.pickT rfl rfl) ?_
      refine Jl.pv (PR.assign rfl) ?_
      refine Jl.nil ?_
      refine Jq.thenN ?_
      refine Jc.ret ?_
      exact Jq.fin () (.inl rfl) rfl (RetVs.tmp rfl RetVs.nil) (congrArg Value.bool (show b.great = _ by rw [Bool.eq_iff_iff]; simp_all [Br.great] <;> omega)) (by repeat (first | exact Take.nil | apply Take.cons (by repeat (first | exact Del.here | apply Del.there)))) (by repeat (first | exact trivial | refine And.intro (by repeat (first | exact Mem.here | apply Mem.there)) ?_))
    · try replace g13 := of_decide_eq_false g13
      refine Jl.on rfl rfl ?_
      refine Jl.pv (PR.fieldAddr rfl tfl30_3) ?_
      refine Jl.on rfl rfl ?_
      refine Jl.pv (PR.fieldAddr rfl tfl24_14) ?_
      refine Jl.on rfl rfl ?_
      refine Jl.pv (PR.load1 rfl tsh22 (by repeat (first | exact Has.here | apply Has.there)) (by rfl)) ?_
      refine Jl.on rfl rfl ?_
      refine Jl.pv (PR.len rfl tsl22) ?_
      refine Jl.on rfl rfl ?_
      refine Jl.pv (PR.gtr _ rfl rfl rfl) ?_
      refine Jl.pv (PR.pickF rfl rfl) ?_
      refine Jl.pv (PR.assign rfl) ?_
      refine Jl.nil ?_
      refine Jq.thenN ?_
      refine Jc.ret ?_
      exact Jq.fin () (.inl rfl) rfl (RetVs.tmp rfl RetVs.nil) (congrArg Value.bool (show b.great = _ by rw [Bool.eq_iff_iff]; simp_all [Br.great] <;> omega)) (by repeat (first | exact Take.nil | apply Take.cons (by repeat (first | exact Del.here | apply Del.there)))) (by repeat (first | exact trivial | refine And.intro (by repeat (first | exact Mem.here | apply Mem.there)) ?_))
  -- hint not used: one
theorem full_ct (b : Br) (z : BrA) (hn : b.its.length ≤ 1000) (hm : b.kps.length ≤ 1000) (hms : b.cf.ms.length ≤ 1000) : Ct Tryd.prog 13 [b.v z] [] (b.rd z ++ [.lim]) (fun _ : Unit => .bool (decide (b.cf.bnd ≤ (b.cnt 0 : Nat)))) (fun _ => []) (fun _ => []) := by
  refine Ct.of _ Tryd.func13 Tryd.ntmps13 rfl rfl (fun X W => ?_)
  refine Jc.seq ?_
  refine Jc.region ?_
  refine Jl.box rfl (by rfl) ?_
  intro b1
  refine Jl.pv (PR.assign rfl) ?_
  refine Jl.nil ?_
  refine Jq.thenN ?_
  refine Jc.seq ?_
  refine Jc.region ?_
  refine Jl.pv (PR.loadW rfl tsh30 (by repeat (first | exact Has.here | apply Has.there)) (by rfl)) ?_
  refine Jl.call (countof_ct b z hn hm hms) en10 (by rfl) (by repeat (first | exact Take.nil | apply Take.cons (by repeat (first | exact Del.here | apply Del.there)))) (by repeat (first | exact trivial | refine And.intro (by repeat (first | exact Mem.here | apply Mem.there)) ?_)) ?_
  rintro ⟨⟩
  refine Jl.alloc tze34 ?_
  intro b3
  refine Jl.storeW rfl tsh34 rfl (by rfl) (by first | exact Br.cs_one _ _ | simp [Value.oneCell', Br.counts]) (by repeat (first | exact Swap.here | apply Swap.there)) (by rfl) ?_
  refine Jl.nil ?_
  refine Jq.thenN ?_
  refine Jc.seq ?_
  refine Jc.region ?_
  refine Jl.pv (PR.fieldAddr rfl tfl34_4) ?_
  refine Jl.pv (PR.load1 rfl tsh3 (by repeat (first | exact Has.here | apply Has.there)) (by rfl)) ?_
  refine Jl.pv (PR.fieldAddr rfl tfl34_8) ?_
  refine Jl.pv (PR.load1 rfl tsh3 (by repeat (first | exact Has.here | apply Has.there)) (by rfl)) ?_
  refine Jl.pv (PR.geq _ rfl rfl rfl) ?_
  refine Jl.pv (PR.assign rfl) ?_
  refine Jl.nil ?_
  refine Jq.thenN ?_
  refine Jc.ret ?_
  exact Jq.fin () (.inl rfl) rfl (RetVs.tmp rfl RetVs.nil) rfl (by repeat (first | exact Take.nil | apply Take.cons (by repeat (first | exact Del.here | apply Del.there)))) (by repeat (first | exact trivial | refine And.intro (by repeat (first | exact Mem.here | apply Mem.there)) ?_))
abbrev Zn := { _k : Nat // True } × AdC
theorem zones_ct (b : Br) (z : BrA) (hn : b.its.length ≤ 1000) (hm : b.kps.length ≤ 1000) : Ct Tryd.prog 12 [b.v z] [] (b.rd z) (fun x : AdC => .slice x.1 b.zones.length x.2) (fun x => [.row 3 1 (.slice x.1 b.zones.length x.2) b.zones.length (i64s b.zones)]) (fun _ => []) := by
  have hol := b.ones_len
  have hz := b.zones_len
  have hc := b.cnt_le 2
  refine Ct.of _ Tryd.func12 Tryd.ntmps12 rfl rfl (fun X W => ?_)
  refine Jc.seq ?_
  refine Jc.region ?_
  refine Jl.box rfl (by rfl) ?_
  intro b1
  refine Jl.alloc tze22 ?_
  intro b2
  refine Jl.nil ?_
  refine Jq.thenN ?_
  refine Jc.seq ?_
  refine Jc.seq ?_
  refine Jc.region ?_
  refine Jl.pv (PR.loadW rfl tsh30 (by repeat (first | exact Has.here | apply Has.there)) (by rfl)) ?_
  refine Jl.call (ones_ct b z) en29 (by rfl) (by repeat (first | exact Take.nil | apply Take.cons (by repeat (first | exact Del.here | apply Del.there)))) (by repeat (first | exact trivial | refine And.intro (by repeat (first | exact Mem.here | apply Mem.there)) ?_)) ?_
  rintro b5
  refine Jl.nil ?_
  refine Jq.thenN ?_
  refine Jc.block ?_
  refine Jc.nilRow 3 1 ?_
  refine Jc.range (σ := (k : Nat) × AdC) (τ := Empty) (Inv := fun k s => s.1 = k) (Rs := fun s => [.row 3 1 (.slice s.2.1 (b.zonesK s.1).length s.2.2) (b.zonesK s.1).length (i64s (b.zonesK s.1)), .blk b2 22 [.slice s.2.1 (b.zonesK s.1).length s.2.2], .blk b1 30 (b.cs z)]) (Φs := fun _ => b.rd z) (InvX := fun _ _ x => x.elim) (RsX := fun x => x.elim) (ΦsX := fun x => x.elim) (vals := onY b.ones) rfl en41 (ones1_it b z b5 (by omega) (by omega)) (by repeat (first | exact Take.nil | apply Take.cons (by repeat (first | exact Del.here | apply Del.there)))) (by repeat (first | exact trivial | refine And.intro (by repeat (first | exact Mem.here | apply Mem.there)) ?_)) (fun _ => rfl) rfl ⟨0, none, 0⟩ rfl rfl (by repeat (first | exact trivial | refine And.intro (by repeat (first | exact Mem.here | apply Mem.there)) ?_)) ?_ ?_ ?_
  · rintro k ⟨j, A', c'⟩ hk hj l C1
    obtain rfl : j = k := hj
    rw [onY_at hk]
    have hzl := zonesK_len b j
    show Jc _ _ _ _ _ _ (psetL [6] [b.ones[j].v] _) [.row 3 1 (.slice A' (b.zonesK j).length c') (b.zonesK j).length (i64s (b.zonesK j)), .blk b2 22 [.slice A' (b.zonesK j).length c'], .blk b1 30 (b.cs z)] (b.rd z)
    refine Jc.region ?_
    refine Jl.alloc tze55 ?_
    intro b3
    refine Jl.storeW rfl tsh55 rfl (by rfl) (by first | exact Br.cs_one _ _ | simp [Value.oneCell', On.cs]) (by repeat (first | exact Swap.here | apply Swap.there)) (by rfl) ?_
    refine Jl.nil ?_
    refine Jq.assigned (fun C2 => ?_)
    refine Jc.block ?_
    refine Jc.seq ?_
    refine Jc.region ?_
    refine Jl.pv (PR.fieldAddr rfl tfl55_2) ?_
    refine Jl.pv (PR.load1 rfl tsh4 (by repeat (first | exact Has.here | apply Has.there)) (by rfl)) ?_
    refine Jl.nil ?_
    refine Jq.thenN ?_
    refine Jc.cond rfl (fun h0 => ?_) (fun h0 => ?_)
    · try replace h0 := of_decide_eq_true h0
      have hz1 := zonesK_yes hk h0
      refine Jc.region ?_
      refine Jl.pv (PR.load1 rfl tsh22 (by repeat (first | exact Has.here | apply Has.there)) (by rfl)) ?_
      refine Jl.pv (PR.fieldAddr rfl tfl55_0) ?_
      refine Jl.pv (PR.load1 rfl tsh3 (by repeat (first | exact Has.here | apply Has.there)) (by rfl)) ?_
      refine Jl.buildSlice (by rfl) tsl22 tzr22_1 (by rfl) (by rfl) ?_
      intro b12
      refine Jl.seal (by repeat (first | exact Del.here | apply Del.there)) ?_
      refine Jl.append (b.zonesK (j + 1)).length (i64s (b.zonesK (j + 1))) rfl rfl rfl tsl22 tze3 (by rfl) (by decide) tby3 (fun _ _ => (by repeat (first | exact Swap.here | apply Swap.there))) (by repeat (first | exact Mem.here | apply Mem.there)) (by rw [hz1]; simp) (by rw [hz1]; simp [i64s]) (by simp [i64s]) (by simp [i64s, Value.oneCell']) (by omega) (by decide) ?_
      intro A13 c13
      refine Jl.store1 rfl tsh22 rfl (by rfl) (by repeat (first | exact Swap.here | apply Swap.there)) (by rfl) ?_
      refine Jl.nil ?_
      refine Jq.blkN ?_
      refine Jq.lessR (rs := [.row 3 1 (.slice A13 (b.zonesK (j + 1)).length c13) (b.zonesK (j + 1)).length (i64s (b.zonesK (j + 1))), .blk b2 22 [.slice A13 (b.zonesK (j + 1)).length c13], .blk b1 30 (b.cs z)]) (by repeat (first | exact Take.nil | apply Take.cons (by repeat (first | exact Del.here | apply Del.there)))) ?_
      exact Jq.next ⟨j + 1, A13, c13⟩ rfl rfl (by repeat (first | exact trivial | refine And.intro (by repeat (first | exact Mem.here | apply Mem.there)) ?_))
    · try replace h0 := of_decide_eq_false h0
      refine Jc.skip ?_
      refine Jq.blkN ?_
      rw [← zonesK_no hk h0]
      refine Jq.lessR (rs := [.row 3 1 (.slice A' (b.zonesK (j + 1)).length c') (b.zonesK (j + 1)).length (i64s (b.zonesK (j + 1))), .blk b2 22 [.slice A' (b.zonesK (j + 1)).length c'], .blk b1 30 (b.cs z)]) (by repeat (first | exact Take.nil | apply Take.cons (by repeat (first | exact Del.here | apply Del.there)))) ?_
      exact Jq.next ⟨j + 1, A', c'⟩ rfl rfl (by repeat (first | exact trivial | refine And.intro (by repeat (first | exact Mem.here | apply Mem.there)) ?_))
  · rintro ⟨j, A', c'⟩ D0 hj
    obtain rfl : j = b.ones.length := hj
    show Jq _ _ _ .normal _ [.mark D0, .row 3 1 (.slice A' (b.zonesK b.ones.length).length c') (b.zonesK b.ones.length).length (i64s (b.zonesK b.ones.length)), .blk b2 22 [.slice A' (b.zonesK b.ones.length).length c'], .blk b1 30 (b.cs z)] (b.rd z)
    rw [zonesK_end]
    refine Jq.blkN ?_
    refine Jq.thenN ?_
    refine Jc.seq ?_
    refine Jc.region ?_
    refine Jl.pv (PR.load1 rfl tsh22 (by repeat (first | exact Has.here | apply Has.there)) (by rfl)) ?_
    refine Jl.store1 rfl tsh22 rfl (by rfl) (by repeat (first | exact Swap.here | apply Swap.there)) (by rfl) ?_
    refine Jl.nil ?_
    refine Jq.thenN ?_
    refine Jc.ret ?_
    exact Jq.finM (Ds := [D0]) (A', c') (.inl rfl) rfl (by repeat (first | exact Take.nil | apply Take.cons (by repeat (first | exact Del.here | apply Del.there)))) (RetVs.cell1 rfl (by repeat (first | exact Has.here | apply Has.there)) tsh22 (by rfl) RetVs.nil) rfl (by repeat (first | exact Take.nil | apply Take.cons (by repeat (first | exact Del.here | apply Del.there)))) (by repeat (first | exact trivial | refine And.intro (by repeat (first | exact Mem.here | apply Mem.there)) ?_))
  · exact fun _ _ t => t.elim
theorem right_ct (b : Br) (z : BrA) (hn : b.its.length ≤ 1000000) (hm : b.kps.length ≤ 1000000) (hms : b.cf.ms.length ≤ 1000000) : Ct Tryd.prog 8 [b.v z] [] (b.rd z) (fun _ : Unit => .bool b.okB) (fun _ => []) (fun _ => []) := by
  obtain ⟨⟨M, cM⟩, ⟨I, cI⟩, ⟨K, cK⟩⟩ := z
  refine Ct.of _ Tryd.func8 Tryd.ntmps8 rfl rfl (fun X W => ?_)
  refine Jc.seq ?_
  refine Jc.region ?_
  refine Jl.box rfl (by rfl) ?_
  intro b1
  refine Jl.pv (PR.assign rfl) ?_
  refine Jl.nil ?_
  refine Jq.thenN ?_
  refine Jc.seq ?_
  refine Jc.seq ?_
  refine Jc.region ?_
  refine Jl.pv (PR.fieldAddr rfl tfl30_0) ?_
  refine Jl.pv (PR.load1 rfl tsh3 (by repeat (first | exact Has.here | apply Has.there)) (by rfl)) ?_
  refine Jl.pv (PR.lss _ rfl rfl rfl) ?_
  refine Jl.pv (PR.move rfl) ?_
  refine Jl.bsplit (fun g10 => ?_) (fun g10 => ?_)
  · try replace g10 := of_decide_eq_true g10
    refine Jl.offS rfl rfl rfl ?_
    refine Jl.offS rfl rfl rfl ?_
    refine Jl.offS rfl rfl rfl ?_
    refine Jl.pv (PR.pickT rfl rfl) ?_
    refine Jl.pv (PR.move rfl) ?_
    refine Jl.offS rfl rfl rfl ?_
    refine Jl.offS rfl rfl rfl ?_
    refine Jl.offS rfl rfl rfl ?_
    refine Jl.pv (PR.pickT rfl rfl) ?_
    refine Jl.pv (PR.move rfl) ?_
    refine Jl.offS rfl rfl rfl ?_
    refine Jl.offS rfl rfl rfl ?_
    refine Jl.offS rfl rfl rfl ?_
    refine Jl.pv (PR.pickT rfl rfl) ?_
    refine Jl.nil ?_
    refine Jq.thenN ?_
    refine Jc.condT rfl ?_
    refine Jc.seq ?_
    refine Jc.region ?_
    refine Jl.pv (PR.assign rfl) ?_
    refine Jl.nil ?_
    refine Jq.thenN ?_
    refine Jc.ret ?_
    refine Jq.thenR ?_
    exact Jq.fin () (.inl rfl) rfl (RetVs.tmp rfl RetVs.nil) (congrArg Value.bool (okB_no fun h => by have := h.ep; omega)) (by repeat (first | exact Take.nil | apply Take.cons (by repeat (first | exact Del.here | apply Del.there)))) (by repeat (first | exact trivial | refine And.intro (by repeat (first | exact Mem.here | apply Mem.there)) ?_))
  · try replace g10 := of_decide_eq_false g10
    refine Jl.on rfl rfl ?_
    refine Jl.pv (PR.fieldAddr rfl tfl30_0) ?_
    refine Jl.on rfl rfl ?_
    refine Jl.pv (PR.load1 rfl tsh3 (by repeat (first | exact Has.here | apply Has.there)) (by rfl)) ?_
    refine Jl.on rfl rfl ?_
    refine Jl.pv (PR.gtr _ rfl rfl rfl) ?_
    refine Jl.pv (PR.pickF rfl rfl) ?_
    refine Jl.pv (PR.move rfl) ?_
    refine Jl.bsplit (fun g15 => ?_) (fun g15 => ?_)
    · try replace g15 := of_decide_eq_true g15
      refine Jl.offS rfl rfl rfl ?_
      refine Jl.offS rfl rfl rfl ?_
      refine Jl.offS rfl rfl rfl ?_
      refine Jl.pv (PR.pickT rfl rfl) ?_
      refine Jl.pv (PR.move rfl) ?_
      refine Jl.offS rfl rfl rfl ?_
      refine Jl.offS rfl rfl rfl ?_
      refine Jl.offS rfl rfl rfl ?_
      refine Jl.pv (PR.pickT rfl rfl) ?_
      refine Jl.nil ?_
      refine Jq.thenN ?_
      refine Jc.condT rfl ?_
      refine Jc.seq ?_
      refine Jc.region ?_
      refine Jl.pv (PR.assign rfl) ?_
      refine Jl.nil ?_
      refine Jq.thenN ?_
      refine Jc.ret ?_
      refine Jq.thenR ?_
      exact Jq.fin () (.inl rfl) rfl (RetVs.tmp rfl RetVs.nil) (congrArg Value.bool (okB_no fun h => by have := h.ep; omega)) (by repeat (first | exact Take.nil | apply Take.cons (by repeat (first | exact Del.here | apply Del.there)))) (by repeat (first | exact trivial | refine And.intro (by repeat (first | exact Mem.here | apply Mem.there)) ?_))
    · try replace g15 := of_decide_eq_false g15
      refine Jl.on rfl rfl ?_
      refine Jl.pv (PR.fieldAddr rfl tfl30_1) ?_
      refine Jl.on rfl rfl ?_
      refine Jl.pv (PR.load1 rfl tsh3 (by repeat (first | exact Has.here | apply Has.there)) (by rfl)) ?_
      refine Jl.on rfl rfl ?_
      refine Jl.pv (PR.lss _ rfl rfl rfl) ?_
      refine Jl.pv (PR.pickF rfl rfl) ?_
      refine Jl.pv (PR.move rfl) ?_
      refine Jl.bsplit (fun g20 => ?_) (fun g20 => ?_)
      · try replace g20 := of_decide_eq_true g20
        refine Jl.offS rfl rfl rfl ?_
        refine Jl.offS rfl rfl rfl ?_
        refine Jl.offS rfl rfl rfl ?_
        refine Jl.pv (PR.pickT rfl rfl) ?_
        refine Jl.nil ?_
        refine Jq.thenN ?_
        refine Jc.condT rfl ?_
        refine Jc.seq ?_
        refine Jc.region ?_
        refine Jl.pv (PR.assign rfl) ?_
        refine Jl.nil ?_
        refine Jq.thenN ?_
        refine Jc.ret ?_
        refine Jq.thenR ?_
        exact Jq.fin () (.inl rfl) rfl (RetVs.tmp rfl RetVs.nil) (congrArg Value.bool (okB_no fun h => by have := h.sq; omega)) (by repeat (first | exact Take.nil | apply Take.cons (by repeat (first | exact Del.here | apply Del.there)))) (by repeat (first | exact trivial | refine And.intro (by repeat (first | exact Mem.here | apply Mem.there)) ?_))
      · try replace g20 := of_decide_eq_false g20
        refine Jl.on rfl rfl ?_
        refine Jl.pv (PR.fieldAddr rfl tfl30_1) ?_
        refine Jl.on rfl rfl ?_
        refine Jl.pv (PR.load1 rfl tsh3 (by repeat (first | exact Has.here | apply Has.there)) (by rfl)) ?_
        refine Jl.on rfl rfl ?_
        refine Jl.pv (PR.gtr _ rfl rfl rfl) ?_
        refine Jl.pv (PR.pickF rfl rfl) ?_
        refine Jl.nil ?_
        refine Jq.thenN ?_
        refine Jc.cond rfl (fun h0 => ?_) (fun h0 => ?_)
        · try replace h0 := of_decide_eq_true h0
          refine Jc.seq ?_
          refine Jc.region ?_
          refine Jl.pv (PR.assign rfl) ?_
          refine Jl.nil ?_
          refine Jq.thenN ?_
          refine Jc.ret ?_
          refine Jq.thenR ?_
          exact Jq.fin () (.inl rfl) rfl (RetVs.tmp rfl RetVs.nil) (congrArg Value.bool (okB_no fun h => by have := h.sq; omega)) (by repeat (first | exact Take.nil | apply Take.cons (by repeat (first | exact Del.here | apply Del.there)))) (by repeat (first | exact trivial | refine And.intro (by repeat (first | exact Mem.here | apply Mem.there)) ?_))
        · try replace h0 := of_decide_eq_false h0
          refine Jc.skip ?_
          refine Jq.thenN ?_
          refine Jc.seq ?_
          refine Jc.region ?_
          refine Jl.pv (PR.assign rfl) ?_
          refine Jl.nil ?_
          refine Jq.thenN ?_
          refine Jc.seq ?_
          refine Jc.seq ?_
          refine Jc.region ?_
          refine Jl.pv (PR.assign rfl) ?_
          refine Jl.nil ?_
          refine Jq.thenN ?_
          refine Jc.block ?_
          have hep : 0 ≤ b.ep ∧ b.ep ≤ 1099511627776 := by constructor <;> omega
          have hsq : 0 ≤ b.sq ∧ b.sq ≤ 1099511627776 := by constructor <;> omega
          refine Jc.loop (σ := { k : Nat // k ≤ b.its.length ∧ ∀ j, j < k → b.TokOk j }) (fun s => [(4, .int .i64 (s.1 : Int)), (3, .int .i64 (b.lastT s.1)), (1, .pointer (some ⟨b1, 0, none⟩))]) (fun _ => [.blk b1 30 (b.cs ((M, cM), (I, cI), (K, cK)))]) (fun s => [.rd M (i64s b.cf.ms), .rd I (itsV b.its), .rd K (kpsV b.kps)]) (fun s => b.its.length - s.1) ⟨0, Nat.zero_le _, fun j h => by omega⟩ (by repeat (first | exact trivial | refine And.intro rfl ?_)) rfl (by repeat (first | exact trivial | refine And.intro (by repeat (first | exact Mem.here | apply Mem.there)) ?_)) ?_
          rintro ⟨k, hk, hT⟩
          show Jc _ _ _ _ _ _ [(4, Value.int .i64 (k : Int)), (3, .int .i64 (b.lastT k)), (1, .pointer (some ⟨b1, 0, none⟩))] [.blk b1 30 (b.cs ((M, cM), (I, cI), (K, cK)))] [.rd M (i64s b.cf.ms), .rd I (itsV b.its), .rd K (kpsV b.kps)]
          refine Jc.seq ?_
          refine Jc.seq ?_
          refine Jc.region ?_
          refine Jl.pv (PR.move rfl) ?_
          refine Jl.pv (PR.fieldAddr rfl tfl30_4) ?_
          refine Jl.pv (PR.load1 rfl tsh25 (by repeat (first | exact Has.here | apply Has.there)) (by rfl)) ?_
          refine Jl.pv (PR.len rfl tsl25) ?_
          refine Jl.pv (PR.lss _ rfl rfl rfl) ?_
          refine Jl.nil ?_
          refine Jq.thenN ?_
          refine Jc.cond rfl (fun h1 => ?_) (fun h1 => ?_)
          · try replace h1 := of_decide_eq_true h1
            have hlt : k < b.its.length := by omega
            have htk := tk_at hlt
            have hl4 := itsV_len b.its
            refine Jc.skip ?_
            refine Jq.thenN ?_
            refine Jc.seq ?_
            refine Jc.block ?_
            refine Jc.seq ?_
            refine Jc.seq ?_
            refine Jc.drawn [0, 1, 0, 7, 15, 31, 0, 127, 255, 511, 1023, 511, 4095, 8191, 16383, 511, 33279, 131071, 262143] ([(0, false), (1, false), (2, false), (3, false), (4, false), (5, false), (6, false), (7, false), (8, false), (9, false), (10, false), (11, false), (12, false), (13, false), (14, false), (15, false), (16, false), (17, false), (18, false)], []) [] tmx (by kernel_rfl) ?_
            refine Dh.JH.nil ?_
            refine Dh.JB.pv rfl trivial (fun _ => PR.fieldAddr rfl tfl30_4) ?_
            refine Dh.JB.rd [.blk _ _ _] rfl trivial (by repeat (first | exact Take.nil | apply Take.cons (by repeat (first | exact Del.here | apply Del.there)))) (fun _ => PR.load1 rfl tsh25 Has.here (by rfl)) ?_
            refine Dh.JB.pv rfl trivial (fun _ => PR.move rfl) ?_
            refine Dh.JB.pv rfl trivial (fun _ => PR.idx k rfl rfl tsl25 (by repeat (first | exact Mem.here | apply Mem.there)) (itsV_len _) (by omega) rfl hlt) ?_
            refine Dh.JB.pv rfl trivial (fun _ => PR.fieldAddrR rfl tfl43_0 (by repeat (first | exact Mem.here | apply Mem.there)) (by omega)) ?_
            refine Dh.JB.pv rfl trivial (fun _ => PR.loadR rfl tsh3 (by repeat (first | exact Mem.here | apply Mem.there)) (its_f hlt 0 rfl)) ?_
            refine Dh.JB.pv rfl trivial (fun _ => PR.move rfl) ?_
            refine Dh.JB.pv rfl trivial (fun _ => PR.leq _ rfl rfl rfl) ?_
            refine Dh.JB.pv rfl trivial (fun _ => PR.move rfl) ?_
            refine Dh.JB.bsplit (fun g40 => ?_) (fun g40 => ?_)
            · try replace g40 := of_decide_eq_true g40
              refine Dh.JB.off rfl ⟨_, rfl, .inr rfl⟩ ?_
              refine Dh.JB.off rfl ⟨_, rfl, .inr rfl⟩ ?_
              refine Dh.JB.off rfl ⟨_, rfl, .inr rfl⟩ ?_
              refine Dh.JB.off rfl ⟨_, rfl, .inr rfl⟩ ?_
              refine Dh.JB.off rfl ⟨_, rfl, .inr rfl⟩ ?_
              refine Dh.JB.off rfl ⟨_, rfl, .inr rfl⟩ ?_
              refine Dh.JB.off rfl ⟨_, rfl, .inr rfl⟩ ?_
              refine Dh.JB.off rfl ⟨_, rfl, .inr rfl⟩ ?_
              refine Dh.JB.off rfl ⟨_, rfl, .inr rfl⟩ ?_
              refine Dh.JB.pv rfl trivial (fun _ => PR.pickT rfl rfl) ?_
              refine Dh.JB.nil ?_
              refine Dh.JL.nil ?_
              refine Jq.thenN ?_
              refine Jc.condT rfl ?_
              refine Jc.seq ?_
              refine Jc.region ?_
              refine Jl.pv (PR.assign rfl) ?_
              refine Jl.nil ?_
              refine Jq.thenN ?_
              refine Jc.ret ?_
              refine Jq.thenR ?_
              refine Jq.blkR ?_
              refine Jq.thenR ?_
              refine Jq.thenR ?_
              refine Jq.blkR ?_
              refine Jq.thenR ?_
              exact Jq.fin () (.inl rfl) rfl (RetVs.tmp rfl RetVs.nil) (congrArg Value.bool (okB_no fun h => by have := (h.its k hlt).lo; omega)) (by repeat (first | exact Take.nil | apply Take.cons (by repeat (first | exact Del.here | apply Del.there)))) (by repeat (first | exact trivial | refine And.intro (by repeat (first | exact Mem.here | apply Mem.there)) ?_))
            · try replace g40 := of_decide_eq_false g40
              refine Dh.JB.pv rfl ⟨_, rfl, rfl⟩ (fun _ => PR.fieldAddr rfl tfl30_4) ?_
              refine Dh.JB.rd [.blk _ _ _] rfl ⟨_, rfl, rfl⟩ (by repeat (first | exact Take.nil | apply Take.cons (by repeat (first | exact Del.here | apply Del.there)))) (fun _ => PR.load1 rfl tsh25 Has.here (by rfl)) ?_
              refine Dh.JB.pv rfl ⟨_, rfl, rfl⟩ (fun _ => PR.move rfl) ?_
              refine Dh.JB.pv rfl ⟨_, rfl, rfl⟩ (fun _ => PR.idx k rfl rfl tsl25 (by repeat (first | exact Mem.here | apply Mem.there)) (itsV_len _) (by omega) rfl hlt) ?_
              refine Dh.JB.pv rfl ⟨_, rfl, rfl⟩ (fun _ => PR.fieldAddrR rfl tfl43_0 (by repeat (first | exact Mem.here | apply Mem.there)) (by omega)) ?_
              refine Dh.JB.pv rfl ⟨_, rfl, rfl⟩ (fun _ => PR.loadR rfl tsh3 (by repeat (first | exact Mem.here | apply Mem.there)) (its_f hlt 0 rfl)) ?_
              refine Dh.JB.pv rfl ⟨_, rfl, rfl⟩ (fun _ => PR.fieldAddr rfl tfl30_1) ?_
              refine Dh.JB.rd [.blk _ _ _] rfl ⟨_, rfl, rfl⟩ (by repeat (first | exact Take.nil | apply Take.cons (by repeat (first | exact Del.here | apply Del.there)))) (fun _ => PR.load1 rfl tsh3 Has.here (by rfl)) ?_
              refine Dh.JB.pv rfl ⟨_, rfl, rfl⟩ (fun _ => PR.gtr _ rfl rfl rfl) ?_
              refine Dh.JB.pv rfl trivial (fun _ => PR.pickF rfl rfl) ?_
              refine Dh.JB.nil ?_
              refine Dh.JL.nil ?_
              refine Jq.thenN ?_
              refine Jc.cond rfl (fun h2 => ?_) (fun h2 => ?_)
              · try replace h2 := of_decide_eq_true h2
                refine Jc.seq ?_
                refine Jc.region ?_
                refine Jl.pv (PR.assign rfl) ?_
                refine Jl.nil ?_
                refine Jq.thenN ?_
                refine Jc.ret ?_
                refine Jq.thenR ?_
                refine Jq.blkR ?_
                refine Jq.thenR ?_
                refine Jq.thenR ?_
                refine Jq.blkR ?_
                refine Jq.thenR ?_
                exact Jq.fin () (.inl rfl) rfl (RetVs.tmp rfl RetVs.nil) (congrArg Value.bool (okB_no fun h => by have := (h.its k hlt).hi; omega)) (by repeat (first | exact Take.nil | apply Take.cons (by repeat (first | exact Del.here | apply Del.there)))) (by repeat (first | exact trivial | refine And.intro (by repeat (first | exact Mem.here | apply Mem.there)) ?_))
              · try replace h2 := of_decide_eq_false h2
                refine Jc.skip ?_
                refine Jq.thenN ?_
                refine Jc.region ?_
                refine Jl.pv (PR.fieldAddr rfl tfl30_4) ?_
                refine Jl.pv (PR.load1 rfl tsh25 (by repeat (first | exact Has.here | apply Has.there)) (by rfl)) ?_
                refine Jl.pv (PR.move rfl) ?_
                refine Jl.pv (PR.idx k rfl rfl tsl25 (by repeat (first | exact Mem.here | apply Mem.there)) (itsV_len _) (by omega) rfl hlt) ?_
                refine Jl.pv (PR.fieldAddrR rfl tfl43_0 (by repeat (first | exact Mem.here | apply Mem.there)) (by omega)) ?_
                refine Jl.pv (PR.loadR rfl tsh3 (by repeat (first | exact Mem.here | apply Mem.there)) (its_f hlt 0 rfl)) ?_
                refine Jl.pv (PR.assign rfl) ?_
                refine Jl.nil ?_
                refine Jq.blkN ?_
                refine Jq.thenN ?_
                refine Jc.region ?_
                refine Jl.pv (PR.move rfl) ?_
                refine Jl.pv (PR.add ((k + 1 : Nat) : Int) rfl rfl (by rw [w64 (by omega) (by omega)]; rfl)) ?_
                refine Jl.pv (PR.assign rfl) ?_
                refine Jl.nil ?_
                exact Jq.againT ⟨k + 1, hlt, fun j hj => (Nat.lt_succ_iff_lt_or_eq.1 hj).elim (hT j) (fun e => by rw [e]; exact ⟨by omega, by omega⟩)⟩ (by simp only; omega) (by exact ⟨rfl, (congrArg (fun v => some (Value.int .i64 v)) htk.symm), rfl, trivial⟩) (by repeat (first | exact Take.nil | apply Take.cons (by repeat (first | exact Del.here | apply Del.there)))) (by repeat (first | exact trivial | refine And.intro (by repeat (first | exact Mem.here | apply Mem.there)) ?_))
          · try replace h1 := of_decide_eq_false h1
            obtain rfl : k = b.its.length := by omega
            refine Jc.exit ?_
            refine Jq.thenX ?_
            refine Jq.thenX ?_
            refine Jq.blkX ?_
            refine Jq.thenN ?_
            refine Jc.seq ?_
            refine Jc.region ?_
            refine Jl.pv (PR.assign rfl) ?_
            refine Jl.nil ?_
            refine Jq.thenN ?_
            refine Jc.seq ?_
            refine Jc.seq ?_
            refine Jc.region ?_
            refine Jl.pv (PR.assign rfl) ?_
            refine Jl.nil ?_
            refine Jq.thenN ?_
            refine Jc.block ?_
            refine Jc.loop (σ := { k : Nat // k ≤ b.kps.length ∧ ∀ j, j < k → b.KpOk j }) (fun s => [(5, .int .i64 (s.1 : Int)), (3, .int .i64 (b.lastI s.1)), (1, .pointer (some ⟨b1, 0, none⟩))]) (fun _ => [.blk b1 30 (b.cs ((M, cM), (I, cI), (K, cK)))]) (fun s => [.rd M (i64s b.cf.ms), .rd I (itsV b.its), .rd K (kpsV b.kps)]) (fun s => b.kps.length - s.1) ⟨0, Nat.zero_le _, fun j h => by omega⟩ (by repeat (first | exact trivial | refine And.intro rfl ?_)) rfl (by repeat (first | exact trivial | refine And.intro (by repeat (first | exact Mem.here | apply Mem.there)) ?_)) ?_
            rintro ⟨k, hk, hK⟩
            show Jc _ _ _ _ _ _ [(5, Value.int .i64 (k : Int)), (3, .int .i64 (b.lastI k)), (1, .pointer (some ⟨b1, 0, none⟩))] [.blk b1 30 (b.cs ((M, cM), (I, cI), (K, cK)))] [.rd M (i64s b.cf.ms), .rd I (itsV b.its), .rd K (kpsV b.kps)]
            refine Jc.seq ?_
            refine Jc.seq ?_
            refine Jc.region ?_
            refine Jl.pv (PR.move rfl) ?_
            refine Jl.pv (PR.fieldAddr rfl tfl30_5) ?_
            refine Jl.pv (PR.load1 rfl tsh26 (by repeat (first | exact Has.here | apply Has.there)) (by rfl)) ?_
            refine Jl.pv (PR.len rfl tsl26) ?_
            refine Jl.pv (PR.lss _ rfl rfl rfl) ?_
            refine Jl.nil ?_
            refine Jq.thenN ?_
            refine Jc.cond rfl (fun h3 => ?_) (fun h3 => ?_)
            · try replace h3 := of_decide_eq_true h3
              have hlt : k < b.kps.length := by omega
              have hid := idn_at hlt
              have hl8 := kpsV_len b.kps
              have hph := phn_at hlt
              refine Jc.skip ?_
              refine Jq.thenN ?_
              refine Jc.seq ?_
              refine Jc.block ?_
              refine Jc.seq ?_
              refine Jc.seq ?_
              refine Jc.region ?_
              refine Jl.pv (PR.fieldAddr rfl tfl30_5) ?_
              refine Jl.pv (PR.load1 rfl tsh26 (by repeat (first | exact Has.here | apply Has.there)) (by rfl)) ?_
              refine Jl.pv (PR.move rfl) ?_
              refine Jl.pv (PR.idx k rfl rfl tsl26 (by repeat (first | exact Mem.here | apply Mem.there)) (kpsV_len _) (by omega) rfl hlt) ?_
              refine Jl.pv (PR.fieldAddrR rfl tfl38_0 (by repeat (first | exact Mem.here | apply Mem.there)) (by omega)) ?_
              refine Jl.pv (PR.loadR rfl tsh3 (by repeat (first | exact Mem.here | apply Mem.there)) (kps_f hlt 0 rfl)) ?_
              refine Jl.pv (PR.move rfl) ?_
              refine Jl.pv (PR.leq _ rfl rfl rfl) ?_
              refine Jl.pv (PR.move rfl) ?_
              refine Jl.bsplit (fun g72 => ?_) (fun g72 => ?_)
              · try replace g72 := of_decide_eq_true g72
                refine Jl.offS rfl rfl rfl ?_
                refine Jl.offS rfl rfl rfl ?_
                refine Jl.offS rfl rfl rfl ?_
                refine Jl.offS rfl rfl rfl ?_
                refine Jl.offS rfl rfl rfl ?_
                refine Jl.offS rfl rfl rfl ?_
                refine Jl.offS rfl rfl rfl ?_
                refine Jl.pv (PR.pickT rfl rfl) ?_
                refine Jl.pv (PR.move rfl) ?_
                refine Jl.offS rfl rfl rfl ?_
                refine Jl.offS rfl rfl rfl ?_
                refine Jl.offS rfl rfl rfl ?_
                refine Jl.offS rfl rfl rfl ?_
                refine Jl.offS rfl rfl rfl ?_
                refine Jl.offS rfl rfl rfl ?_
                refine Jl.offS rfl rfl rfl ?_
                refine Jl.pv (PR.pickT rfl rfl) ?_
                refine Jl.pv (PR.move rfl) ?_
                refine Jl.offS rfl rfl rfl ?_
                refine Jl.offS rfl rfl rfl ?_
                refine Jl.offS rfl rfl rfl ?_
                refine Jl.offS rfl rfl rfl ?_
                refine Jl.offS rfl rfl rfl ?_
                refine Jl.offS rfl rfl rfl ?_
                refine Jl.offS rfl rfl rfl ?_
                refine Jl.pv (PR.pickT rfl rfl) ?_
                refine Jl.nil ?_
                refine Jq.thenN ?_
                refine Jc.condT rfl ?_
                refine Jc.seq ?_
                refine Jc.region ?_
                refine Jl.pv (PR.assign rfl) ?_
                refine Jl.nil ?_
                refine Jq.thenN ?_
                refine Jc.ret ?_
                refine Jq.thenR ?_
                refine Jq.blkR ?_
                refine Jq.thenR ?_
                refine Jq.thenR ?_
                refine Jq.blkR ?_
                refine Jq.thenR ?_
                exact Jq.fin () (.inl rfl) rfl (RetVs.tmp rfl RetVs.nil) (congrArg Value.bool (okB_no fun h => by have := (h.kps k hlt).lo; omega)) (by repeat (first | exact Take.nil | apply Take.cons (by repeat (first | exact Del.here | apply Del.there)))) (by repeat (first | exact trivial | refine And.intro (by repeat (first | exact Mem.here | apply Mem.there)) ?_))
              · try replace g72 := of_decide_eq_false g72
                refine Jl.on rfl rfl ?_
                refine Jl.pv (PR.fieldAddr rfl tfl30_5) ?_
                refine Jl.on rfl rfl ?_
                refine Jl.pv (PR.load1 rfl tsh26 (by repeat (first | exact Has.here | apply Has.there)) (by rfl)) ?_
                refine Jl.on rfl rfl ?_
                refine Jl.pv (PR.move rfl) ?_
                refine Jl.on rfl rfl ?_
                refine Jl.pv (PR.idx k rfl rfl tsl26 (by repeat (first | exact Mem.here | apply Mem.there)) (kpsV_len _) (by omega) rfl hlt) ?_
                refine Jl.on rfl rfl ?_
                refine Jl.pv (PR.fieldAddrR rfl tfl38_0 (by repeat (first | exact Mem.here | apply Mem.there)) (by omega)) ?_
                refine Jl.on rfl rfl ?_
                refine Jl.pv (PR.loadR rfl tsh3 (by repeat (first | exact Mem.here | apply Mem.there)) (kps_f hlt 0 rfl)) ?_
                refine Jl.on rfl rfl ?_
                refine Jl.pv (PR.gtr _ rfl rfl rfl) ?_
                refine Jl.pv (PR.pickF rfl rfl) ?_
                refine Jl.pv (PR.move rfl) ?_
                refine Jl.bsplit (fun g81 => ?_) (fun g81 => ?_)
                · try replace g81 := of_decide_eq_true g81
                  refine Jl.offS rfl rfl rfl ?_
                  refine Jl.offS rfl rfl rfl ?_
                  refine Jl.offS rfl rfl rfl ?_
                  refine Jl.offS rfl rfl rfl ?_
                  refine Jl.offS rfl rfl rfl ?_
                  refine Jl.offS rfl rfl rfl ?_
                  refine Jl.offS rfl rfl rfl ?_
                  refine Jl.pv (PR.pickT rfl rfl) ?_
                  refine Jl.pv (PR.move rfl) ?_
                  refine Jl.offS rfl rfl rfl ?_
                  refine Jl.offS rfl rfl rfl ?_
                  refine Jl.offS rfl rfl rfl ?_
                  refine Jl.offS rfl rfl rfl ?_
                  refine Jl.offS rfl rfl rfl ?_
                  refine Jl.offS rfl rfl rfl ?_
                  refine Jl.offS rfl rfl rfl ?_
                  refine Jl.pv (PR.pickT rfl rfl) ?_
                  refine Jl.nil ?_
                  refine Jq.thenN ?_
                  refine Jc.condT rfl ?_
                  refine Jc.seq ?_
                  refine Jc.region ?_
                  refine Jl.pv (PR.assign rfl) ?_
                  refine Jl.nil ?_
                  refine Jq.thenN ?_
                  refine Jc.ret ?_
                  refine Jq.thenR ?_
                  refine Jq.blkR ?_
                  refine Jq.thenR ?_
                  refine Jq.thenR ?_
                  refine Jq.blkR ?_
                  refine Jq.thenR ?_
                  exact Jq.fin () (.inl rfl) rfl (RetVs.tmp rfl RetVs.nil) (congrArg Value.bool (okB_no fun h => by have := (h.kps k hlt).hi; omega)) (by repeat (first | exact Take.nil | apply Take.cons (by repeat (first | exact Del.here | apply Del.there)))) (by repeat (first | exact trivial | refine And.intro (by repeat (first | exact Mem.here | apply Mem.there)) ?_))
                · try replace g81 := of_decide_eq_false g81
                  refine Jl.on rfl rfl ?_
                  refine Jl.pv (PR.fieldAddr rfl tfl30_5) ?_
                  refine Jl.on rfl rfl ?_
                  refine Jl.pv (PR.load1 rfl tsh26 (by repeat (first | exact Has.here | apply Has.there)) (by rfl)) ?_
                  refine Jl.on rfl rfl ?_
                  refine Jl.pv (PR.move rfl) ?_
                  refine Jl.on rfl rfl ?_
                  refine Jl.pv (PR.idx k rfl rfl tsl26 (by repeat (first | exact Mem.here | apply Mem.there)) (kpsV_len _) (by omega) rfl hlt) ?_
                  refine Jl.on rfl rfl ?_
                  refine Jl.pv (PR.fieldAddrR rfl tfl38_4 (by repeat (first | exact Mem.here | apply Mem.there)) (by omega)) ?_
                  refine Jl.on rfl rfl ?_
                  refine Jl.pv (PR.loadR rfl tsh5 (by repeat (first | exact Mem.here | apply Mem.there)) (kps_f hlt 4 rfl)) ?_
                  refine Jl.on rfl rfl ?_
                  refine Jl.pv (PR.lss _ rfl rfl rfl) ?_
                  refine Jl.pv (PR.pickF rfl rfl) ?_
                  refine Jl.pv (PR.move rfl) ?_
                  refine Jl.bsplit (fun g90 => ?_) (fun g90 => ?_)
                  · try replace g90 := of_decide_eq_true g90
                    refine Jl.offS rfl rfl rfl ?_
                    refine Jl.offS rfl rfl rfl ?_
                    refine Jl.offS rfl rfl rfl ?_
                    refine Jl.offS rfl rfl rfl ?_
                    refine Jl.offS rfl rfl rfl ?_
                    refine Jl.offS rfl rfl rfl ?_
                    refine Jl.offS rfl rfl rfl ?_
                    refine Jl.pv (PR.pickT rfl rfl) ?_
                    refine Jl.nil ?_
                    refine Jq.thenN ?_
                    refine Jc.condT rfl ?_
                    refine Jc.seq ?_
                    refine Jc.region ?_
                    refine Jl.pv (PR.assign rfl) ?_
                    refine Jl.nil ?_
                    refine Jq.thenN ?_
                    refine Jc.ret ?_
                    refine Jq.thenR ?_
                    refine Jq.blkR ?_
                    refine Jq.thenR ?_
                    refine Jq.thenR ?_
                    refine Jq.blkR ?_
                    refine Jq.thenR ?_
                    exact Jq.fin () (.inl rfl) rfl (RetVs.tmp rfl RetVs.nil) (congrArg Value.bool (okB_no fun h => by have := (h.kps k hlt).p1; omega)) (by repeat (first | exact Take.nil | apply Take.cons (by repeat (first | exact Del.here | apply Del.there)))) (by repeat (first | exact trivial | refine And.intro (by repeat (first | exact Mem.here | apply Mem.there)) ?_))
                  · try replace g90 := of_decide_eq_false g90
                    refine Jl.on rfl rfl ?_
                    refine Jl.pv (PR.fieldAddr rfl tfl30_5) ?_
                    refine Jl.on rfl rfl ?_
                    refine Jl.pv (PR.load1 rfl tsh26 (by repeat (first | exact Has.here | apply Has.there)) (by rfl)) ?_
                    refine Jl.on rfl rfl ?_
                    refine Jl.pv (PR.move rfl) ?_
                    refine Jl.on rfl rfl ?_
                    refine Jl.pv (PR.idx k rfl rfl tsl26 (by repeat (first | exact Mem.here | apply Mem.there)) (kpsV_len _) (by omega) rfl hlt) ?_
                    refine Jl.on rfl rfl ?_
                    refine Jl.pv (PR.fieldAddrR rfl tfl38_4 (by repeat (first | exact Mem.here | apply Mem.there)) (by omega)) ?_
                    refine Jl.on rfl rfl ?_
                    refine Jl.pv (PR.loadR rfl tsh5 (by repeat (first | exact Mem.here | apply Mem.there)) (kps_f hlt 4 rfl)) ?_
                    refine Jl.on rfl rfl ?_
                    refine Jl.pv (PR.gtr _ rfl rfl rfl) ?_
                    refine Jl.pv (PR.pickF rfl rfl) ?_
                    refine Jl.nil ?_
                    refine Jq.thenN ?_
                    refine Jc.cond rfl (fun h4 => ?_) (fun h4 => ?_)
                    · try replace h4 := of_decide_eq_true h4
                      refine Jc.seq ?_
                      refine Jc.region ?_
                      refine Jl.pv (PR.assign rfl) ?_
                      refine Jl.nil ?_
                      refine Jq.thenN ?_
                      refine Jc.ret ?_
                      refine Jq.thenR ?_
                      refine Jq.blkR ?_
                      refine Jq.thenR ?_
                      refine Jq.thenR ?_
                      refine Jq.blkR ?_
                      refine Jq.thenR ?_
                      exact Jq.fin () (.inl rfl) rfl (RetVs.tmp rfl RetVs.nil) (congrArg Value.bool (okB_no fun h => by have := (h.kps k hlt).p2; omega)) (by repeat (first | exact Take.nil | apply Take.cons (by repeat (first | exact Del.here | apply Del.there)))) (by repeat (first | exact trivial | refine And.intro (by repeat (first | exact Mem.here | apply Mem.there)) ?_))
                    · try replace h4 := of_decide_eq_false h4
                      refine Jc.skip ?_
                      refine Jq.thenN ?_
                      refine Jc.region ?_
                      refine Jl.pv (PR.fieldAddr rfl tfl30_5) ?_
                      refine Jl.pv (PR.load1 rfl tsh26 (by repeat (first | exact Has.here | apply Has.there)) (by rfl)) ?_
                      refine Jl.pv (PR.move rfl) ?_
                      refine Jl.pv (PR.idx k rfl rfl tsl26 (by repeat (first | exact Mem.here | apply Mem.there)) (kpsV_len _) (by omega) rfl hlt) ?_
                      refine Jl.pv (PR.fieldAddrR rfl tfl38_0 (by repeat (first | exact Mem.here | apply Mem.there)) (by omega)) ?_
                      refine Jl.pv (PR.loadR rfl tsh3 (by repeat (first | exact Mem.here | apply Mem.there)) (kps_f hlt 0 rfl)) ?_
                      refine Jl.pv (PR.assign rfl) ?_
                      refine Jl.nil ?_
                      refine Jq.blkN ?_
                      refine Jq.thenN ?_
                      refine Jc.region ?_
                      refine Jl.pv (PR.move rfl) ?_
                      refine Jl.pv (PR.add ((k + 1 : Nat) : Int) rfl rfl (by rw [w64 (by omega) (by omega)]; rfl)) ?_
                      refine Jl.pv (PR.assign rfl) ?_
                      refine Jl.nil ?_
                      exact Jq.againT ⟨k + 1, hlt, fun j hj => (Nat.lt_succ_iff_lt_or_eq.1 hj).elim (hK j) (fun e => by rw [e]; exact ⟨by omega, by omega, by omega, by omega⟩)⟩ (by simp only; omega) (by exact ⟨rfl, (congrArg (fun v => some (Value.int .i64 v)) hid.symm), rfl, trivial⟩) (by repeat (first | exact Take.nil | apply Take.cons (by repeat (first | exact Del.here | apply Del.there)))) (by repeat (first | exact trivial | refine And.intro (by repeat (first | exact Mem.here | apply Mem.there)) ?_))
            · try replace h3 := of_decide_eq_false h3
              obtain rfl : k = b.kps.length := by omega
              refine Jc.exit ?_
              refine Jq.thenX ?_
              refine Jq.thenX ?_
              refine Jq.blkX ?_
              refine Jq.thenN ?_
              refine Jc.seq ?_
              refine Jc.region ?_
              refine Jl.pv (PR.fieldAddr rfl tfl30_6) ?_
              refine Jl.pv (PR.loadA rfl tsh28 (by repeat (first | exact Has.here | apply Has.there)) (by rfl)) ?_
              refine Jl.alloc tze28 ?_
              intro b6
              refine Jl.storeW rfl tsh28 rfl (by rfl) (by first | exact Br.cs_one _ _ | simp [Value.oneCell', Rf.cs]) (by repeat (first | exact Swap.here | apply Swap.there)) (by rfl) ?_
              refine Jl.nil ?_
              refine Jq.thenN ?_
              refine Jc.seq ?_
              refine Jc.seq ?_
              refine Jc.region ?_
              refine Jl.pv (PR.fieldAddr rfl tfl28_0) ?_
              refine Jl.pv (PR.load1 rfl tsh5 (by repeat (first | exact Has.here | apply Has.there)) (by rfl)) ?_
              refine Jl.pv (PR.eql _ rfl rfl rfl) ?_
              refine Jl.pv (PR.move rfl) ?_
              refine Jl.bsplit (fun g110 => ?_) (fun g110 => ?_)
              · try replace g110 := of_decide_eq_true g110
                refine Jl.on rfl rfl ?_
                refine Jl.pv (PR.fieldAddr rfl tfl28_1) ?_
                refine Jl.on rfl rfl ?_
                refine Jl.pv (PR.load1 rfl tsh3 (by repeat (first | exact Has.here | apply Has.there)) (by rfl)) ?_
                refine Jl.on rfl rfl ?_
                refine Jl.pv (PR.lss _ rfl rfl rfl) ?_
                refine Jl.on rfl rfl ?_
                refine Jl.pv (PR.move rfl) ?_
                refine Jl.bsplit (fun g114 => ?_) (fun g114 => ?_)
                · try replace g114 := of_decide_eq_true g114
                  refine Jl.offS rfl rfl rfl ?_
                  refine Jl.offS rfl rfl rfl ?_
                  refine Jl.offS rfl rfl rfl ?_
                  refine Jl.on rfl rfl ?_
                  refine Jl.pv (PR.pickT rfl rfl) ?_
                  refine Jl.on rfl rfl ?_
                  refine Jl.pv (PR.move rfl) ?_
                  refine Jl.offS rfl rfl rfl ?_
                  refine Jl.offS rfl rfl rfl ?_
                  refine Jl.offS rfl rfl rfl ?_
                  refine Jl.on rfl rfl ?_
                  refine Jl.pv (PR.pickT rfl rfl) ?_
                  refine Jl.on rfl rfl ?_
                  refine Jl.pv (PR.move rfl) ?_
                  refine Jl.offS rfl rfl rfl ?_
                  refine Jl.offS rfl rfl rfl ?_
                  refine Jl.offS rfl rfl rfl ?_
                  refine Jl.on rfl rfl ?_
                  refine Jl.pv (PR.pickT rfl rfl) ?_
                  refine Jl.pv (PR.pickT rfl rfl) ?_
                  refine Jl.nil ?_
                  refine Jq.thenN ?_
                  refine Jc.condT rfl ?_
                  refine Jc.seq ?_
                  refine Jc.region ?_
                  refine Jl.pv (PR.assign rfl) ?_
                  refine Jl.nil ?_
                  refine Jq.thenN ?_
                  refine Jc.ret ?_
                  refine Jq.thenR ?_
                  exact Jq.fin () (.inl rfl) rfl (RetVs.tmp rfl RetVs.nil) (congrArg Value.bool (okB_no fun h => by have := h.rf (by omega); omega)) (by repeat (first | exact Take.nil | apply Take.cons (by repeat (first | exact Del.here | apply Del.there)))) (by repeat (first | exact trivial | refine And.intro (by repeat (first | exact Mem.here | apply Mem.there)) ?_))
                · try replace g114 := of_decide_eq_false g114
                  refine Jl.on rfl rfl ?_
                  refine Jl.pv (PR.fieldAddr rfl tfl28_1) ?_
                  refine Jl.on rfl rfl ?_
                  refine Jl.pv (PR.load1 rfl tsh3 (by repeat (first | exact Has.here | apply Has.there)) (by rfl)) ?_
                  refine Jl.on rfl rfl ?_
                  refine Jl.pv (PR.gtr _ rfl rfl rfl) ?_
                  refine Jl.on rfl rfl ?_
                  refine Jl.pv (PR.pickF rfl rfl) ?_
                  refine Jl.on rfl rfl ?_
                  refine Jl.pv (PR.move rfl) ?_
                  refine Jl.bsplit (fun g119 => ?_) (fun g119 => ?_)
                  · try replace g119 := of_decide_eq_true g119
                    refine Jl.offS rfl rfl rfl ?_
                    refine Jl.offS rfl rfl rfl ?_
                    refine Jl.offS rfl rfl rfl ?_
                    refine Jl.on rfl rfl ?_
                    refine Jl.pv (PR.pickT rfl rfl) ?_
                    refine Jl.on rfl rfl ?_
                    refine Jl.pv (PR.move rfl) ?_
                    refine Jl.offS rfl rfl rfl ?_
                    refine Jl.offS rfl rfl rfl ?_
                    refine Jl.offS rfl rfl rfl ?_
                    refine Jl.on rfl rfl ?_
                    refine Jl.pv (PR.pickT rfl rfl) ?_
                    refine Jl.pv (PR.pickT rfl rfl) ?_
                    refine Jl.nil ?_
                    refine Jq.thenN ?_
                    refine Jc.condT rfl ?_
                    refine Jc.seq ?_
                    refine Jc.region ?_
                    refine Jl.pv (PR.assign rfl) ?_
                    refine Jl.nil ?_
                    refine Jq.thenN ?_
                    refine Jc.ret ?_
                    refine Jq.thenR ?_
                    exact Jq.fin () (.inl rfl) rfl (RetVs.tmp rfl RetVs.nil) (congrArg Value.bool (okB_no fun h => by have := h.rf (by omega); omega)) (by repeat (first | exact Take.nil | apply Take.cons (by repeat (first | exact Del.here | apply Del.there)))) (by repeat (first | exact trivial | refine And.intro (by repeat (first | exact Mem.here | apply Mem.there)) ?_))
                  · try replace g119 := of_decide_eq_false g119
                    refine Jl.on rfl rfl ?_
                    refine Jl.pv (PR.fieldAddr rfl tfl28_2) ?_
                    refine Jl.on rfl rfl ?_
                    refine Jl.pv (PR.load1 rfl tsh3 (by repeat (first | exact Has.here | apply Has.there)) (by rfl)) ?_
                    refine Jl.on rfl rfl ?_
                    refine Jl.pv (PR.lss _ rfl rfl rfl) ?_
                    refine Jl.on rfl rfl ?_
                    refine Jl.pv (PR.pickF rfl rfl) ?_
                    refine Jl.on rfl rfl ?_
                    refine Jl.pv (PR.move rfl) ?_
                    refine Jl.bsplit (fun g124 => ?_) (fun g124 => ?_)
                    · try replace g124 := of_decide_eq_true g124
                      refine Jl.offS rfl rfl rfl ?_
                      refine Jl.offS rfl rfl rfl ?_
                      refine Jl.offS rfl rfl rfl ?_
                      refine Jl.on rfl rfl ?_
                      refine Jl.pv (PR.pickT rfl rfl) ?_
                      refine Jl.pv (PR.pickT rfl rfl) ?_
                      refine Jl.nil ?_
                      refine Jq.thenN ?_
                      refine Jc.condT rfl ?_
                      refine Jc.seq ?_
                      refine Jc.region ?_
                      refine Jl.pv (PR.assign rfl) ?_
                      refine Jl.nil ?_
                      refine Jq.thenN ?_
                      refine Jc.ret ?_
                      refine Jq.thenR ?_
                      exact Jq.fin () (.inl rfl) rfl (RetVs.tmp rfl RetVs.nil) (congrArg Value.bool (okB_no fun h => by have := h.rf (by omega); omega)) (by repeat (first | exact Take.nil | apply Take.cons (by repeat (first | exact Del.here | apply Del.there)))) (by repeat (first | exact trivial | refine And.intro (by repeat (first | exact Mem.here | apply Mem.there)) ?_))
                    · try replace g124 := of_decide_eq_false g124
                      refine Jl.on rfl rfl ?_
                      refine Jl.pv (PR.fieldAddr rfl tfl28_2) ?_
                      refine Jl.on rfl rfl ?_
                      refine Jl.pv (PR.load1 rfl tsh3 (by repeat (first | exact Has.here | apply Has.there)) (by rfl)) ?_
                      refine Jl.on rfl rfl ?_
                      refine Jl.pv (PR.gtr _ rfl rfl rfl) ?_
                      refine Jl.on rfl rfl ?_
                      refine Jl.pv (PR.pickF rfl rfl) ?_
                      refine Jl.pv (PR.pickT rfl rfl) ?_
                      refine Jl.nil ?_
                      refine Jq.thenN ?_
                      refine Jc.cond rfl (fun h5 => ?_) (fun h5 => ?_)
                      · try replace h5 := of_decide_eq_true h5
                        refine Jc.seq ?_
                        refine Jc.region ?_
                        refine Jl.pv (PR.assign rfl) ?_
                        refine Jl.nil ?_
                        refine Jq.thenN ?_
                        refine Jc.ret ?_
                        refine Jq.thenR ?_
                        exact Jq.fin () (.inl rfl) rfl (RetVs.tmp rfl RetVs.nil) (congrArg Value.bool (okB_no fun h => by have := h.rf (by omega); omega)) (by repeat (first | exact Take.nil | apply Take.cons (by repeat (first | exact Del.here | apply Del.there)))) (by repeat (first | exact trivial | refine And.intro (by repeat (first | exact Mem.here | apply Mem.there)) ?_))
                      · try replace h5 := of_decide_eq_false h5
                        have hrf : b.rf.st.toNat = 1 → (1 ≤ b.rf.fr ∧ b.rf.fr ≤ 1099511627776) ∧ 1 ≤ b.rf.ta ∧ b.rf.ta ≤ 1099511627776 := fun _ => by omega
                        refine Jc.skip ?_
                        refine Jq.thenN ?_
                        refine Jc.seq ?_
                        refine Jc.seq ?_
                        refine Jc.region ?_
                        refine Jl.pv (PR.fieldAddr rfl tfl30_2) ?_
                        refine Jl.pv (PR.load1 rfl tsh4 (by repeat (first | exact Has.here | apply Has.there)) (by rfl)) ?_
                        refine Jl.pv (PR.not rfl) ?_
                        refine Jl.nil ?_
                        refine Jq.thenN ?_
                        refine Jc.cond rfl (fun hset => ?_) (fun hset => ?_)
                        · try replace hset := of_decide_eq_true hset
                          refine Jc.seq ?_
                          refine Jc.region ?_
                          refine Jl.pv (PR.fieldAddr rfl tfl30_4) ?_
                          refine Jl.pv (PR.load1 rfl tsh25 (by repeat (first | exact Has.here | apply Has.there)) (by rfl)) ?_
                          refine Jl.pv (PR.len rfl tsl25) ?_
                          refine Jl.pv (PR.eql _ rfl rfl rfl) ?_
                          refine Jl.pv (PR.move rfl) ?_
                          refine Jl.bsplit (fun g137 => ?_) (fun g137 => ?_)
                          · try replace g137 := of_decide_eq_true g137
                            refine Jl.on rfl rfl ?_
                            refine Jl.pv (PR.fieldAddr rfl tfl30_6) ?_
                            refine Jl.on rfl rfl ?_
                            refine Jl.pv (PR.fieldAddr rfl tfl28_0) ?_
                            refine Jl.on rfl rfl ?_
                            refine Jl.pv (PR.load1 rfl tsh5 (by repeat (first | exact Has.here | apply Has.there)) (by rfl)) ?_
                            refine Jl.on rfl rfl ?_
                            refine Jl.pv (PR.eql _ rfl rfl rfl) ?_
                            refine Jl.pv (PR.pickT rfl rfl) ?_
                            refine Jl.pv (PR.assign rfl) ?_
                            refine Jl.nil ?_
                            refine Jq.thenN ?_
                            refine Jc.ret ?_
                            refine Jq.thenR ?_
                            exact Jq.fin () (.inl rfl) rfl (RetVs.tmp rfl RetVs.nil) (congrArg Value.bool (by rw [Bool.eq_iff_iff, okB_iff, decide_eq_true_eq]; exact ⟨fun h => by have := (h.un (by simpa using hset)).2; omega, fun h => ⟨hep, hsq, hT, hK, hrf, fun _ => ⟨by omega, by omega⟩, fun e => by simp [e] at hset⟩⟩)) (by repeat (first | exact Take.nil | apply Take.cons (by repeat (first | exact Del.here | apply Del.there)))) (by repeat (first | exact trivial | refine And.intro (by repeat (first | exact Mem.here | apply Mem.there)) ?_))
                          · try replace g137 := of_decide_eq_false g137
                            refine Jl.offS rfl rfl rfl ?_
                            refine Jl.offS rfl rfl rfl ?_
                            refine Jl.offS rfl rfl rfl ?_
                            refine Jl.offS rfl rfl rfl ?_
                            refine Jl.pv (PR.pickF rfl rfl) ?_
                            refine Jl.pv (PR.assign rfl) ?_
                            refine Jl.nil ?_
                            refine Jq.thenN ?_
                            refine Jc.ret ?_
                            refine Jq.thenR ?_
                            exact Jq.fin () (.inl rfl) rfl (RetVs.tmp rfl RetVs.nil) (congrArg Value.bool (okB_no fun h => by have := (h.un (by simpa using hset)).1; omega)) (by repeat (first | exact Take.nil | apply Take.cons (by repeat (first | exact Del.here | apply Del.there)))) (by repeat (first | exact trivial | refine And.intro (by repeat (first | exact Mem.here | apply Mem.there)) ?_))
                        · try replace hset := of_decide_eq_false hset
                          refine Jc.skip ?_
                          refine Jq.thenN ?_
                          refine Jc.seq ?_
                          refine Jc.region ?_
                          refine Jl.pv (PR.fieldAddr rfl tfl30_3) ?_
                          refine Jl.pv (PR.loadA rfl tsh24 (by repeat (first | exact Has.here | apply Has.there)) (by rfl)) ?_
                          refine Jl.call (rcheck_ct b.cf (M, cM) (by omega)) en19 (by rfl) (by repeat (first | exact Take.nil | apply Take.cons (by repeat (first | exact Del.here | apply Del.there)))) (by repeat (first | exact trivial | refine And.intro (by repeat (first | exact Mem.here | apply Mem.there)) ?_)) ?_
                          rintro ⟨⟩
                          refine Jl.pv (PR.eql _ rfl rfl rfl) ?_
                          refine Jl.pv (PR.assign rfl) ?_
                          refine Jl.nil ?_
                          refine Jq.thenN ?_
                          refine Jc.ret ?_
                          exact Jq.fin () (.inl rfl) rfl (RetVs.tmp rfl RetVs.nil) (congrArg Value.bool (by rw [Bool.eq_iff_iff, okB_iff, decide_eq_true_eq]; exact ⟨fun h => Cf.chk_ok (h.cf (by simpa using hset)), fun h => ⟨hep, hsq, hT, hK, hrf, fun e => by simp [e] at hset, fun _ => by cases e : b.cf.ok with | true => rfl | false => (rw [Cf.chk_no (by simp [e])] at h; cases h)⟩⟩)) (by repeat (first | exact Take.nil | apply Take.cons (by repeat (first | exact Del.here | apply Del.there)))) (by repeat (first | exact trivial | refine And.intro (by repeat (first | exact Mem.here | apply Mem.there)) ?_))
              · try replace g110 := of_decide_eq_false g110
                have hrf : b.rf.st.toNat = 1 → (1 ≤ b.rf.fr ∧ b.rf.fr ≤ 1099511627776) ∧ 1 ≤ b.rf.ta ∧ b.rf.ta ≤ 1099511627776 := fun h => absurd (by omega) g110
                refine Jl.offS rfl rfl rfl ?_
                refine Jl.offS rfl rfl rfl ?_
                refine Jl.offS rfl rfl rfl ?_
                refine Jl.offS rfl rfl rfl ?_
                refine Jl.offUS rfl rfl ?_
                refine Jl.offUS rfl rfl ?_
                refine Jl.offUS rfl rfl ?_
                refine Jl.offS rfl rfl rfl ?_
                refine Jl.offS rfl rfl rfl ?_
                refine Jl.offUS rfl rfl ?_
                refine Jl.offUS rfl rfl ?_
                refine Jl.offUS rfl rfl ?_
                refine Jl.offS rfl rfl rfl ?_
                refine Jl.offS rfl rfl rfl ?_
                refine Jl.offUS rfl rfl ?_
                refine Jl.offUS rfl rfl ?_
                refine Jl.offUS rfl rfl ?_
                refine Jl.offS rfl rfl rfl ?_
                refine Jl.pv (PR.pickF rfl rfl) ?_
                refine Jl.nil ?_
                refine Jq.thenN ?_
                refine Jc.condF rfl ?_
                refine Jc.skip ?_
                refine Jq.thenN ?_
                refine Jc.seq ?_
                refine Jc.seq ?_
                refine Jc.region ?_
                refine Jl.pv (PR.fieldAddr rfl tfl30_2) ?_
                refine Jl.pv (PR.load1 rfl tsh4 (by repeat (first | exact Has.here | apply Has.there)) (by rfl)) ?_
                refine Jl.pv (PR.not rfl) ?_
                refine Jl.nil ?_
                refine Jq.thenN ?_
                refine Jc.cond rfl (fun hset => ?_) (fun hset => ?_)
                · try replace hset := of_decide_eq_true hset
                  refine Jc.seq ?_
                  refine Jc.region ?_
                  refine Jl.pv (PR.fieldAddr rfl tfl30_4) ?_
                  refine Jl.pv (PR.load1 rfl tsh25 (by repeat (first | exact Has.here | apply Has.there)) (by rfl)) ?_
                  refine Jl.pv (PR.len rfl tsl25) ?_
                  refine Jl.pv (PR.eql _ rfl rfl rfl) ?_
                  refine Jl.pv (PR.move rfl) ?_
                  refine Jl.bsplit (fun g137 => ?_) (fun g137 => ?_)
                  · try replace g137 := of_decide_eq_true g137
                    refine Jl.on rfl rfl ?_
                    refine Jl.pv (PR.fieldAddr rfl tfl30_6) ?_
                    refine Jl.on rfl rfl ?_
                    refine Jl.pv (PR.fieldAddr rfl tfl28_0) ?_
                    refine Jl.on rfl rfl ?_
                    refine Jl.pv (PR.load1 rfl tsh5 (by repeat (first | exact Has.here | apply Has.there)) (by rfl)) ?_
                    refine Jl.on rfl rfl ?_
                    refine Jl.pv (PR.eql _ rfl rfl rfl) ?_
                    refine Jl.pv (PR.pickT rfl rfl) ?_
                    refine Jl.pv (PR.assign rfl) ?_
                    refine Jl.nil ?_
                    refine Jq.thenN ?_
                    refine Jc.ret ?_
                    refine Jq.thenR ?_
                    exact Jq.fin () (.inl rfl) rfl (RetVs.tmp rfl RetVs.nil) (congrArg Value.bool (by rw [Bool.eq_iff_iff, okB_iff, decide_eq_true_eq]; exact ⟨fun h => by have := (h.un (by simpa using hset)).2; omega, fun h => ⟨hep, hsq, hT, hK, hrf, fun _ => ⟨by omega, by omega⟩, fun e => by simp [e] at hset⟩⟩)) (by repeat (first | exact Take.nil | apply Take.cons (by repeat (first | exact Del.here | apply Del.there)))) (by repeat (first | exact trivial | refine And.intro (by repeat (first | exact Mem.here | apply Mem.there)) ?_))
                  · try replace g137 := of_decide_eq_false g137
                    refine Jl.offS rfl rfl rfl ?_
                    refine Jl.offS rfl rfl rfl ?_
                    refine Jl.offS rfl rfl rfl ?_
                    refine Jl.offS rfl rfl rfl ?_
                    refine Jl.pv (PR.pickF rfl rfl) ?_
                    refine Jl.pv (PR.assign rfl) ?_
                    refine Jl.nil ?_
                    refine Jq.thenN ?_
                    refine Jc.ret ?_
                    refine Jq.thenR ?_
                    exact Jq.fin () (.inl rfl) rfl (RetVs.tmp rfl RetVs.nil) (congrArg Value.bool (okB_no fun h => by have := (h.un (by simpa using hset)).1; omega)) (by repeat (first | exact Take.nil | apply Take.cons (by repeat (first | exact Del.here | apply Del.there)))) (by repeat (first | exact trivial | refine And.intro (by repeat (first | exact Mem.here | apply Mem.there)) ?_))
                · try replace hset := of_decide_eq_false hset
                  refine Jc.skip ?_
                  refine Jq.thenN ?_
                  refine Jc.seq ?_
                  refine Jc.region ?_
                  refine Jl.pv (PR.fieldAddr rfl tfl30_3) ?_
                  refine Jl.pv (PR.loadA rfl tsh24 (by repeat (first | exact Has.here | apply Has.there)) (by rfl)) ?_
                  refine Jl.call (rcheck_ct b.cf (M, cM) (by omega)) en19 (by rfl) (by repeat (first | exact Take.nil | apply Take.cons (by repeat (first | exact Del.here | apply Del.there)))) (by repeat (first | exact trivial | refine And.intro (by repeat (first | exact Mem.here | apply Mem.there)) ?_)) ?_
                  rintro ⟨⟩
                  refine Jl.pv (PR.eql _ rfl rfl rfl) ?_
                  refine Jl.pv (PR.assign rfl) ?_
                  refine Jl.nil ?_
                  refine Jq.thenN ?_
                  refine Jc.ret ?_
                  exact Jq.fin () (.inl rfl) rfl (RetVs.tmp rfl RetVs.nil) (congrArg Value.bool (by rw [Bool.eq_iff_iff, okB_iff, decide_eq_true_eq]; exact ⟨fun h => Cf.chk_ok (h.cf (by simpa using hset)), fun h => ⟨hep, hsq, hT, hK, hrf, fun e => by simp [e] at hset, fun _ => by cases e : b.cf.ok with | true => rfl | false => (rw [Cf.chk_no (by simp [e])] at h; cases h)⟩⟩)) (by repeat (first | exact Take.nil | apply Take.cons (by repeat (first | exact Del.here | apply Del.there)))) (by repeat (first | exact trivial | refine And.intro (by repeat (first | exact Mem.here | apply Mem.there)) ?_))
end Go.Proofs.YtiebgcahdnaekaaDoor
