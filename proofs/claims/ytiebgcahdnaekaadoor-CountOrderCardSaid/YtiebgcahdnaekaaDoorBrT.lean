/-
Contracts of brains: Own; the law CountMore.
-/
import Derived.Test.YtiebgcahdnaekaaDoorBrS
namespace Go.Proofs.YtiebgcahdnaekaaDoor
set_option linter.unusedVariables false
open Go.RowKit
attribute [local irreducible] Res.blk Res.row Fact.rd
theorem brown_ct (b : Br) (z : BrA) (hn : b.its.length ≤ 1000000) (hm : b.kps.length ≤ 1000000) (hms : b.cf.ms.length ≤ 1000000) : Ct Tryd.prog 14 [b.v z] [] (b.rd z) (fun x : BrA => b.v x) (fun x => b.rows x) (fun _ => []) := by
  obtain ⟨⟨M, cM⟩, ⟨I, cI⟩, ⟨K, cK⟩⟩ := z
  have hl4 := itsV_len b.its
  have hl8 := kpsV_len b.kps
  refine Ct.of _ Tryd.func14 Tryd.ntmps14 rfl rfl (fun X W => ?_)
  refine Jc.seq ?_
  refine Jc.region ?_
  refine Jl.box rfl (by rfl) ?_
  intro b1
  refine Jl.alloc tze30 ?_
  intro b2
  refine Jl.nil ?_
  refine Jq.thenN ?_
  refine Jc.seq ?_
  refine Jc.region ?_
  refine Jl.buildSlice (by rfl) tsl22 tzr22_0 (by rfl) (by rfl) ?_
  intro b3
  refine Jl.pv (PR.fieldAddr rfl tfl30_3) ?_
  refine Jl.pv (PR.fieldAddr rfl tfl24_14) ?_
  refine Jl.pv (PR.load1 rfl tsh22 (by repeat (first | exact Has.here | apply Has.there)) (by rfl)) ?_
  refine Jl.toRow 1 0 (by repeat (first | exact Swap.here | apply Swap.there)) (by rfl) (by rfl) ?_
  refine Jl.append b.cf.ms.length (i64s b.cf.ms) rfl rfl rfl tsl22 tze3 (by rfl) (by decide) tby3 (fun _ _ => (by repeat (first | exact Swap.here | apply Swap.there))) (by repeat (first | exact Mem.here | apply Mem.there)) (by omega) rfl (by simp [i64s]) (by simp [i64s, Value.oneCell']) (by omega) (by decide) ?_
  intro A7 c7
  refine Jl.pv (PR.fieldAddr rfl tfl30_3) ?_
  refine Jl.pv (PR.fieldAddr rfl tfl24_14) ?_
  refine Jl.store1 rfl tsh22 rfl (by rfl) (by repeat (first | exact Swap.here | apply Swap.there)) (by rfl) ?_
  refine Jl.nil ?_
  refine Jq.thenN ?_
  refine Jc.seq ?_
  refine Jc.region ?_
  refine Jl.buildSlice (by rfl) tsl25 tzr25_0 (by rfl) (by rfl) ?_
  intro b10
  refine Jl.pv (PR.fieldAddr rfl tfl30_4) ?_
  refine Jl.pv (PR.load1 rfl tsh25 (by repeat (first | exact Has.here | apply Has.there)) (by rfl)) ?_
  refine Jl.toRow 4 0 (by repeat (first | exact Swap.here | apply Swap.there)) (by rfl) (by rfl) ?_
  refine Jl.append b.its.length (itsV b.its) rfl rfl rfl tsl25 tze43 (by rfl) (by decide) tby43 (fun _ _ => (by repeat (first | exact Swap.here | apply Swap.there))) (by repeat (first | exact Mem.here | apply Mem.there)) (by omega) rfl (by omega) (its_one _) (by omega) (by decide) ?_
  intro A13 c13
  refine Jl.pv (PR.fieldAddr rfl tfl30_4) ?_
  refine Jl.store1 rfl tsh25 rfl (by rfl) (by repeat (first | exact Swap.here | apply Swap.there)) (by rfl) ?_
  refine Jl.nil ?_
  refine Jq.thenN ?_
  refine Jc.seq ?_
  refine Jc.region ?_
  refine Jl.buildSlice (by rfl) tsl26 tzr26_0 (by rfl) (by rfl) ?_
  intro b15
  refine Jl.pv (PR.fieldAddr rfl tfl30_5) ?_
  refine Jl.pv (PR.load1 rfl tsh26 (by repeat (first | exact Has.here | apply Has.there)) (by rfl)) ?_
  refine Jl.toRow 8 0 (by repeat (first | exact Swap.here | apply Swap.there)) (by rfl) (by rfl) ?_
  refine Jl.append b.kps.length (kpsV b.kps) rfl rfl rfl tsl26 tze38 (by rfl) (by decide) tby38 (fun _ _ => (by repeat (first | exact Swap.here | apply Swap.there))) (by repeat (first | exact Mem.here | apply Mem.there)) (by omega) rfl (by omega) (kps_one _) (by omega) (by decide) ?_
  intro A18 c18
  refine Jl.pv (PR.fieldAddr rfl tfl30_5) ?_
  refine Jl.store1 rfl tsh26 rfl (by rfl) (by repeat (first | exact Swap.here | apply Swap.there)) (by rfl) ?_
  refine Jl.nil ?_
  refine Jq.thenN ?_
  refine Jc.seq ?_
  refine Jc.region ?_
  refine Jl.pv (PR.loadW rfl tsh30 (by repeat (first | exact Has.here | apply Has.there)) (by rfl)) ?_
  refine Jl.storeW rfl tsh30 rfl (by rfl) (by first | exact Br.cs_one _ _ | simp [Value.oneCell', Br.cs]) (by repeat (first | exact Swap.here | apply Swap.there)) (by rfl) ?_
  refine Jl.nil ?_
  refine Jq.thenN ?_
  refine Jc.ret ?_
  exact Jq.fin ((A7, c7), (A13, c13), (A18, c18)) (.inl rfl) rfl (RetVs.cellA rfl (by repeat (first | exact Has.here | apply Has.there)) tsh30 (by rfl) RetVs.nil) rfl (by repeat (first | exact Take.nil | apply Take.cons (by repeat (first | exact Del.here | apply Del.there)))) (by repeat (first | exact trivial | refine And.intro (by repeat (first | exact Mem.here | apply Mem.there)) ?_))
theorem countMore_ct (b : Br) (z : BrA) (k : Kp) : Ct Tryd.prog 4 [b.v z, k.v] [] [.rd z.1.1 (i64s b.cf.ms), .rd z.2.1.1 (itsV b.its), .rd z.2.2.1 (kpsV b.kps), .lim] (fun _ : Unit => .bool true) (fun _ => []) (fun _ => []) := by
  obtain ⟨⟨M, cM⟩, ⟨I, cI⟩, ⟨K, cK⟩⟩ := z
  by_cases hgr : b.great = true
  · skip
    refine Ct.of _ Tryd.func4 Tryd.ntmps4 rfl rfl (fun X W => ?_)
    refine Jc.seq ?_
    refine Jc.region ?_
    refine Jl.box rfl (by rfl) ?_
    intro b2
    refine Jl.box rfl (by rfl) ?_
    intro b3
    refine Jl.pv (PR.assign rfl) ?_
    refine Jl.nil ?_
    refine Jq.thenN ?_
    refine Jc.seq ?_
    refine Jc.seq ?_
    refine Jc.region ?_
    refine Jl.pv (PR.loadW rfl tsh30 (by repeat (first | exact Has.here | apply Has.there)) (by rfl)) ?_
    refine Jl.call (great_ct b ((M, cM), (I, cI), (K, cK))) en7 (by rfl) (by repeat (first | exact Take.nil | apply Take.cons (by repeat (first | exact Del.here | apply Del.there)))) (by repeat (first | exact trivial | refine And.intro (by repeat (first | exact Mem.here | apply Mem.there)) ?_)) ?_
    rintro ⟨⟩
    refine Jl.as (.bool true) (congrArg Value.bool hgr) ?_
    refine Jl.nil ?_
    refine Jq.thenN ?_
    refine Jc.condT rfl ?_
    refine Jc.seq ?_
    refine Jc.region ?_
    refine Jl.call ctwakes_ct en9 (by rfl) (by repeat (first | exact Take.nil | apply Take.cons (by repeat (first | exact Del.here | apply Del.there)))) (by repeat (first | exact trivial | refine And.intro (by repeat (first | exact Mem.here | apply Mem.there)) ?_)) ?_
    rintro ⟨⟩
    refine Jl.pv (PR.assign rfl) ?_
    refine Jl.nil ?_
    refine Jq.thenN ?_
    refine Jc.ret ?_
    refine Jq.thenR ?_
    exact Jq.fin () (.inl rfl) rfl (RetVs.tmp rfl RetVs.nil) rfl (by repeat (first | exact Take.nil | apply Take.cons (by repeat (first | exact Del.here | apply Del.there)))) (by repeat (first | exact trivial | refine And.intro (by repeat (first | exact Mem.here | apply Mem.there)) ?_))
    -- hint not used: one
  obtain ⟨hn, hm, hms⟩ := great_no (by simpa using hgr)
  have hl8 := kpsV_len b.kps
  have hla : (b.addK k).kps.length = b.kps.length + 1 := by simp [Br.addK]
  have a0 := add_0 b k
  have a1 := add_1 b k
  have a2 := add_2 b k
  have l0 := b.cnt_le 0
  have l1 := b.cnt_le 1
  have l2 := b.cnt_le 2
  have e0 : 0 ≤ b.oldN k ∧ b.oldN k ≤ 1 := by unfold Br.oldN; split <;> omega
  have e1 : 0 ≤ staN k ∧ staN k ≤ 1 := by unfold staN; split <;> omega
  refine Ct.of _ Tryd.func4 Tryd.ntmps4 rfl rfl (fun X W => ?_)
  refine Jc.seq ?_
  refine Jc.region ?_
  refine Jl.box rfl (by rfl) ?_
  intro b2
  refine Jl.box rfl (by rfl) ?_
  intro b3
  refine Jl.pv (PR.assign rfl) ?_
  refine Jl.nil ?_
  refine Jq.thenN ?_
  refine Jc.seq ?_
  refine Jc.seq ?_
  refine Jc.region ?_
  refine Jl.pv (PR.loadW rfl tsh30 (by repeat (first | exact Has.here | apply Has.there)) (by rfl)) ?_
  refine Jl.call (great_ct b ((M, cM), (I, cI), (K, cK))) en7 (by rfl) (by repeat (first | exact Take.nil | apply Take.cons (by repeat (first | exact Del.here | apply Del.there)))) (by repeat (first | exact trivial | refine And.intro (by repeat (first | exact Mem.here | apply Mem.there)) ?_)) ?_
  rintro ⟨⟩
  refine Jl.as (.bool false) (congrArg Value.bool (by simpa using hgr)) ?_
  refine Jl.nil ?_
  refine Jq.thenN ?_
  refine Jc.condF rfl ?_
  refine Jc.skip ?_
  refine Jq.thenN ?_
  refine Jc.seq ?_
  refine Jc.region ?_
  refine Jl.pv (PR.loadW rfl tsh30 (by repeat (first | exact Has.here | apply Has.there)) (by rfl)) ?_
  refine Jl.call (countof_ct b ((M, cM), (I, cI), (K, cK)) (by omega) (by omega) (by omega)) en10 (by rfl) (by repeat (first | exact Take.nil | apply Take.cons (by repeat (first | exact Del.here | apply Del.there)))) (by repeat (first | exact trivial | refine And.intro (by repeat (first | exact Mem.here | apply Mem.there)) ?_)) ?_
  rintro ⟨⟩
  refine Jl.alloc tze34 ?_
  intro b5
  refine Jl.storeW rfl tsh34 rfl (by rfl) (by first | exact Br.cs_one _ _ | simp [Value.oneCell', Kp.cs, Br.counts, Br.cs]) (by repeat (first | exact Swap.here | apply Swap.there)) (by rfl) ?_
  refine Jl.nil ?_
  refine Jq.thenN ?_
  refine Jc.seq ?_
  refine Jc.region ?_
  refine Jl.pv (PR.loadW rfl tsh30 (by repeat (first | exact Has.here | apply Has.there)) (by rfl)) ?_
  refine Jl.call (brown_ct b ((M, cM), (I, cI), (K, cK)) (by omega) (by omega) (by omega)) en14 (by rfl) (by repeat (first | exact Take.nil | apply Take.cons (by repeat (first | exact Del.here | apply Del.there)))) (by repeat (first | exact trivial | refine And.intro (by repeat (first | exact Mem.here | apply Mem.there)) ?_)) ?_
  rintro ⟨⟨A1, c1⟩, ⟨A2, c2⟩, ⟨A3, c3⟩⟩
  refine Jl.alloc tze30 ?_
  intro b6
  refine Jl.storeW rfl tsh30 rfl (by rfl) (by first | exact Br.cs_one _ _ | simp [Value.oneCell', Kp.cs, Br.counts, Br.cs]) (by repeat (first | exact Swap.here | apply Swap.there)) (by rfl) ?_
  refine Jl.nil ?_
  refine Jq.thenN ?_
  refine Jc.seq ?_
  refine Jc.region ?_
  refine Jl.pv (PR.fieldAddr rfl tfl30_5) ?_
  refine Jl.pv (PR.load1 rfl tsh26 (by repeat (first | exact Has.here | apply Has.there)) (by rfl)) ?_
  refine Jl.pv (PR.loadW rfl tsh38 (by repeat (first | exact Has.here | apply Has.there)) (by rfl)) ?_
  refine Jl.buildSlice (by rfl) tsl26 tzr26_1 (by rfl) (by rfl) ?_
  intro b20
  refine Jl.seal (by repeat (first | exact Del.here | apply Del.there)) ?_
  refine Jl.append (b.addK k).kps.length (kpsV (b.kps ++ [k])) rfl rfl rfl tsl26 tze38 (by rfl) (by decide) tby38 (fun _ _ => (by repeat (first | exact Swap.here | apply Swap.there))) (by repeat (first | exact Mem.here | apply Mem.there)) hla.symm (by rw [kpsV_app]; rfl) rfl (by simp [Kp.cs, Value.oneCell']) (by omega) (by decide) ?_
  intro A21 c21
  refine Jl.pv (PR.fieldAddr rfl tfl30_5) ?_
  refine Jl.store1 rfl tsh26 rfl (by rfl) (by repeat (first | exact Swap.here | apply Swap.there)) (by rfl) ?_
  refine Jl.nil ?_
  refine Jq.thenN ?_
  refine Jc.seq ?_
  refine Jc.region ?_
  refine Jl.pv (PR.loadW rfl tsh30 (by repeat (first | exact Has.here | apply Has.there)) (by rfl)) ?_
  refine Jl.sealR (by repeat (first | exact Del.here | apply Del.there)) ?_
  refine Jl.sealR (by repeat (first | exact Del.here | apply Del.there)) ?_
  refine Jl.sealR (by repeat (first | exact Del.here | apply Del.there)) ?_
  refine Jl.call (countof_ct (b.addK k) ((A1, c1), (A2, c2), (A21, c21)) (show b.its.length ≤ 1000 by omega) (by omega) (show b.cf.ms.length ≤ 1000 by omega)) en10 (by rfl) (by repeat (first | exact Take.nil | apply Take.cons (by repeat (first | exact Del.here | apply Del.there)))) (by repeat (first | exact trivial | refine And.intro (by repeat (first | exact Mem.here | apply Mem.there)) ?_)) ?_
  rintro ⟨⟩
  refine Jl.alloc tze34 ?_
  intro b7
  refine Jl.storeW rfl tsh34 rfl (by rfl) (by first | exact Br.cs_one _ _ | simp [Value.oneCell', Kp.cs, Br.counts, Br.cs]) (by repeat (first | exact Swap.here | apply Swap.there)) (by rfl) ?_
  refine Jl.nil ?_
  refine Jq.thenN ?_
  refine Jc.seq ?_
  refine Jc.region ?_
  refine Jl.pv (PR.assign rfl) ?_
  refine Jl.nil ?_
  refine Jq.thenN ?_
  refine Jc.mid (σ := Unit) (fun _ => [(2, .pointer (some ⟨b2, 0, none⟩)), (3, .pointer (some ⟨b3, 0, none⟩)), (5, .pointer (some ⟨b5, 0, none⟩)), (7, .pointer (some ⟨b7, 0, none⟩)), (8, .int .i64 (b.oldN k))]) (fun _ => [.blk b7 34 (b.addK k).counts, .blk b5 34 b.counts, .blk b3 38 k.cs]) (fun _ => [.lim]) ?_ ?_
  · refine Jc.seq ?_
    refine Jc.region ?_
    refine Jl.pv (PR.fieldAddr rfl tfl38_2) ?_
    refine Jl.pv (PR.load1 rfl tsh3 (by repeat (first | exact Has.here | apply Has.there)) (by rfl)) ?_
    refine Jl.pv (PR.fieldAddr rfl tfl34_0) ?_
    refine Jl.pv (PR.load1 rfl tsh3 (by repeat (first | exact Has.here | apply Has.there)) (by rfl)) ?_
    refine Jl.pv (PR.neq _ rfl rfl rfl) ?_
    refine Jl.pv (PR.move rfl) ?_
    refine Jl.bsplit (fun g30 => ?_) (fun g30 => ?_)
    · try replace g30 := of_decide_eq_true g30
      refine Jl.on rfl rfl ?_
      refine Jl.pv (PR.fieldAddr rfl tfl38_4) ?_
      refine Jl.on rfl rfl ?_
      refine Jl.pv (PR.load1 rfl tsh5 (by repeat (first | exact Has.here | apply Has.there)) (by rfl)) ?_
      refine Jl.on rfl rfl ?_
      refine Jl.call (rgoes_ct k.ph) en11 (by rfl) (by repeat (first | exact Take.nil | apply Take.cons (by repeat (first | exact Del.here | apply Del.there)))) (by repeat (first | exact trivial | refine And.intro (by repeat (first | exact Mem.here | apply Mem.there)) ?_)) ?_
      rintro ⟨⟩
      refine Jl.on rfl rfl ?_
      refine Jl.pv (PR.not rfl) ?_
      refine Jl.pv (PR.pickT rfl rfl) ?_
      refine Jl.pv (PR.move rfl) ?_
      refine Jl.bsplit (fun g36 => ?_) (fun g36 => ?_)
      · try replace g36 := of_decide_eq_true g36
        refine Jl.on rfl rfl ?_
        refine Jl.pv (PR.fieldAddr rfl tfl38_6) ?_
        refine Jl.on rfl rfl ?_
        refine Jl.pv (PR.load1 rfl tsh4 (by repeat (first | exact Has.here | apply Has.there)) (by rfl)) ?_
        refine Jl.on rfl rfl ?_
        refine Jl.pv (PR.move rfl) ?_
        refine Jl.bsplit (fun g39 => ?_) (fun g39 => ?_)
        · try replace g39 := of_decide_eq_true g39
          refine Jl.on rfl rfl ?_
          refine Jl.pv (PR.fieldAddr rfl tfl30_3) ?_
          refine Jl.on rfl rfl ?_
          refine Jl.pv (PR.fieldAddr rfl tfl24_13) ?_
          refine Jl.on rfl rfl ?_
          refine Jl.pv (PR.load1 rfl tsh4 (by repeat (first | exact Has.here | apply Has.there)) (by rfl)) ?_
          refine Jl.on rfl rfl ?_
          refine Jl.pv (PR.pickT rfl rfl) ?_
          refine Jl.on rfl rfl ?_
          refine Jl.pv (PR.not rfl) ?_
          refine Jl.pv (PR.pickT rfl rfl) ?_
          refine Jl.nil ?_
          refine Jq.thenN ?_
          refine Jc.cond rfl (fun h0 => ?_) (fun h0 => ?_)
          · try replace h0 := of_decide_eq_true h0
            refine Jc.region ?_
            refine Jl.pv (PR.assign rfl) ?_
            refine Jl.nil ?_
            exact Jq.midT () (by exact ⟨rfl, rfl, rfl, rfl, congrArg (fun v => some (Value.int .i64 v)) (by simp_all [Br.oldN, Br.old]), trivial⟩) (by repeat (first | exact Take.nil | apply Take.cons (by repeat (first | exact Del.here | apply Del.there)))) (by repeat (first | exact trivial | refine And.intro (by repeat (first | exact Mem.here | apply Mem.there)) ?_))
          · try replace h0 := of_decide_eq_false h0
            refine Jc.skip ?_
            exact Jq.midT () (by exact ⟨rfl, rfl, rfl, rfl, congrArg (fun v => some (Value.int .i64 v)) (by simp_all [Br.oldN, Br.old]), trivial⟩) (by repeat (first | exact Take.nil | apply Take.cons (by repeat (first | exact Del.here | apply Del.there)))) (by repeat (first | exact trivial | refine And.intro (by repeat (first | exact Mem.here | apply Mem.there)) ?_))
        · try replace g39 := of_decide_eq_false g39
          refine Jl.offS rfl rfl rfl ?_
          refine Jl.offS rfl rfl rfl ?_
          refine Jl.offS rfl rfl rfl ?_
          refine Jl.on rfl rfl ?_
          refine Jl.pv (PR.pickF rfl rfl) ?_
          refine Jl.on rfl rfl ?_
          refine Jl.pv (PR.not rfl) ?_
          refine Jl.pv (PR.pickT rfl rfl) ?_
          refine Jl.nil ?_
          refine Jq.thenN ?_
          refine Jc.condT rfl ?_
          refine Jc.region ?_
          refine Jl.pv (PR.assign rfl) ?_
          refine Jl.nil ?_
          exact Jq.midT () (by exact ⟨rfl, rfl, rfl, rfl, congrArg (fun v => some (Value.int .i64 v)) (by simp_all [Br.oldN, Br.old]), trivial⟩) (by repeat (first | exact Take.nil | apply Take.cons (by repeat (first | exact Del.here | apply Del.there)))) (by repeat (first | exact trivial | refine And.intro (by repeat (first | exact Mem.here | apply Mem.there)) ?_))
      · try replace g36 := of_decide_eq_false g36
        refine Jl.offS rfl rfl rfl ?_
        refine Jl.offS rfl rfl rfl ?_
        refine Jl.offS rfl rfl rfl ?_
        refine Jl.offUS rfl rfl ?_
        refine Jl.offUS rfl rfl ?_
        refine Jl.offUS rfl rfl ?_
        refine Jl.offS rfl rfl rfl ?_
        refine Jl.offS rfl rfl rfl ?_
        refine Jl.pv (PR.pickF rfl rfl) ?_
        refine Jl.nil ?_
        refine Jq.thenN ?_
        refine Jc.condF rfl ?_
        refine Jc.skip ?_
        exact Jq.midT () (by exact ⟨rfl, rfl, rfl, rfl, congrArg (fun v => some (Value.int .i64 v)) (by simp_all [Br.oldN, Br.old]), trivial⟩) (by repeat (first | exact Take.nil | apply Take.cons (by repeat (first | exact Del.here | apply Del.there)))) (by repeat (first | exact trivial | refine And.intro (by repeat (first | exact Mem.here | apply Mem.there)) ?_))
    · try replace g30 := of_decide_eq_false g30
      refine Jl.offS rfl rfl rfl ?_
      refine Jl.offS rfl rfl rfl ?_
      refine Jl.offS rfl rfl rfl ?_
      refine Jl.offS rfl rfl rfl ?_
      refine Jl.pv (PR.pickF rfl rfl) ?_
      refine Jl.pv (PR.move rfl) ?_
      refine Jl.offS rfl rfl rfl ?_
      refine Jl.offS rfl rfl rfl ?_
      refine Jl.offS rfl rfl rfl ?_
      refine Jl.offUS rfl rfl ?_
      refine Jl.offUS rfl rfl ?_
      refine Jl.offUS rfl rfl ?_
      refine Jl.offS rfl rfl rfl ?_
      refine Jl.offS rfl rfl rfl ?_
      refine Jl.pv (PR.pickF rfl rfl) ?_
      refine Jl.nil ?_
      refine Jq.thenN ?_
      refine Jc.condF rfl ?_
      refine Jc.skip ?_
      exact Jq.midT () (by exact ⟨rfl, rfl, rfl, rfl, congrArg (fun v => some (Value.int .i64 v)) (by simp_all [Br.oldN, Br.old]), trivial⟩) (by repeat (first | exact Take.nil | apply Take.cons (by repeat (first | exact Del.here | apply Del.there)))) (by repeat (first | exact trivial | refine And.intro (by repeat (first | exact Mem.here | apply Mem.there)) ?_))
  · rintro ⟨⟩
    refine Jc.seq ?_
    refine Jc.region ?_
    refine Jl.pv (PR.assign rfl) ?_
    refine Jl.nil ?_
    refine Jq.thenN ?_
    refine Jc.mid (σ := Unit) (fun _ => [(2, .pointer (some ⟨b2, 0, none⟩)), (3, .pointer (some ⟨b3, 0, none⟩)), (5, .pointer (some ⟨b5, 0, none⟩)), (7, .pointer (some ⟨b7, 0, none⟩)), (8, .int .i64 (b.oldN k)), (9, .int .i64 (staN k))]) (fun _ => [.blk b7 34 (b.addK k).counts, .blk b5 34 b.counts, .blk b3 38 k.cs]) (fun _ => [.lim]) ?_ ?_
    · refine Jc.seq ?_
      refine Jc.region ?_
      refine Jl.pv (PR.fieldAddr rfl tfl38_4) ?_
      refine Jl.pv (PR.load1 rfl tsh5 (by repeat (first | exact Has.here | apply Has.there)) (by rfl)) ?_
      refine Jl.call (rstands_ct k.ph) en15 (by rfl) (by repeat (first | exact Take.nil | apply Take.cons (by repeat (first | exact Del.here | apply Del.there)))) (by repeat (first | exact trivial | refine And.intro (by repeat (first | exact Mem.here | apply Mem.there)) ?_)) ?_
      rintro ⟨⟩
      refine Jl.nil ?_
      refine Jq.thenN ?_
      refine Jc.cond rfl (fun h1 => ?_) (fun h1 => ?_)
      · try replace h1 := of_decide_eq_true h1
        refine Jc.region ?_
        refine Jl.pv (PR.assign rfl) ?_
        refine Jl.nil ?_
        exact Jq.midT () (by exact ⟨rfl, rfl, rfl, rfl, rfl, congrArg (fun v => some (Value.int .i64 v)) (Eq.symm (if_pos (decide_eq_true h1))), trivial⟩) (by repeat (first | exact Take.nil | apply Take.cons (by repeat (first | exact Del.here | apply Del.there)))) (by repeat (first | exact trivial | refine And.intro (by repeat (first | exact Mem.here | apply Mem.there)) ?_))
      · try replace h1 := of_decide_eq_false h1
        refine Jc.skip ?_
        exact Jq.midT () (by exact ⟨rfl, rfl, rfl, rfl, rfl, congrArg (fun v => some (Value.int .i64 v)) (Eq.symm (if_neg (fun h => h1 (of_decide_eq_true h)))), trivial⟩) (by repeat (first | exact Take.nil | apply Take.cons (by repeat (first | exact Del.here | apply Del.there)))) (by repeat (first | exact trivial | refine And.intro (by repeat (first | exact Mem.here | apply Mem.there)) ?_))
    · rintro ⟨⟩
      refine Jc.seq ?_
      refine Jc.region ?_
      refine Jl.pv (PR.fieldAddr rfl tfl34_4) ?_
      refine Jl.pv (PR.load1 rfl tsh3 (by repeat (first | exact Has.here | apply Has.there)) (by rfl)) ?_
      refine Jl.pv (PR.fieldAddr rfl tfl34_4) ?_
      refine Jl.pv (PR.load1 rfl tsh3 (by repeat (first | exact Has.here | apply Has.there)) (by rfl)) ?_
      refine Jl.pv (PR.add _ rfl rfl (w64 (by omega) (by omega))) ?_
      refine Jl.pv (PR.eql true rfl rfl (decide_eq_true a0)) ?_
      refine Jl.pv (PR.move rfl) ?_
      refine Jl.on rfl rfl ?_
      refine Jl.pv (PR.fieldAddr rfl tfl34_1) ?_
      refine Jl.on rfl rfl ?_
      refine Jl.pv (PR.load1 rfl tsh3 (by repeat (first | exact Has.here | apply Has.there)) (by rfl)) ?_
      refine Jl.on rfl rfl ?_
      refine Jl.pv (PR.fieldAddr rfl tfl34_1) ?_
      refine Jl.on rfl rfl ?_
      refine Jl.pv (PR.load1 rfl tsh3 (by repeat (first | exact Has.here | apply Has.there)) (by rfl)) ?_
      refine Jl.on rfl rfl ?_
      refine Jl.pv (PR.move rfl) ?_
      refine Jl.on rfl rfl ?_
      refine Jl.pv (PR.add _ rfl rfl (w64 (by omega) (by omega))) ?_
      refine Jl.on rfl rfl ?_
      refine Jl.pv (PR.eql true rfl rfl (decide_eq_true a1)) ?_
      refine Jl.pv (PR.pickT rfl rfl) ?_
      refine Jl.pv (PR.move rfl) ?_
      refine Jl.on rfl rfl ?_
      refine Jl.pv (PR.fieldAddr rfl tfl34_2) ?_
      refine Jl.on rfl rfl ?_
      refine Jl.pv (PR.load1 rfl tsh3 (by repeat (first | exact Has.here | apply Has.there)) (by rfl)) ?_
      refine Jl.on rfl rfl ?_
      refine Jl.pv (PR.fieldAddr rfl tfl34_2) ?_
      refine Jl.on rfl rfl ?_
      refine Jl.pv (PR.load1 rfl tsh3 (by repeat (first | exact Has.here | apply Has.there)) (by rfl)) ?_
      refine Jl.on rfl rfl ?_
      refine Jl.pv (PR.move rfl) ?_
      refine Jl.on rfl rfl ?_
      refine Jl.pv (PR.add _ rfl rfl (w64 (by omega) (by omega))) ?_
      refine Jl.on rfl rfl ?_
      refine Jl.pv (PR.eql true rfl rfl (decide_eq_true a2)) ?_
      refine Jl.pv (PR.pickT rfl rfl) ?_
      refine Jl.pv (PR.move rfl) ?_
      refine Jl.on rfl rfl ?_
      refine Jl.pv (PR.fieldAddr rfl tfl34_0) ?_
      refine Jl.on rfl rfl ?_
      refine Jl.pv (PR.load1 rfl tsh3 (by repeat (first | exact Has.here | apply Has.there)) (by rfl)) ?_
      refine Jl.on rfl rfl ?_
      refine Jl.pv (PR.fieldAddr rfl tfl34_0) ?_
      refine Jl.on rfl rfl ?_
      refine Jl.pv (PR.load1 rfl tsh3 (by repeat (first | exact Has.here | apply Has.there)) (by rfl)) ?_
      refine Jl.on rfl rfl ?_
      refine Jl.pv (PR.eql true rfl rfl (decide_eq_true rfl)) ?_
      refine Jl.pv (PR.pickT rfl rfl) ?_
      refine Jl.pv (PR.move rfl) ?_
      refine Jl.on rfl rfl ?_
      refine Jl.pv (PR.fieldAddr rfl tfl34_7) ?_
      refine Jl.on rfl rfl ?_
      refine Jl.pv (PR.load1 rfl tsh3 (by repeat (first | exact Has.here | apply Has.there)) (by rfl)) ?_
      refine Jl.on rfl rfl ?_
      refine Jl.pv (PR.fieldAddr rfl tfl34_7) ?_
      refine Jl.on rfl rfl ?_
      refine Jl.pv (PR.load1 rfl tsh3 (by repeat (first | exact Has.here | apply Has.there)) (by rfl)) ?_
      refine Jl.on rfl rfl ?_
      refine Jl.pv (PR.eql true rfl rfl (decide_eq_true rfl)) ?_
      refine Jl.pv (PR.pickT rfl rfl) ?_
      refine Jl.pv (PR.move rfl) ?_
      refine Jl.on rfl rfl ?_
      refine Jl.pv (PR.fieldAddr rfl tfl34_8) ?_
      refine Jl.on rfl rfl ?_
      refine Jl.pv (PR.load1 rfl tsh3 (by repeat (first | exact Has.here | apply Has.there)) (by rfl)) ?_
      refine Jl.on rfl rfl ?_
      refine Jl.pv (PR.fieldAddr rfl tfl34_8) ?_
      refine Jl.on rfl rfl ?_
      refine Jl.pv (PR.load1 rfl tsh3 (by repeat (first | exact Has.here | apply Has.there)) (by rfl)) ?_
      refine Jl.on rfl rfl ?_
      refine Jl.pv (PR.eql true rfl rfl (decide_eq_true rfl)) ?_
      refine Jl.pv (PR.pickT rfl rfl) ?_
      refine Jl.pv (PR.move rfl) ?_
      refine Jl.on rfl rfl ?_
      refine Jl.call ctwakes_ct en9 (by rfl) (by repeat (first | exact Take.nil | apply Take.cons (by repeat (first | exact Del.here | apply Del.there)))) (by repeat (first | exact trivial | refine And.intro (by repeat (first | exact Mem.here | apply Mem.there)) ?_)) ?_
      rintro ⟨⟩
      refine Jl.as (.bool true) (congrArg Value.bool rfl) ?_
      refine Jl.pv (PR.pickT rfl rfl) ?_
      refine Jl.pv (PR.assign rfl) ?_
      refine Jl.nil ?_
      refine Jq.thenN ?_
      refine Jc.ret ?_
      exact Jq.fin () (.inl rfl) rfl (RetVs.tmp rfl RetVs.nil) rfl (by repeat (first | exact Take.nil | apply Take.cons (by repeat (first | exact Del.here | apply Del.there)))) (by repeat (first | exact trivial | refine And.intro (by repeat (first | exact Mem.here | apply Mem.there)) ?_))
end Go.Proofs.YtiebgcahdnaekaaDoor
