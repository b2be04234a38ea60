/-
The law CountOrder.
-/
import Derived.Test.YtiebgcahdnaekaaDoorBrD
namespace Go.Proofs.YtiebgcahdnaekaaDoor
set_option linter.unusedVariables false
open Go.RowKit
attribute [local irreducible] Res.blk Res.row Fact.rd
theorem countOrder_ct (b : Br) (z : BrA) (v : Int) : Ct Tryd.prog 5 [b.v z, .int .i64 v] [] [.rd z.1.1 (i64s b.cf.ms), .rd z.2.1.1 (itsV b.its), .rd z.2.2.1 (kpsV b.kps), .lim] (fun _ : Unit => .bool true) (fun _ => []) (fun _ => []) := by
  obtain ⟨⟨M, cM⟩, ⟨I, cI⟩, ⟨K, cK⟩⟩ := z
  by_cases hgr : b.great = true
  · skip
    refine Ct.of _ Tryd.func5 Tryd.ntmps5 rfl rfl (fun X W => ?_)
    refine Jc.seq ?_
    refine Jc.region ?_
    refine Jl.box rfl (by rfl) ?_
    intro b2
    refine Jl.pv (PR.assign rfl) ?_
    refine Jl.nil ?_
    refine Jq.thenN ?_
    refine Jc.seq ?_
    refine Jc.seq ?_
    refine Jc.region ?_
    refine Jl.pv (PR.loadW rfl tsh30 (by repeat (first | exact Has.here | apply Has.there)) (by rfl)) ?_
    refine Jl.call (great_ct b ((M, cM), (I, cI), (K, cK))) en7 (by rfl) (by repeat (first | exact Take.nil | apply Take.cons (by repeat (first | exact Del.here | apply Del.there)))) (by repeat (first | exact trivial | refine And.intro (by repeat (first | exact Mem.here | apply Mem.there)) ?_)) ?_
    rintro ⟨⟩
    refine Jl.as (.bool true) (congrArg Value.bool hgr) ?_
    refine Jl.pv (PR.move rfl) ?_
    refine Jl.offS rfl rfl rfl ?_
    refine Jl.offS rfl rfl rfl ?_
    refine Jl.offS rfl rfl rfl ?_
    refine Jl.pv (PR.pickT rfl rfl) ?_
    refine Jl.nil ?_
    refine Jq.thenN ?_
    refine Jc.condT rfl ?_
    refine Jc.seq ?_
    refine Jc.region ?_
    refine Jl.call ctwakes_ct en9 (by rfl) (by repeat (first | exact Take.nil | apply Take.cons (by repeat (first | exact Del.here | apply Del.there)))) (by repeat (first | exact trivial | refine And.intro (by repeat (first | exact Mem.here | apply Mem.there)) ?_)) ?_
    rintro ⟨⟩
    refine Jl.pv (PR.assign rfl) ?_
    refine Jl.nil ?_
    refine Jq.thenN ?_
    refine Jc.ret ?_
    refine Jq.thenR ?_
    exact Jq.fin () (.inl rfl) rfl (RetVs.tmp rfl RetVs.nil) rfl (by repeat (first | exact Take.nil | apply Take.cons (by repeat (first | exact Del.here | apply Del.there)))) (by repeat (first | exact trivial | refine And.intro (by repeat (first | exact Mem.here | apply Mem.there)) ?_))
    -- hint not used: one
  obtain ⟨hn, hm, hms⟩ := great_no (by simpa using hgr)
  have hl8 := kpsV_len b.kps
  have hl4 := itsV_len b.its
  have hrc := rev_counts b
  refine Ct.of _ Tryd.func5 Tryd.ntmps5 rfl rfl (fun X W => ?_)
  refine Jc.seq ?_
  refine Jc.region ?_
  refine Jl.box rfl (by rfl) ?_
  intro b2
  refine Jl.pv (PR.assign rfl) ?_
  refine Jl.nil ?_
  refine Jq.thenN ?_
  refine Jc.seq ?_
  refine Jc.seq ?_
  refine Jc.region ?_
  refine Jl.pv (PR.loadW rfl tsh30 (by repeat (first | exact Has.here | apply Has.there)) (by rfl)) ?_
  refine Jl.call (great_ct b ((M, cM), (I, cI), (K, cK))) en7 (by rfl) (by repeat (first | exact Take.nil | apply Take.cons (by repeat (first | exact Del.here | apply Del.there)))) (by repeat (first | exact trivial | refine And.intro (by repeat (first | exact Mem.here | apply Mem.there)) ?_)) ?_
  rintro ⟨⟩
  refine Jl.as (.bool false) (congrArg Value.bool (by simpa using hgr)) ?_
  refine Jl.pv (PR.move rfl) ?_
  refine Jl.on rfl rfl ?_
  refine Jl.pv (PR.loadW rfl tsh30 (by repeat (first | exact Has.here | apply Has.there)) (by rfl)) ?_
  refine Jl.on rfl rfl ?_
  refine Jl.call (right_ct b ((M, cM), (I, cI), (K, cK)) (by omega) (by omega) (by omega)) en8 (by rfl) (by repeat (first | exact Take.nil | apply Take.cons (by repeat (first | exact Del.here | apply Del.there)))) (by repeat (first | exact trivial | refine And.intro (by repeat (first | exact Mem.here | apply Mem.there)) ?_)) ?_
  rintro ⟨⟩
  refine Jl.on rfl rfl ?_
  refine Jl.pv (PR.not rfl) ?_
  refine Jl.pv (PR.pickF rfl rfl) ?_
  refine Jl.nil ?_
  refine Jq.thenN ?_
  refine Jc.cond rfl (fun h0 => ?_) (fun h0 => ?_)
  · try replace h0 := of_decide_eq_true h0
    refine Jc.seq ?_
    refine Jc.region ?_
    refine Jl.call ctwakes_ct en9 (by rfl) (by repeat (first | exact Take.nil | apply Take.cons (by repeat (first | exact Del.here | apply Del.there)))) (by repeat (first | exact trivial | refine And.intro (by repeat (first | exact Mem.here | apply Mem.there)) ?_)) ?_
    rintro ⟨⟩
    refine Jl.pv (PR.assign rfl) ?_
    refine Jl.nil ?_
    refine Jq.thenN ?_
    refine Jc.ret ?_
    refine Jq.thenR ?_
    exact Jq.fin () (.inl rfl) rfl (RetVs.tmp rfl RetVs.nil) rfl (by repeat (first | exact Take.nil | apply Take.cons (by repeat (first | exact Del.here | apply Del.there)))) (by repeat (first | exact trivial | refine And.intro (by repeat (first | exact Mem.here | apply Mem.there)) ?_))
  · try replace h0 := of_decide_eq_false h0
    refine Jc.skip ?_
    refine Jq.thenN ?_
    refine Jc.seq ?_
    refine Jc.region ?_
    refine Jl.pv (PR.loadW rfl tsh30 (by repeat (first | exact Has.here | apply Has.there)) (by rfl)) ?_
    refine Jl.call (countof_ct b ((M, cM), (I, cI), (K, cK)) (by omega) (by omega) (by omega)) en10 (by rfl) (by repeat (first | exact Take.nil | apply Take.cons (by repeat (first | exact Del.here | apply Del.there)))) (by repeat (first | exact trivial | refine And.intro (by repeat (first | exact Mem.here | apply Mem.there)) ?_)) ?_
    rintro ⟨⟩
    refine Jl.alloc tze34 ?_
    intro b5
    refine Jl.storeW rfl tsh34 rfl (by rfl) (by first | exact Br.cs_one _ _ | simp [Value.oneCell', Kp.cs, It1.cs, Br.counts]) (by repeat (first | exact Swap.here | apply Swap.there)) (by rfl) ?_
    refine Jl.nil ?_
    refine Jq.thenN ?_
    refine Jc.seq ?_
    refine Jc.region ?_
    refine Jl.pv (PR.loadW rfl tsh30 (by repeat (first | exact Has.here | apply Has.there)) (by rfl)) ?_
    refine Jl.call (brown_ct b ((M, cM), (I, cI), (K, cK)) (by omega) (by omega) (by omega)) en14 (by rfl) (by repeat (first | exact Take.nil | apply Take.cons (by repeat (first | exact Del.here | apply Del.there)))) (by repeat (first | exact trivial | refine And.intro (by repeat (first | exact Mem.here | apply Mem.there)) ?_)) ?_
    rintro ⟨⟨A1, c1⟩, ⟨A2, c2⟩, ⟨A3, c3⟩⟩
    refine Jl.alloc tze30 ?_
    intro b6
    refine Jl.storeW rfl tsh30 rfl (by rfl) (by first | exact Br.cs_one _ _ | simp [Value.oneCell', Kp.cs, It1.cs, Br.counts]) (by repeat (first | exact Swap.here | apply Swap.there)) (by rfl) ?_
    refine Jl.nil ?_
    refine Jq.thenN ?_
    refine Jc.seq ?_
    refine Jc.seq ?_
    refine Jc.region ?_
    refine Jl.pv (PR.assign rfl) ?_
    refine Jl.nil ?_
    refine Jq.thenN ?_
    refine Jc.block ?_
    refine Jc.lessR (rs := [.row 38 8 (.slice A3 b.kps.length c3) b.kps.length (kpsV (rvK b.kps 0)), .row 43 4 (.slice A2 b.its.length c2) b.its.length (itsV (b.its)), .row 3 1 (.slice A1 b.cf.ms.length c1) b.cf.ms.length (i64s b.cf.ms), .blk b6 30 (b.cs ((A1, c1), (A2, c2), (A3, c3))), .blk b5 34 b.counts, .blk b2 30 (b.cs ((M, cM), (I, cI), (K, cK)))]) (by repeat (first | exact Take.nil | apply Take.cons (by repeat (first | exact Del.here | apply Del.there)))) ?_
    refine Jc.loop (σ := { k : Nat // k ≤ b.kps.length }) (fun s => [(7, Value.int .i64 (s.1 : Int)), (6, .pointer (some ⟨b6, 0, none⟩)), (5, .pointer (some ⟨b5, 0, none⟩)), (2, .pointer (some ⟨b2, 0, none⟩)), (1, .int .i64 v)]) (fun s => [.row 38 8 (.slice A3 b.kps.length c3) b.kps.length (kpsV (rvK b.kps s.1)), .row 43 4 (.slice A2 b.its.length c2) b.its.length (itsV (b.its)), .row 3 1 (.slice A1 b.cf.ms.length c1) b.cf.ms.length (i64s b.cf.ms), .blk b6 30 (b.cs ((A1, c1), (A2, c2), (A3, c3))), .blk b5 34 b.counts, .blk b2 30 (b.cs ((M, cM), (I, cI), (K, cK)))]) (fun s => [.rd M (i64s b.cf.ms), .rd I (itsV b.its), .rd K (kpsV b.kps), .lim]) (fun s => b.kps.length - s.1) ⟨0, Nat.zero_le _⟩ (by repeat (first | exact trivial | refine And.intro rfl ?_)) rfl (by repeat (first | exact trivial | refine And.intro (by repeat (first | exact Mem.here | apply Mem.there)) ?_)) ?_
    rintro ⟨k, hk⟩
    show Jc _ _ _ _ _ _ [(7, Value.int .i64 (k : Int)), (6, .pointer (some ⟨b6, 0, none⟩)), (5, .pointer (some ⟨b5, 0, none⟩)), (2, .pointer (some ⟨b2, 0, none⟩)), (1, .int .i64 v)] [.row 38 8 (.slice A3 b.kps.length c3) b.kps.length (kpsV (rvK b.kps k)), .row 43 4 (.slice A2 b.its.length c2) b.its.length (itsV (b.its)), .row 3 1 (.slice A1 b.cf.ms.length c1) b.cf.ms.length (i64s b.cf.ms), .blk b6 30 (b.cs ((A1, c1), (A2, c2), (A3, c3))), .blk b5 34 b.counts, .blk b2 30 (b.cs ((M, cM), (I, cI), (K, cK)))] [.rd M (i64s b.cf.ms), .rd I (itsV b.its), .rd K (kpsV b.kps), .lim]
    have hrl : (kpsV (rvK b.kps k)).length = b.kps.length * 8 := by rw [kpsV_len, rvK_len _ hk]
    refine Jc.seq ?_
    refine Jc.seq ?_
    refine Jc.region ?_
    refine Jl.pv (PR.move rfl) ?_
    refine Jl.pv (PR.fieldAddr rfl tfl30_5) ?_
    refine Jl.pv (PR.load1 rfl tsh26 (by repeat (first | exact Has.here | apply Has.there)) (by rfl)) ?_
    refine Jl.pv (PR.len rfl tsl26) ?_
    refine Jl.pv (PR.lss _ rfl rfl rfl) ?_
    refine Jl.nil ?_
    refine Jq.thenN ?_
    refine Jc.cond rfl (fun h1 => ?_) (fun h1 => ?_)
    · try replace h1 := of_decide_eq_true h1
      have hlt : k < b.kps.length := by omega
      refine Jc.skip ?_
      refine Jq.thenN ?_
      refine Jc.seq ?_
      refine Jc.block ?_
      refine Jc.drawn [0, 1, 0, 0, 8, 0, 32, 96, 224, 0, 992, 2040, 4088, 8191, 16383] ([], []) [⟨[(0, false), (1, false), (2, false), (3, false), (4, false), (5, false), (6, false), (7, false), (8, false), (9, false), (10, false), (11, false), (12, false), (13, false)], [], 14⟩] tmx (by kernel_rfl) ?_
      refine Dh.JH.cons ?_
      refine Dh.JB.pv rfl trivial (fun _ => PR.fieldAddr rfl tfl30_5) ?_
      refine Dh.JB.rd [.blk _ _ _] rfl trivial (by repeat (first | exact Take.nil | apply Take.cons (by repeat (first | exact Del.here | apply Del.there)))) (fun _ => PR.load1 rfl tsh26 Has.here (by rfl)) ?_
      refine Dh.JB.pv rfl trivial (fun _ => PR.move rfl) ?_
      refine Dh.JB.pv rfl trivial (fun _ => PR.fieldAddr rfl tfl30_5) ?_
      refine Dh.JB.rd [.blk _ _ _] rfl trivial (by repeat (first | exact Take.nil | apply Take.cons (by repeat (first | exact Del.here | apply Del.there)))) (fun _ => PR.load1 rfl tsh26 Has.here (by rfl)) ?_
      refine Dh.JB.pv rfl trivial (fun _ => PR.fieldAddr rfl tfl30_5) ?_
      refine Dh.JB.rd [.blk _ _ _] rfl trivial (by repeat (first | exact Take.nil | apply Take.cons (by repeat (first | exact Del.here | apply Del.there)))) (fun _ => PR.load1 rfl tsh26 Has.here (by rfl)) ?_
      refine Dh.JB.pv rfl trivial (fun _ => PR.len rfl tsl26) ?_
      refine Dh.JB.pv rfl trivial (fun _ => PR.sub ((b.kps.length - 1 : Nat) : Int) rfl rfl (wsub (a := b.kps.length) (b := 1) (by omega) (by omega))) ?_
      refine Dh.JB.pv rfl trivial (fun _ => PR.move rfl) ?_
      refine Dh.JB.pv rfl trivial (fun _ => PR.sub ((b.kps.length - 1 - k : Nat) : Int) rfl rfl (wsub (a := b.kps.length - 1) (b := k) (by omega) (by omega))) ?_
      refine Dh.JB.pv rfl trivial (fun _ => PR.idx (b.kps.length - 1 - k) rfl rfl tsl26 (by repeat (first | exact Mem.here | apply Mem.there)) (kpsV_len _) (by omega) rfl (by omega)) ?_
      refine Dh.JB.pv rfl trivial (fun _ => PR.loadRA rfl tsh38 (by repeat (first | exact Mem.here | apply Mem.there)) (by decide) (kps_at (l := b.kps) (k := b.kps.length - 1 - k) (by omega))) ?_
      refine Dh.JB.rd [.row _ _ _ _ _] rfl trivial (by repeat (first | exact Take.nil | apply Take.cons (by repeat (first | exact Del.here | apply Del.there)))) (fun _ => PR.idxO k rfl rfl tsl26 Del.here (by decide) rfl hlt) ?_
      refine Dh.JB.nil ?_
      refine Dh.JL.nil ?_
      refine Dh.JE.mk rfl (fun _ h => by cases h) (fun C8_14 => ?_)
      refine Jl.storeOA rfl tsh38 rfl (by rfl) (by rfl) (by decide) (by first | exact Br.cs_one _ _ | simp [Value.oneCell', Kp.cs, It1.cs, Br.counts]) (by repeat (first | exact Swap.here | apply Swap.there)) (kps_rv hlt) ?_
      refine Jl.nil ?_
      refine Dh.Jq.segN (by repeat (first | exact Dh.FExt.refl | apply Dh.FExt.cons | apply Dh.FExt.app)) ?_ (by repeat (first | exact Dh.KeepL.nil | apply Dh.KeepL.anc (by rfl) | apply Dh.KeepL.keep (by repeat (first | exact Take.nil | apply Take.cons (by repeat (first | exact Del.here | apply Del.there))))))
      refine Dh.JH.nil ?_
      refine Dh.JB.nil ?_
      refine Dh.JL.nil ?_
      refine Jq.blkN ?_
      refine Jq.thenN ?_
      refine Jc.region ?_
      refine Jl.pv (PR.move rfl) ?_
      refine Jl.pv (PR.add ((k + 1 : Nat) : Int) rfl rfl (by rw [w64 (by omega) (by omega)]; rfl)) ?_
      refine Jl.pv (PR.assign rfl) ?_
      refine Jl.nil ?_
      exact Jq.againT ⟨k + 1, hlt⟩ (by simp only; omega) (by repeat (first | exact trivial | refine And.intro rfl ?_)) (by repeat (first | exact Take.nil | apply Take.cons (by repeat (first | exact Del.here | apply Del.there)))) (by repeat (first | exact trivial | refine And.intro (by repeat (first | exact Mem.here | apply Mem.there)) ?_))
    · try replace h1 := of_decide_eq_false h1
      obtain rfl : k = b.kps.length := by omega
      refine Jc.exit ?_
      refine Jq.thenX ?_
      refine Jq.thenX ?_
      refine Jq.blkX ?_
      refine Jq.thenN ?_
      refine Jc.seq ?_
      refine Jc.seq ?_
      refine Jc.region ?_
      refine Jl.pv (PR.assign rfl) ?_
      refine Jl.nil ?_
      refine Jq.thenN ?_
      refine Jc.block ?_
      refine Jc.lessR (rs := [.row 43 4 (.slice A2 b.its.length c2) b.its.length (itsV (rvK b.its 0)), .row 38 8 (.slice A3 b.kps.length c3) b.kps.length (kpsV (rvK b.kps b.kps.length)), .row 3 1 (.slice A1 b.cf.ms.length c1) b.cf.ms.length (i64s b.cf.ms), .blk b6 30 (b.cs ((A1, c1), (A2, c2), (A3, c3))), .blk b5 34 b.counts, .blk b2 30 (b.cs ((M, cM), (I, cI), (K, cK)))]) (by repeat (first | exact Take.nil | apply Take.cons (by repeat (first | exact Del.here | apply Del.there)))) ?_
      refine Jc.loop (σ := { k : Nat // k ≤ b.its.length }) (fun s => [(8, Value.int .i64 (s.1 : Int)), (6, .pointer (some ⟨b6, 0, none⟩)), (5, .pointer (some ⟨b5, 0, none⟩)), (2, .pointer (some ⟨b2, 0, none⟩)), (1, .int .i64 v)]) (fun s => [.row 43 4 (.slice A2 b.its.length c2) b.its.length (itsV (rvK b.its s.1)), .row 38 8 (.slice A3 b.kps.length c3) b.kps.length (kpsV (rvK b.kps b.kps.length)), .row 3 1 (.slice A1 b.cf.ms.length c1) b.cf.ms.length (i64s b.cf.ms), .blk b6 30 (b.cs ((A1, c1), (A2, c2), (A3, c3))), .blk b5 34 b.counts, .blk b2 30 (b.cs ((M, cM), (I, cI), (K, cK)))]) (fun s => [.rd M (i64s b.cf.ms), .rd I (itsV b.its), .rd K (kpsV b.kps), .lim]) (fun s => b.its.length - s.1) ⟨0, Nat.zero_le _⟩ (by repeat (first | exact trivial | refine And.intro rfl ?_)) rfl (by repeat (first | exact trivial | refine And.intro (by repeat (first | exact Mem.here | apply Mem.there)) ?_)) ?_
      rintro ⟨k, hk⟩
      show Jc _ _ _ _ _ _ [(8, Value.int .i64 (k : Int)), (6, .pointer (some ⟨b6, 0, none⟩)), (5, .pointer (some ⟨b5, 0, none⟩)), (2, .pointer (some ⟨b2, 0, none⟩)), (1, .int .i64 v)] [.row 43 4 (.slice A2 b.its.length c2) b.its.length (itsV (rvK b.its k)), .row 38 8 (.slice A3 b.kps.length c3) b.kps.length (kpsV (rvK b.kps b.kps.length)), .row 3 1 (.slice A1 b.cf.ms.length c1) b.cf.ms.length (i64s b.cf.ms), .blk b6 30 (b.cs ((A1, c1), (A2, c2), (A3, c3))), .blk b5 34 b.counts, .blk b2 30 (b.cs ((M, cM), (I, cI), (K, cK)))] [.rd M (i64s b.cf.ms), .rd I (itsV b.its), .rd K (kpsV b.kps), .lim]
      have hrl : (itsV (rvK b.its k)).length = b.its.length * 4 := by rw [itsV_len, rvK_len _ hk]
      refine Jc.seq ?_
      refine Jc.seq ?_
      refine Jc.region ?_
      refine Jl.pv (PR.move rfl) ?_
      refine Jl.pv (PR.fieldAddr rfl tfl30_4) ?_
      refine Jl.pv (PR.load1 rfl tsh25 (by repeat (first | exact Has.here | apply Has.there)) (by rfl)) ?_
      refine Jl.pv (PR.len rfl tsl25) ?_
      refine Jl.pv (PR.lss _ rfl rfl rfl) ?_
      refine Jl.nil ?_
      refine Jq.thenN ?_
      refine Jc.cond rfl (fun h2 => ?_) (fun h2 => ?_)
      · try replace h2 := of_decide_eq_true h2
        have hlt : k < b.its.length := by omega
        refine Jc.skip ?_
        refine Jq.thenN ?_
        refine Jc.seq ?_
        refine Jc.block ?_
        refine Jc.drawn [0, 1, 0, 0, 8, 0, 32, 96, 224, 0, 992, 2040, 4088, 8191, 16383] ([], []) [⟨[(0, false), (1, false), (2, false), (3, false), (4, false), (5, false), (6, false), (7, false), (8, false), (9, false), (10, false), (11, false), (12, false), (13, false)], [], 14⟩] tmx (by kernel_rfl) ?_
        refine Dh.JH.cons ?_
        refine Dh.JB.pv rfl trivial (fun _ => PR.fieldAddr rfl tfl30_4) ?_
        refine Dh.JB.rd [.blk _ _ _] rfl trivial (by repeat (first | exact Take.nil | apply Take.cons (by repeat (first | exact Del.here | apply Del.there)))) (fun _ => PR.load1 rfl tsh25 Has.here (by rfl)) ?_
        refine Dh.JB.pv rfl trivial (fun _ => PR.move rfl) ?_
        refine Dh.JB.pv rfl trivial (fun _ => PR.fieldAddr rfl tfl30_4) ?_
        refine Dh.JB.rd [.blk _ _ _] rfl trivial (by repeat (first | exact Take.nil | apply Take.cons (by repeat (first | exact Del.here | apply Del.there)))) (fun _ => PR.load1 rfl tsh25 Has.here (by rfl)) ?_
        refine Dh.JB.pv rfl trivial (fun _ => PR.fieldAddr rfl tfl30_4) ?_
        refine Dh.JB.rd [.blk _ _ _] rfl trivial (by repeat (first | exact Take.nil | apply Take.cons (by repeat (first | exact Del.here | apply Del.there)))) (fun _ => PR.load1 rfl tsh25 Has.here (by rfl)) ?_
        refine Dh.JB.pv rfl trivial (fun _ => PR.len rfl tsl25) ?_
        refine Dh.JB.pv rfl trivial (fun _ => PR.sub ((b.its.length - 1 : Nat) : Int) rfl rfl (wsub (a := b.its.length) (b := 1) (by omega) (by omega))) ?_
        refine Dh.JB.pv rfl trivial (fun _ => PR.move rfl) ?_
        refine Dh.JB.pv rfl trivial (fun _ => PR.sub ((b.its.length - 1 - k : Nat) : Int) rfl rfl (wsub (a := b.its.length - 1) (b := k) (by omega) (by omega))) ?_
        refine Dh.JB.pv rfl trivial (fun _ => PR.idx (b.its.length - 1 - k) rfl rfl tsl25 (by repeat (first | exact Mem.here | apply Mem.there)) (itsV_len _) (by omega) rfl (by omega)) ?_
        refine Dh.JB.pv rfl trivial (fun _ => PR.loadRA rfl tsh43 (by repeat (first | exact Mem.here | apply Mem.there)) (by decide) (its_at (l := b.its) (k := b.its.length - 1 - k) (by omega))) ?_
        refine Dh.JB.rd [.row _ _ _ _ _] rfl trivial (by repeat (first | exact Take.nil | apply Take.cons (by repeat (first | exact Del.here | apply Del.there)))) (fun _ => PR.idxO k rfl rfl tsl25 Del.here (by decide) rfl hlt) ?_
        refine Dh.JB.nil ?_
        refine Dh.JL.nil ?_
        refine Dh.JE.mk rfl (fun _ h => by cases h) (fun C12_14 => ?_)
        refine Jl.storeOA rfl tsh43 rfl (by rfl) (by rfl) (by decide) (by first | exact Br.cs_one _ _ | simp [Value.oneCell', Kp.cs, It1.cs, Br.counts]) (by repeat (first | exact Swap.here | apply Swap.there)) (its_rv hlt) ?_
        refine Jl.nil ?_
        refine Dh.Jq.segN (by repeat (first | exact Dh.FExt.refl | apply Dh.FExt.cons | apply Dh.FExt.app)) ?_ (by repeat (first | exact Dh.KeepL.nil | apply Dh.KeepL.anc (by rfl) | apply Dh.KeepL.keep (by repeat (first | exact Take.nil | apply Take.cons (by repeat (first | exact Del.here | apply Del.there))))))
        refine Dh.JH.nil ?_
        refine Dh.JB.nil ?_
        refine Dh.JL.nil ?_
        refine Jq.blkN ?_
        refine Jq.thenN ?_
        refine Jc.region ?_
        refine Jl.pv (PR.move rfl) ?_
        refine Jl.pv (PR.add ((k + 1 : Nat) : Int) rfl rfl (by rw [w64 (by omega) (by omega)]; rfl)) ?_
        refine Jl.pv (PR.assign rfl) ?_
        refine Jl.nil ?_
        exact Jq.againT ⟨k + 1, hlt⟩ (by simp only; omega) (by repeat (first | exact trivial | refine And.intro rfl ?_)) (by repeat (first | exact Take.nil | apply Take.cons (by repeat (first | exact Del.here | apply Del.there)))) (by repeat (first | exact trivial | refine And.intro (by repeat (first | exact Mem.here | apply Mem.there)) ?_))
      · try replace h2 := of_decide_eq_false h2
        obtain rfl : k = b.its.length := by omega
        rw [rvK_end, rvK_end, rev_cs b ((A1, c1), (A2, c2), (A3, c3))]
        refine Jc.sealR (by repeat (first | exact Del.here | apply Del.there)) ?_
        refine Jc.sealR (by repeat (first | exact Del.here | apply Del.there)) ?_
        refine Jc.sealR (by repeat (first | exact Del.here | apply Del.there)) ?_
        refine Jc.exit ?_
        refine Jq.thenX ?_
        refine Jq.thenX ?_
        refine Jq.blkX ?_
        refine Jq.thenN ?_
        refine Jc.seq ?_
        refine Jc.seq ?_
        refine Jc.drawn [0, 1, 0, 7] ([(3, false)], []) [⟨[(0, false), (2, false)], [], 1⟩] tmx (by kernel_rfl) ?_
        refine Dh.JH.cons ?_
        refine Dh.JB.rd [.blk _ _ _] rfl trivial (by repeat (first | exact Take.nil | apply Take.cons (by repeat (first | exact Del.here | apply Del.there)))) (fun _ => PR.loadW rfl tsh30 Has.here (by rfl)) ?_
        refine Dh.JB.rd [.blk _ _ _] rfl trivial (by repeat (first | exact Take.nil | apply Take.cons (by repeat (first | exact Del.here | apply Del.there)))) (fun _ => PR.loadW rfl tsh34 Has.here (by rfl)) ?_
        refine Dh.JB.nil ?_
        refine Dh.JL.nil ?_
        refine Dh.JE.mk rfl (fun _ h => by cases h) (fun C13_1 => ?_)
        refine Jl.call (countof_ct b.rev ((A1, c1), (A2, c2), (A3, c3)) (by simp [Br.rev]; omega) (by simp [Br.rev]; omega) (by show b.cf.ms.length ≤ 1000; omega)) en10 (by rfl) (by repeat (first | exact Take.nil | apply Take.cons (by repeat (first | exact Del.here | apply Del.there)))) (by repeat (first | exact trivial | refine And.intro (by repeat (first | exact Mem.here | apply Mem.there)) ?_)) ?_
        rintro ⟨⟩
        refine Jl.nil ?_
        refine Dh.Jq.segV (by repeat (first | exact Dh.FExt.refl | apply Dh.FExt.cons | apply Dh.FExt.app)) ?_ (by repeat (first | exact Dh.KeepL.nil | apply Dh.KeepL.anc (by rfl) | apply Dh.KeepL.keep (by repeat (first | exact Take.nil | apply Take.cons (by repeat (first | exact Del.here | apply Del.there))))))
        refine Dh.JH.nil ?_
        refine Dh.JB.pv rfl trivial (fun _ => PR.neqA (xs := b.rev.counts) (ys := b.counts) false rfl rfl teq34 (by rfl) (by simp [hrc])) ?_
        refine Dh.JB.nil ?_
        refine Dh.JL.nil ?_
        refine Jq.thenN ?_
        refine Jc.condF rfl ?_
        refine Jc.skip ?_
        refine Jq.thenN ?_
        refine Jc.seq ?_
        refine Jc.seq ?_
        refine Jc.region ?_
        refine Jl.pv (PR.assign rfl) ?_
        refine Jl.nil ?_
        refine Jq.thenN ?_
        refine Jc.block ?_
        refine Jc.lessR (rs := [.blk b5 34 b.counts, .blk b2 30 (b.cs ((M, cM), (I, cI), (K, cK)))]) (by repeat (first | exact Take.nil | apply Take.cons (by repeat (first | exact Del.here | apply Del.there)))) ?_
        refine Jc.loop (σ := { k : Nat // k ≤ b.its.length }) (fun s => [(9, Value.int .i64 (s.1 : Int)), (5, .pointer (some ⟨b5, 0, none⟩)), (2, .pointer (some ⟨b2, 0, none⟩)), (1, .int .i64 v)]) (fun s => [.blk b5 34 b.counts, .blk b2 30 (b.cs ((M, cM), (I, cI), (K, cK)))]) (fun s => [.rd M (i64s b.cf.ms), .rd I (itsV b.its), .rd K (kpsV b.kps), .lim]) (fun s => b.its.length - s.1) ⟨0, Nat.zero_le _⟩ (by repeat (first | exact trivial | refine And.intro rfl ?_)) rfl (by repeat (first | exact trivial | refine And.intro (by repeat (first | exact Mem.here | apply Mem.there)) ?_)) ?_
        rintro ⟨k, hk⟩
        show Jc _ _ _ _ _ _ [(9, Value.int .i64 (k : Int)), (5, .pointer (some ⟨b5, 0, none⟩)), (2, .pointer (some ⟨b2, 0, none⟩)), (1, .int .i64 v)] [.blk b5 34 b.counts, .blk b2 30 (b.cs ((M, cM), (I, cI), (K, cK)))] [.rd M (i64s b.cf.ms), .rd I (itsV b.its), .rd K (kpsV b.kps), .lim]
        refine Jc.seq ?_
        refine Jc.seq ?_
        refine Jc.region ?_
        refine Jl.pv (PR.move rfl) ?_
        refine Jl.pv (PR.fieldAddr rfl tfl30_4) ?_
        refine Jl.pv (PR.load1 rfl tsh25 (by repeat (first | exact Has.here | apply Has.there)) (by rfl)) ?_
        refine Jl.pv (PR.len rfl tsl25) ?_
        refine Jl.pv (PR.lss _ rfl rfl rfl) ?_
        refine Jl.nil ?_
        refine Jq.thenN ?_
        refine Jc.cond rfl (fun h3 => ?_) (fun h3 => ?_)
        · try replace h3 := of_decide_eq_true h3
          have hlt : k < b.its.length := by omega
          refine Jc.skip ?_
          refine Jq.thenN ?_
          refine Jc.seq ?_
          refine Jc.block ?_
          refine Jc.seq ?_
          refine Jc.drawn [0, 0, 2, 0, 14, 30, 62, 0, 254, 510, 1023, 0, 4095] ([], []) [⟨[(0, false), (1, false), (2, false), (3, false), (4, false), (5, false), (6, false), (7, false), (8, true), (11, true)], [8], 9⟩, ⟨[], [], 10⟩, ⟨[], [11], 12⟩] tmx (by kernel_rfl) ?_
          refine Dh.JH.cons ?_
          refine Dh.JB.rd [.blk _ _ _] rfl trivial (by repeat (first | exact Take.nil | apply Take.cons (by repeat (first | exact Del.here | apply Del.there)))) (fun _ => PR.loadW rfl tsh30 Has.here (by rfl)) ?_
          refine Dh.JB.pv rfl trivial (fun _ => PR.fieldAddr rfl tfl30_4) ?_
          refine Dh.JB.rd [.blk _ _ _] rfl trivial (by repeat (first | exact Take.nil | apply Take.cons (by repeat (first | exact Del.here | apply Del.there)))) (fun _ => PR.load1 rfl tsh25 Has.here (by rfl)) ?_
          refine Dh.JB.pv rfl trivial (fun _ => PR.move rfl) ?_
          refine Dh.JB.pv rfl trivial (fun _ => PR.idx k rfl rfl tsl25 (by repeat (first | exact Mem.here | apply Mem.there)) (itsV_len _) (by omega) rfl hlt) ?_
          refine Dh.JB.pv rfl trivial (fun _ => PR.fieldAddrR rfl tfl43_0 (by repeat (first | exact Mem.here | apply Mem.there)) (by omega)) ?_
          refine Dh.JB.pv rfl trivial (fun _ => PR.loadR rfl tsh3 (by repeat (first | exact Mem.here | apply Mem.there)) (its_f hlt 0 rfl)) ?_
          refine Dh.JB.pv rfl trivial (fun _ => PR.move rfl) ?_
          refine Dh.JB.buildSlice rfl trivial (by rfl) tsl22 tzr22_3 (by rfl) (by rfl) ?_
          refine Dh.JB.alloc rfl trivial tze30 ?_
          refine Dh.JB.nil ?_
          refine Dh.JL.sl rfl (by repeat (first | exact Dh.es_here | apply Dh.es_there)) (fun b85 => ?_)
          refine Dh.JL.nil ?_
          refine Dh.JE.mk rfl (fun _ h => by cases h) (fun C18_9 => ?_)
          refine Jl.pv (PR.build (by rfl) tze46 tpl46_0_1 (by rfl)) ?_
          refine Jl.nil ?_
          refine Dh.Jq.segV (by repeat (first | exact Dh.FExt.refl | apply Dh.FExt.cons | apply Dh.FExt.app)) ?_ (by repeat (first | exact Dh.KeepL.nil | apply Dh.KeepL.anc (by rfl) | apply Dh.KeepL.keep (by repeat (first | exact Take.nil | apply Take.cons (by repeat (first | exact Del.here | apply Del.there))))))
          refine Dh.JH.cons ?_
          refine Dh.JB.nil ?_
          refine Dh.JL.nil ?_
          refine Dh.JE.mk rfl (fun _ h => by cases h) (fun C18_10 => ?_)
          refine Jl.seal (by repeat (first | exact Del.here | apply Del.there)) ?_
          refine Jl.call (applyMade_ct b ((M, cM), (I, cI), (K, cK)) (some ⟨b85, 0, none⟩) 3 b.its[k].tok v 5 (by omega) (by omega) (by omega)) en16 (by rfl) (by repeat (first | exact Take.nil | apply Take.cons (by repeat (first | exact Del.here | apply Del.there)))) (by repeat (first | exact trivial | refine And.intro (by repeat (first | exact Mem.here | apply Mem.there)) ?_)) ?_
          rintro ⟨⟨m, zm⟩, hmt⟩
          have hmi : m.its.length ≤ b.its.length ∧ m.kps.length ≤ b.kps.length + 1 ∧ m.cf = b.cf := made_its hmt
          have hmc : m.counts = b.counts := made_counts hmt
          refine Jl.nil ?_
          refine Dh.Jq.segV (by repeat (first | exact Dh.FExt.refl | apply Dh.FExt.cons | apply Dh.FExt.app)) ?_ (by repeat (first | exact Dh.KeepL.nil | apply Dh.KeepL.anc (by rfl) | apply Dh.KeepL.keep (by repeat (first | exact Take.nil | apply Take.cons (by repeat (first | exact Del.here | apply Del.there))))))
          refine Dh.JH.cons ?_
          refine Dh.JB.nil ?_
          refine Dh.JL.ptr rfl (by repeat (first | exact Dh.es_here | apply Dh.es_there)) (fun b10 => ?_)
          refine Dh.JL.nil ?_
          refine Dh.JE.mk rfl (fun _ h => by cases h) (fun C18_12 => ?_)
          refine Jl.storeW rfl tsh30 rfl (by rfl) (by first | exact Br.cs_one _ _ | simp [Value.oneCell', Kp.cs, It1.cs, Br.counts]) (by repeat (first | exact Swap.here | apply Swap.there)) (by rfl) ?_
          refine Jl.nil ?_
          refine Dh.Jq.segN (by repeat (first | exact Dh.FExt.refl | apply Dh.FExt.cons | apply Dh.FExt.app)) ?_ (by repeat (first | exact Dh.KeepL.nil | apply Dh.KeepL.anc (by rfl) | apply Dh.KeepL.keep (by repeat (first | exact Take.nil | apply Take.cons (by repeat (first | exact Del.here | apply Del.there))))))
          refine Dh.JH.nil ?_
          refine Dh.JB.nil ?_
          refine Dh.JL.nil ?_
          refine Jq.thenN ?_
          refine Jc.seq ?_
          refine Jc.region ?_
          refine Jl.pv (PR.loadW rfl tsh30 (by repeat (first | exact Has.here | apply Has.there)) (by rfl)) ?_
          refine Jl.call (countof_ct m zm (by have := hmi.1; omega) (by have := hmi.2.1; omega) (by rw [hmi.2.2]; omega)) en10 (by rfl) (by repeat (first | exact Take.nil | apply Take.cons (by repeat (first | exact Del.here | apply Del.there)))) (by repeat (first | exact trivial | refine And.intro (by repeat (first | exact Mem.here | apply Mem.there)) ?_)) ?_
          rintro ⟨⟩
          rw [hmc]
          refine Jl.alloc tze34 ?_
          intro b11
          refine Jl.storeW rfl tsh34 rfl (by rfl) (by first | exact Br.cs_one _ _ | simp [Value.oneCell', Kp.cs, It1.cs, Br.counts]) (by repeat (first | exact Swap.here | apply Swap.there)) (by rfl) ?_
          refine Jl.nil ?_
          refine Jq.thenN ?_
          refine Jc.seq ?_
          refine Jc.region ?_
          refine Jl.pv (PR.fieldAddr rfl tfl30_4) ?_
          refine Jl.pv (PR.load1 rfl tsh25 (by repeat (first | exact Has.here | apply Has.there)) (by rfl)) ?_
          refine Jl.pv (PR.len rfl tsl25) ?_
          refine Jl.pv (PR.fieldAddr rfl tfl30_4) ?_
          refine Jl.pv (PR.load1 rfl tsh25 (by repeat (first | exact Has.here | apply Has.there)) (by rfl)) ?_
          refine Jl.pv (PR.len rfl tsl25) ?_
          refine Jl.pv (PR.lss _ rfl rfl rfl) ?_
          refine Jl.pv (PR.move rfl) ?_
          refine Jl.bsplit (fun g97 => ?_) (fun g97 => ?_)
          · try replace g97 := of_decide_eq_true g97
            refine Jl.on rfl rfl ?_
            refine Jl.pv (PR.fieldAddr rfl tfl34_4) ?_
            refine Jl.on rfl rfl ?_
            refine Jl.pv (PR.load1 rfl tsh3 (by repeat (first | exact Has.here | apply Has.there)) (by rfl)) ?_
            refine Jl.on rfl rfl ?_
            refine Jl.pv (PR.fieldAddr rfl tfl34_4) ?_
            refine Jl.on rfl rfl ?_
            refine Jl.pv (PR.load1 rfl tsh3 (by repeat (first | exact Has.here | apply Has.there)) (by rfl)) ?_
            refine Jl.on rfl rfl ?_
            refine Jl.pv (PR.neq false rfl rfl (nq rfl)) ?_
            refine Jl.on rfl rfl ?_
            refine Jl.pv (PR.move rfl) ?_
            refine Jl.on rfl rfl ?_
            refine Jl.pv (PR.fieldAddr rfl tfl34_2) ?_
            refine Jl.on rfl rfl ?_
            refine Jl.pv (PR.load1 rfl tsh3 (by repeat (first | exact Has.here | apply Has.there)) (by rfl)) ?_
            refine Jl.on rfl rfl ?_
            refine Jl.pv (PR.fieldAddr rfl tfl34_2) ?_
            refine Jl.on rfl rfl ?_
            refine Jl.pv (PR.load1 rfl tsh3 (by repeat (first | exact Has.here | apply Has.there)) (by rfl)) ?_
            refine Jl.on rfl rfl ?_
            refine Jl.pv (PR.neq false rfl rfl (nq rfl)) ?_
            refine Jl.on rfl rfl ?_
            refine Jl.pv (PR.pickF rfl rfl) ?_
            refine Jl.on rfl rfl ?_
            refine Jl.pv (PR.move rfl) ?_
            refine Jl.on rfl rfl ?_
            refine Jl.pv (PR.fieldAddr rfl tfl34_3) ?_
            refine Jl.on rfl rfl ?_
            refine Jl.pv (PR.load1 rfl tsh3 (by repeat (first | exact Has.here | apply Has.there)) (by rfl)) ?_
            refine Jl.on rfl rfl ?_
            refine Jl.pv (PR.fieldAddr rfl tfl34_3) ?_
            refine Jl.on rfl rfl ?_
            refine Jl.pv (PR.load1 rfl tsh3 (by repeat (first | exact Has.here | apply Has.there)) (by rfl)) ?_
            refine Jl.on rfl rfl ?_
            refine Jl.pv (PR.neq false rfl rfl (nq rfl)) ?_
            refine Jl.on rfl rfl ?_
            refine Jl.pv (PR.pickF rfl rfl) ?_
            refine Jl.on rfl rfl ?_
            refine Jl.pv (PR.move rfl) ?_
            refine Jl.on rfl rfl ?_
            refine Jl.pv (PR.fieldAddr rfl tfl34_1) ?_
            refine Jl.on rfl rfl ?_
            refine Jl.pv (PR.load1 rfl tsh3 (by repeat (first | exact Has.here | apply Has.there)) (by rfl)) ?_
            refine Jl.on rfl rfl ?_
            refine Jl.pv (PR.fieldAddr rfl tfl34_1) ?_
            refine Jl.on rfl rfl ?_
            refine Jl.pv (PR.load1 rfl tsh3 (by repeat (first | exact Has.here | apply Has.there)) (by rfl)) ?_
            refine Jl.on rfl rfl ?_
            refine Jl.pv (PR.neq false rfl rfl (nq rfl)) ?_
            refine Jl.on rfl rfl ?_
            refine Jl.pv (PR.pickF rfl rfl) ?_
            refine Jl.on rfl rfl ?_
            refine Jl.pv (PR.move rfl) ?_
            refine Jl.on rfl rfl ?_
            refine Jl.pv (PR.fieldAddr rfl tfl34_6) ?_
            refine Jl.on rfl rfl ?_
            refine Jl.pv (PR.load1 rfl tsh3 (by repeat (first | exact Has.here | apply Has.there)) (by rfl)) ?_
            refine Jl.on rfl rfl ?_
            refine Jl.pv (PR.fieldAddr rfl tfl34_6) ?_
            refine Jl.on rfl rfl ?_
            refine Jl.pv (PR.load1 rfl tsh3 (by repeat (first | exact Has.here | apply Has.there)) (by rfl)) ?_
            refine Jl.on rfl rfl ?_
            refine Jl.pv (PR.neq false rfl rfl (nq rfl)) ?_
            refine Jl.on rfl rfl ?_
            refine Jl.pv (PR.pickF rfl rfl) ?_
            refine Jl.pv (PR.pickT rfl rfl) ?_
            refine Jl.nil ?_
            refine Jq.thenN ?_
            refine Jc.condF rfl ?_
            refine Jc.skip ?_
            refine Jq.blkN ?_
            refine Jq.thenN ?_
            refine Jc.region ?_
            refine Jl.pv (PR.move rfl) ?_
            refine Jl.pv (PR.add ((k + 1 : Nat) : Int) rfl rfl (by rw [w64 (by omega) (by omega)]; rfl)) ?_
            refine Jl.pv (PR.assign rfl) ?_
            refine Jl.nil ?_
            exact Jq.againT ⟨k + 1, hlt⟩ (by simp only; omega) (by repeat (first | exact trivial | refine And.intro rfl ?_)) (by repeat (first | exact Take.nil | apply Take.cons (by repeat (first | exact Del.here | apply Del.there)))) (by repeat (first | exact trivial | refine And.intro (by repeat (first | exact Mem.here | apply Mem.there)) ?_))
          · try replace g97 := of_decide_eq_false g97
            refine Jl.offS rfl rfl rfl ?_
            refine Jl.offS rfl rfl rfl ?_
            refine Jl.offS rfl rfl rfl ?_
            refine Jl.offS rfl rfl rfl ?_
            refine Jl.offS rfl rfl rfl ?_
            refine Jl.offS rfl rfl rfl ?_
            refine Jl.offUS rfl rfl ?_
            refine Jl.offUS rfl rfl ?_
            refine Jl.offUS rfl rfl ?_
            refine Jl.offUS rfl rfl ?_
            refine Jl.offUS rfl rfl ?_
            refine Jl.offS rfl rfl rfl ?_
            refine Jl.offS rfl rfl rfl ?_
            refine Jl.offUS rfl rfl ?_
            refine Jl.offUS rfl rfl ?_
            refine Jl.offUS rfl rfl ?_
            refine Jl.offUS rfl rfl ?_
            refine Jl.offUS rfl rfl ?_
            refine Jl.offS rfl rfl rfl ?_
            refine Jl.offS rfl rfl rfl ?_
            refine Jl.offUS rfl rfl ?_
            refine Jl.offUS rfl rfl ?_
            refine Jl.offUS rfl rfl ?_
            refine Jl.offUS rfl rfl ?_
            refine Jl.offUS rfl rfl ?_
            refine Jl.offS rfl rfl rfl ?_
            refine Jl.offS rfl rfl rfl ?_
            refine Jl.offUS rfl rfl ?_
            refine Jl.offUS rfl rfl ?_
            refine Jl.offUS rfl rfl ?_
            refine Jl.offUS rfl rfl ?_
            refine Jl.offUS rfl rfl ?_
            refine Jl.offS rfl rfl rfl ?_
            refine Jl.pv (PR.pickF rfl rfl) ?_
            refine Jl.nil ?_
            refine Jq.thenN ?_
            refine Jc.condF rfl ?_
            refine Jc.skip ?_
            refine Jq.blkN ?_
            refine Jq.thenN ?_
            refine Jc.region ?_
            refine Jl.pv (PR.move rfl) ?_
            refine Jl.pv (PR.add ((k + 1 : Nat) : Int) rfl rfl (by rw [w64 (by omega) (by omega)]; rfl)) ?_
            refine Jl.pv (PR.assign rfl) ?_
            refine Jl.nil ?_
            exact Jq.againT ⟨k + 1, hlt⟩ (by simp only; omega) (by repeat (first | exact trivial | refine And.intro rfl ?_)) (by repeat (first | exact Take.nil | apply Take.cons (by repeat (first | exact Del.here | apply Del.there)))) (by repeat (first | exact trivial | refine And.intro (by repeat (first | exact Mem.here | apply Mem.there)) ?_))
        · try replace h3 := of_decide_eq_false h3
          refine Jc.exit ?_
          refine Jq.thenX ?_
          refine Jq.thenX ?_
          refine Jq.blkX ?_
          refine Jq.thenN ?_
          refine Jc.seq ?_
          refine Jc.drawn [0, 1, 3, 0, 8, 31, 63, 127, 255, 511] ([(8, false), (9, false)], []) [⟨[(0, false), (1, false), (3, false), (4, false)], [], 2⟩, ⟨[(5, false), (6, false)], [], 7⟩] tmx (by kernel_rfl) ?_
          refine Dh.JH.cons ?_
          refine Dh.JB.pv rfl trivial (fun _ => PR.fieldAddr rfl tfl30_3) ?_
          refine Dh.JB.rd [.blk _ _ _] rfl trivial (by repeat (first | exact Take.nil | apply Take.cons (by repeat (first | exact Del.here | apply Del.there)))) (fun _ => PR.loadA rfl tsh24 Has.here (by rfl)) ?_
          refine Dh.JB.pv rfl trivial (fun _ => PR.fieldAddr rfl tfl34_8) ?_
          refine Dh.JB.rd [.blk _ _ _] rfl trivial (by repeat (first | exact Take.nil | apply Take.cons (by repeat (first | exact Del.here | apply Del.there)))) (fun _ => PR.load1 rfl tsh3 Has.here (by rfl)) ?_
          refine Dh.JB.nil ?_
          refine Dh.JL.nil ?_
          refine Dh.JE.mk rfl (fun _ h => by cases h) (fun C22_2 => ?_)
          refine Jl.call (rbound_ct b.cf (M, cM) (by omega)) en17 (by rfl) (by repeat (first | exact Take.nil | apply Take.cons (by repeat (first | exact Del.here | apply Del.there)))) (by repeat (first | exact trivial | refine And.intro (by repeat (first | exact Mem.here | apply Mem.there)) ?_)) ?_
          rintro ⟨⟩
          refine Jl.nil ?_
          refine Dh.Jq.segV (by repeat (first | exact Dh.FExt.refl | apply Dh.FExt.cons | apply Dh.FExt.app)) ?_ (by repeat (first | exact Dh.KeepL.nil | apply Dh.KeepL.anc (by rfl) | apply Dh.KeepL.keep (by repeat (first | exact Take.nil | apply Take.cons (by repeat (first | exact Del.here | apply Del.there))))))
          refine Dh.JH.cons ?_
          refine Dh.JB.pv rfl trivial (fun _ => PR.eql true rfl rfl (decide_eq_true rfl)) ?_
          refine Dh.JB.pv rfl trivial (fun _ => PR.move rfl) ?_
          refine Dh.JB.nil ?_
          refine Dh.JL.nil ?_
          refine Dh.JE.mk rfl (fun _ h => by cases h) (fun C22_7 => ?_)
          refine Jl.on rfl rfl ?_
          refine Jl.call ctwakes_ct en9 (by rfl) (by repeat (first | exact Take.nil | apply Take.cons (by repeat (first | exact Del.here | apply Del.there)))) (by repeat (first | exact trivial | refine And.intro (by repeat (first | exact Mem.here | apply Mem.there)) ?_)) ?_
          rintro ⟨⟩
          refine Jl.as (.bool true) (congrArg Value.bool rfl) ?_
          refine Jl.nil ?_
          refine Dh.Jq.segV (by repeat (first | exact Dh.FExt.refl | apply Dh.FExt.cons | apply Dh.FExt.app)) ?_ (by repeat (first | exact Dh.KeepL.nil | apply Dh.KeepL.anc (by rfl) | apply Dh.KeepL.keep (by repeat (first | exact Take.nil | apply Take.cons (by repeat (first | exact Del.here | apply Del.there))))))
          refine Dh.JH.nil ?_
          refine Dh.JB.pv rfl trivial (fun _ => PR.pickT rfl rfl) ?_
          refine Dh.JB.pv rfl trivial (fun _ => PR.assign rfl) ?_
          refine Dh.JB.nil ?_
          refine Dh.JL.nil ?_
          refine Jq.thenN ?_
          refine Jc.ret ?_
          exact Jq.fin () (.inl rfl) rfl (RetVs.tmp rfl RetVs.nil) rfl (by repeat (first | exact Take.nil | apply Take.cons (by repeat (first | exact Del.here | apply Del.there)))) (by repeat (first | exact trivial | refine And.intro (by repeat (first | exact Mem.here | apply Mem.there)) ?_))
  -- hint not used: h4
end Go.Proofs.YtiebgcahdnaekaaDoor
