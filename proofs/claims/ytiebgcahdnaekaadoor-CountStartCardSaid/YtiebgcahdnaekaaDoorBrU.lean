/-
The law CountStart.
-/
import Derived.Test.YtiebgcahdnaekaaDoorBrD
namespace Go.Proofs.YtiebgcahdnaekaaDoor
set_option linter.unusedVariables false
open Go.RowKit
attribute [local irreducible] Res.blk Res.row Fact.rd
theorem old_yes {b : Br} {k : Kp} (h1 : k.ver ≠ b.ver) (h2 : goes k.ph = false) (h3 : k.gu = false ∨ b.cf.sk = false) : b.old k = true := by
  rw [Br.old, decide_eq_true h1, h2]
  rcases h3 with h3 | h3 <;> simp [h3]
theorem old_no1 {b : Br} {k : Kp} (h1 : k.ver = b.ver) : ¬ b.old k = true := by simp [Br.old, h1]
theorem old_no2 {b : Br} {k : Kp} (h1 : goes k.ph = true) : ¬ b.old k = true := by simp [Br.old, h1]
theorem old_no3 {b : Br} {k : Kp} (h1 : k.gu = true) (h2 : b.cf.sk = true) : ¬ b.old k = true := by simp [Br.old, h1, h2]
theorem nbT {b : Bool} (h : (!b) = true) : b = false := by simpa using h
theorem nbF {b : Bool} (h : (!b) = false) : b = true := by simpa using h
theorem sc_yes {b : Br} {v : Int} {k : Nat} (h : k < b.kps.length) (ho : (b.start v 5).old b.kps[k] = true) : (((b.start v 5).oc k + 1 : Nat) : Int) = ((b.start v 5).oc (k + 1) : Int) :=
  congrArg (fun n : Nat => (n : Int)) ((oc_succ (b := b.start v 5) h).trans (congrArg ((b.start v 5).oc k + ·) (if_pos ho))).symm
theorem sc_no {b : Br} {v : Int} {k : Nat} (h : k < b.kps.length) (ho : ¬ (b.start v 5).old b.kps[k] = true) : ((b.start v 5).oc k : Int) = ((b.start v 5).oc (k + 1) : Int) :=
  congrArg (fun n : Nat => (n : Int)) ((oc_succ (b := b.start v 5) h).trans (congrArg ((b.start v 5).oc k + ·) (if_neg ho))).symm
theorem si_yes {b : Br} {v : Int} {k m : Nat} (h : k < b.its.length) (ho : b.its[k].ver ≠ v) : ((m + ((b.start v 5).ic k + 1) : Nat) : Int) = ((m + (b.start v 5).ic (k + 1) : Nat) : Int) :=
  congrArg (fun n : Nat => ((m + n : Nat) : Int)) ((ic_succ (b := b.start v 5) h).trans (congrArg ((b.start v 5).ic k + ·) (if_pos (show (!decide (b.its[k].ver = v)) = true by simpa using ho)))).symm
theorem si_no {b : Br} {v : Int} {k m : Nat} (h : k < b.its.length) (ho : b.its[k].ver = v) : ((m + (b.start v 5).ic k : Nat) : Int) = ((m + (b.start v 5).ic (k + 1) : Nat) : Int) :=
  congrArg (fun n : Nat => ((m + n : Nat) : Int)) ((ic_succ (b := b.start v 5) h).trans (congrArg ((b.start v 5).ic k + ·) (if_neg (show ¬ (!decide (b.its[k].ver = v)) = true by simpa using ho)))).symm
theorem countStart_ct (b : Br) (z : BrA) (v : Int) : Ct Tryd.prog 6 [b.v z, .int .i64 v] [] [.rd z.1.1 (i64s b.cf.ms), .rd z.2.1.1 (itsV b.its), .rd z.2.2.1 (kpsV b.kps), .lim] (fun _ : Unit => .bool true) (fun _ => []) (fun _ => []) := by
  obtain ⟨⟨M, cM⟩, ⟨I, cI⟩, ⟨K, cK⟩⟩ := z
  by_cases hgr : b.great = true
  · skip
    refine Ct.of _ Tryd.func6 Tryd.ntmps6 rfl rfl (fun X W => ?_)
    refine Jc.seq ?_
    refine Jc.region ?_
    refine Jl.box rfl (by rfl) ?_
    intro b2
    refine Jl.pv (PR.assign rfl) ?_
    refine Jl.nil ?_
    refine Jq.thenN ?_
    refine Jc.seq ?_
    refine Jc.seq ?_
    refine Jc.region ?_
    refine Jl.pv (PR.loadW rfl tsh30 (by repeat (first | exact Has.here | apply Has.there)) (by rfl)) ?_
    refine Jl.call (great_ct b ((M, cM), (I, cI), (K, cK))) en7 (by rfl) (by repeat (first | exact Take.nil | apply Take.cons (by repeat (first | exact Del.here | apply Del.there)))) (by repeat (first | exact trivial | refine And.intro (by repeat (first | exact Mem.here | apply Mem.there)) ?_)) ?_
    rintro ⟨⟩
    refine Jl.as (.bool true) (congrArg Value.bool hgr) ?_
    refine Jl.pv (PR.move rfl) ?_
    refine Jl.offS rfl rfl rfl ?_
    refine Jl.offS rfl rfl rfl ?_
    refine Jl.offS rfl rfl rfl ?_
    refine Jl.pv (PR.pickT rfl rfl) ?_
    refine Jl.pv (PR.move rfl) ?_
    refine Jl.offS rfl rfl rfl ?_
    refine Jl.offS rfl rfl rfl ?_
    refine Jl.offS rfl rfl rfl ?_
    refine Jl.pv (PR.pickT rfl rfl) ?_
    refine Jl.pv (PR.move rfl) ?_
    refine Jl.offS rfl rfl rfl ?_
    refine Jl.offS rfl rfl rfl ?_
    refine Jl.offS rfl rfl rfl ?_
    refine Jl.offS rfl rfl rfl ?_
    refine Jl.pv (PR.pickT rfl rfl) ?_
    refine Jl.pv (PR.move rfl) ?_
    refine Jl.offS rfl rfl rfl ?_
    refine Jl.offS rfl rfl rfl ?_
    refine Jl.pv (PR.pickT rfl rfl) ?_
    refine Jl.pv (PR.move rfl) ?_
    refine Jl.offS rfl rfl rfl ?_
    refine Jl.offS rfl rfl rfl ?_
    refine Jl.pv (PR.pickT rfl rfl) ?_
    refine Jl.nil ?_
    refine Jq.thenN ?_
    refine Jc.condT rfl ?_
    refine Jc.seq ?_
    refine Jc.region ?_
    refine Jl.call ctwakes_ct en9 (by rfl) (by repeat (first | exact Take.nil | apply Take.cons (by repeat (first | exact Del.here | apply Del.there)))) (by repeat (first | exact trivial | refine And.intro (by repeat (first | exact Mem.here | apply Mem.there)) ?_)) ?_
    rintro ⟨⟩
    refine Jl.pv (PR.assign rfl) ?_
    refine Jl.nil ?_
    refine Jq.thenN ?_
    refine Jc.ret ?_
    refine Jq.thenR ?_
    exact Jq.fin () (.inl rfl) rfl (RetVs.tmp rfl RetVs.nil) rfl (by repeat (first | exact Take.nil | apply Take.cons (by repeat (first | exact Del.here | apply Del.there)))) (by repeat (first | exact trivial | refine And.intro (by repeat (first | exact Mem.here | apply Mem.there)) ?_))
    -- hint not used: one
  obtain ⟨hn, hm, hms⟩ := great_no (by simpa using hgr)
  have hl8 := kpsV_len b.kps
  have hl4 := itsV_len b.its
  refine Ct.of _ Tryd.func6 Tryd.ntmps6 rfl rfl (fun X W => ?_)
  refine Jc.seq ?_
  refine Jc.region ?_
  refine Jl.box rfl (by rfl) ?_
  intro b2
  refine Jl.pv (PR.assign rfl) ?_
  refine Jl.nil ?_
  refine Jq.thenN ?_
  refine Jc.seq ?_
  refine Jc.seq ?_
  refine Jc.region ?_
  refine Jl.pv (PR.loadW rfl tsh30 (by repeat (first | exact Has.here | apply Has.there)) (by rfl)) ?_
  refine Jl.call (great_ct b ((M, cM), (I, cI), (K, cK))) en7 (by rfl) (by repeat (first | exact Take.nil | apply Take.cons (by repeat (first | exact Del.here | apply Del.there)))) (by repeat (first | exact trivial | refine And.intro (by repeat (first | exact Mem.here | apply Mem.there)) ?_)) ?_
  rintro ⟨⟩
  refine Jl.as (.bool false) (congrArg Value.bool (by simpa using hgr)) ?_
  refine Jl.pv (PR.move rfl) ?_
  refine Jl.on rfl rfl ?_
  refine Jl.pv (PR.loadW rfl tsh30 (by repeat (first | exact Has.here | apply Has.there)) (by rfl)) ?_
  refine Jl.on rfl rfl ?_
  refine Jl.call (right_ct b ((M, cM), (I, cI), (K, cK)) (by omega) (by omega) (by omega)) en8 (by rfl) (by repeat (first | exact Take.nil | apply Take.cons (by repeat (first | exact Del.here | apply Del.there)))) (by repeat (first | exact trivial | refine And.intro (by repeat (first | exact Mem.here | apply Mem.there)) ?_)) ?_
  rintro ⟨⟩
  refine Jl.on rfl rfl ?_
  refine Jl.pv (PR.not rfl) ?_
  refine Jl.pv (PR.pickF rfl rfl) ?_
  refine Jl.pv (PR.move rfl) ?_
  refine Jl.bsplit (fun g20 => ?_) (fun g20 => ?_)
  · try replace g20 := of_decide_eq_true g20
    refine Jl.offS rfl rfl rfl ?_
    refine Jl.offS rfl rfl rfl ?_
    refine Jl.offS rfl rfl rfl ?_
    refine Jl.pv (PR.pickT rfl rfl) ?_
    refine Jl.pv (PR.move rfl) ?_
    refine Jl.offS rfl rfl rfl ?_
    refine Jl.offS rfl rfl rfl ?_
    refine Jl.offS rfl rfl rfl ?_
    refine Jl.offS rfl rfl rfl ?_
    refine Jl.pv (PR.pickT rfl rfl) ?_
    refine Jl.pv (PR.move rfl) ?_
    refine Jl.offS rfl rfl rfl ?_
    refine Jl.offS rfl rfl rfl ?_
    refine Jl.pv (PR.pickT rfl rfl) ?_
    refine Jl.pv (PR.move rfl) ?_
    refine Jl.offS rfl rfl rfl ?_
    refine Jl.offS rfl rfl rfl ?_
    refine Jl.pv (PR.pickT rfl rfl) ?_
    refine Jl.nil ?_
    refine Jq.thenN ?_
    refine Jc.condT rfl ?_
    refine Jc.seq ?_
    refine Jc.region ?_
    refine Jl.call ctwakes_ct en9 (by rfl) (by repeat (first | exact Take.nil | apply Take.cons (by repeat (first | exact Del.here | apply Del.there)))) (by repeat (first | exact trivial | refine And.intro (by repeat (first | exact Mem.here | apply Mem.there)) ?_)) ?_
    rintro ⟨⟩
    refine Jl.pv (PR.assign rfl) ?_
    refine Jl.nil ?_
    refine Jq.thenN ?_
    refine Jc.ret ?_
    refine Jq.thenR ?_
    exact Jq.fin () (.inl rfl) rfl (RetVs.tmp rfl RetVs.nil) rfl (by repeat (first | exact Take.nil | apply Take.cons (by repeat (first | exact Del.here | apply Del.there)))) (by repeat (first | exact trivial | refine And.intro (by repeat (first | exact Mem.here | apply Mem.there)) ?_))
  · try replace g20 := of_decide_eq_false g20
    refine Jl.on rfl rfl ?_
    refine Jl.pv (PR.fieldAddr rfl tfl30_2) ?_
    refine Jl.on rfl rfl ?_
    refine Jl.pv (PR.load1 rfl tsh4 (by repeat (first | exact Has.here | apply Has.there)) (by rfl)) ?_
    refine Jl.on rfl rfl ?_
    refine Jl.pv (PR.not rfl) ?_
    refine Jl.pv (PR.pickF rfl rfl) ?_
    refine Jl.pv (PR.move rfl) ?_
    refine Jl.bsplit (fun g25 => ?_) (fun g25 => ?_)
    · try replace g25 := of_decide_eq_true g25
      refine Jl.offS rfl rfl rfl ?_
      refine Jl.offS rfl rfl rfl ?_
      refine Jl.offS rfl rfl rfl ?_
      refine Jl.offS rfl rfl rfl ?_
      refine Jl.pv (PR.pickT rfl rfl) ?_
      refine Jl.pv (PR.move rfl) ?_
      refine Jl.offS rfl rfl rfl ?_
      refine Jl.offS rfl rfl rfl ?_
      refine Jl.pv (PR.pickT rfl rfl) ?_
      refine Jl.pv (PR.move rfl) ?_
      refine Jl.offS rfl rfl rfl ?_
      refine Jl.offS rfl rfl rfl ?_
      refine Jl.pv (PR.pickT rfl rfl) ?_
      refine Jl.nil ?_
      refine Jq.thenN ?_
      refine Jc.condT rfl ?_
      refine Jc.seq ?_
      refine Jc.region ?_
      refine Jl.call ctwakes_ct en9 (by rfl) (by repeat (first | exact Take.nil | apply Take.cons (by repeat (first | exact Del.here | apply Del.there)))) (by repeat (first | exact trivial | refine And.intro (by repeat (first | exact Mem.here | apply Mem.there)) ?_)) ?_
      rintro ⟨⟩
      refine Jl.pv (PR.assign rfl) ?_
      refine Jl.nil ?_
      refine Jq.thenN ?_
      refine Jc.ret ?_
      refine Jq.thenR ?_
      exact Jq.fin () (.inl rfl) rfl (RetVs.tmp rfl RetVs.nil) rfl (by repeat (first | exact Take.nil | apply Take.cons (by repeat (first | exact Del.here | apply Del.there)))) (by repeat (first | exact trivial | refine And.intro (by repeat (first | exact Mem.here | apply Mem.there)) ?_))
    · try replace g25 := of_decide_eq_false g25
      refine Jl.on rfl rfl ?_
      refine Jl.pv (PR.fieldAddr rfl tfl30_6) ?_
      refine Jl.on rfl rfl ?_
      refine Jl.pv (PR.fieldAddr rfl tfl28_0) ?_
      refine Jl.on rfl rfl ?_
      refine Jl.pv (PR.load1 rfl tsh5 (by repeat (first | exact Has.here | apply Has.there)) (by rfl)) ?_
      refine Jl.on rfl rfl ?_
      refine Jl.pv (PR.eql _ rfl rfl rfl) ?_
      refine Jl.pv (PR.pickF rfl rfl) ?_
      refine Jl.pv (PR.move rfl) ?_
      refine Jl.bsplit (fun g31 => ?_) (fun g31 => ?_)
      · try replace g31 := of_decide_eq_true g31
        refine Jl.offS rfl rfl rfl ?_
        refine Jl.offS rfl rfl rfl ?_
        refine Jl.pv (PR.pickT rfl rfl) ?_
        refine Jl.pv (PR.move rfl) ?_
        refine Jl.offS rfl rfl rfl ?_
        refine Jl.offS rfl rfl rfl ?_
        refine Jl.pv (PR.pickT rfl rfl) ?_
        refine Jl.nil ?_
        refine Jq.thenN ?_
        refine Jc.condT rfl ?_
        refine Jc.seq ?_
        refine Jc.region ?_
        refine Jl.call ctwakes_ct en9 (by rfl) (by repeat (first | exact Take.nil | apply Take.cons (by repeat (first | exact Del.here | apply Del.there)))) (by repeat (first | exact trivial | refine And.intro (by repeat (first | exact Mem.here | apply Mem.there)) ?_)) ?_
        rintro ⟨⟩
        refine Jl.pv (PR.assign rfl) ?_
        refine Jl.nil ?_
        refine Jq.thenN ?_
        refine Jc.ret ?_
        refine Jq.thenR ?_
        exact Jq.fin () (.inl rfl) rfl (RetVs.tmp rfl RetVs.nil) rfl (by repeat (first | exact Take.nil | apply Take.cons (by repeat (first | exact Del.here | apply Del.there)))) (by repeat (first | exact trivial | refine And.intro (by repeat (first | exact Mem.here | apply Mem.there)) ?_))
      · try replace g31 := of_decide_eq_false g31
        refine Jl.on rfl rfl ?_
        refine Jl.pv (PR.move rfl) ?_
        refine Jl.on rfl rfl ?_
        refine Jl.pv (PR.lss _ rfl rfl rfl) ?_
        refine Jl.pv (PR.pickF rfl rfl) ?_
        refine Jl.pv (PR.move rfl) ?_
        refine Jl.bsplit (fun g35 => ?_) (fun g35 => ?_)
        · try replace g35 := of_decide_eq_true g35
          refine Jl.offS rfl rfl rfl ?_
          refine Jl.offS rfl rfl rfl ?_
          refine Jl.pv (PR.pickT rfl rfl) ?_
          refine Jl.nil ?_
          refine Jq.thenN ?_
          refine Jc.condT rfl ?_
          refine Jc.seq ?_
          refine Jc.region ?_
          refine Jl.call ctwakes_ct en9 (by rfl) (by repeat (first | exact Take.nil | apply Take.cons (by repeat (first | exact Del.here | apply Del.there)))) (by repeat (first | exact trivial | refine And.intro (by repeat (first | exact Mem.here | apply Mem.there)) ?_)) ?_
          rintro ⟨⟩
          refine Jl.pv (PR.assign rfl) ?_
          refine Jl.nil ?_
          refine Jq.thenN ?_
          refine Jc.ret ?_
          refine Jq.thenR ?_
          exact Jq.fin () (.inl rfl) rfl (RetVs.tmp rfl RetVs.nil) rfl (by repeat (first | exact Take.nil | apply Take.cons (by repeat (first | exact Del.here | apply Del.there)))) (by repeat (first | exact trivial | refine And.intro (by repeat (first | exact Mem.here | apply Mem.there)) ?_))
        · try replace g35 := of_decide_eq_false g35
          refine Jl.on rfl rfl ?_
          refine Jl.pv (PR.move rfl) ?_
          refine Jl.on rfl rfl ?_
          refine Jl.pv (PR.gtr _ rfl rfl rfl) ?_
          refine Jl.pv (PR.pickF rfl rfl) ?_
          refine Jl.nil ?_
          refine Jq.thenN ?_
          refine Jc.cond rfl (fun h0 => ?_) (fun h0 => ?_)
          · try replace h0 := of_decide_eq_true h0
            refine Jc.seq ?_
            refine Jc.region ?_
            refine Jl.call ctwakes_ct en9 (by rfl) (by repeat (first | exact Take.nil | apply Take.cons (by repeat (first | exact Del.here | apply Del.there)))) (by repeat (first | exact trivial | refine And.intro (by repeat (first | exact Mem.here | apply Mem.there)) ?_)) ?_
            rintro ⟨⟩
            refine Jl.pv (PR.assign rfl) ?_
            refine Jl.nil ?_
            refine Jq.thenN ?_
            refine Jc.ret ?_
            refine Jq.thenR ?_
            exact Jq.fin () (.inl rfl) rfl (RetVs.tmp rfl RetVs.nil) rfl (by repeat (first | exact Take.nil | apply Take.cons (by repeat (first | exact Del.here | apply Del.there)))) (by repeat (first | exact trivial | refine And.intro (by repeat (first | exact Mem.here | apply Mem.there)) ?_))
          · try replace h0 := of_decide_eq_false h0
            have hok : b.Ok := okB_iff.1 (by simpa using g20)
            have hset : b.set = true := by simpa using g25
            have hact : b.act = false := by simp [Br.act]; omega
            have hnum : numsOk [v, 5] = true := by simp [numsOk]; omega
            refine Jc.skip ?_
            refine Jq.thenN ?_
            refine Jc.seq ?_
            refine Jc.region ?_
            refine Jl.pv (PR.loadW rfl tsh30 (by repeat (first | exact Has.here | apply Has.there)) (by rfl)) ?_
            refine Jl.pv (PR.move rfl) ?_
            refine Jl.buildSlice (by rfl) tsl22 tzr22_2 (by rfl) (by rfl) ?_
            intro b42
            refine Jl.pv (PR.build (by rfl) tze46 tpl46_0_1 (by rfl)) ?_
            refine Jl.seal (by repeat (first | exact Del.here | apply Del.there)) ?_
            refine Jl.call (applyStart_ct b ((M, cM), (I, cI), (K, cK)) (some ⟨b42, 0, none⟩) 2 v 5 (by omega) (by omega) (by omega) hset hact (by omega) hnum) en16 (by rfl) (by repeat (first | exact Take.nil | apply Take.cons (by repeat (first | exact Del.here | apply Del.there)))) (by repeat (first | exact trivial | refine And.intro (by repeat (first | exact Mem.here | apply Mem.there)) ?_)) ?_
            rintro zd
            refine Jl.alloc tze30 ?_
            intro b5
            refine Jl.storeW rfl tsh30 rfl (by rfl) (by first | exact Br.cs_one _ _ | simp [Value.oneCell', Kp.cs, Br.counts]) (by repeat (first | exact Swap.here | apply Swap.there)) (by rfl) ?_
            refine Jl.nil ?_
            refine Jq.thenN ?_
            refine Jc.seq ?_
            refine Jc.region ?_
            refine Jl.pv (PR.loadW rfl tsh30 (by repeat (first | exact Has.here | apply Has.there)) (by rfl)) ?_
            refine Jl.pv (PR.build (by rfl) tze46 tpl46_0 (by rfl)) ?_
            refine Jl.call (applyCancel_ct (b.start v 5) zd (show b.its.length ≤ 1000 by omega) (show b.kps.length ≤ 1000 by omega) (show b.cf.ms.length ≤ 1000 by omega) rfl) en16 (by rfl) (by repeat (first | exact Take.nil | apply Take.cons (by repeat (first | exact Del.here | apply Del.there)))) (by repeat (first | exact trivial | refine And.intro (by repeat (first | exact Mem.here | apply Mem.there)) ?_)) ?_
            rintro zc
            refine Jl.alloc tze30 ?_
            intro b6
            refine Jl.storeW rfl tsh30 rfl (by rfl) (by first | exact Br.cs_one _ _ | simp [Value.oneCell', Kp.cs, Br.counts]) (by repeat (first | exact Swap.here | apply Swap.there)) (by rfl) ?_
            refine Jl.nil ?_
            refine Jq.thenN ?_
            refine Jc.seq ?_
            refine Jc.region ?_
            refine Jl.pv (PR.assign rfl) ?_
            refine Jl.nil ?_
            refine Jq.thenN ?_
            refine Jc.seq ?_
            refine Jc.seq ?_
            refine Jc.region ?_
            refine Jl.pv (PR.assign rfl) ?_
            refine Jl.nil ?_
            refine Jq.thenN ?_
            refine Jc.block ?_
            refine Jc.loop (σ := { k : Nat // k ≤ b.kps.length }) (fun s => [(8, Value.int .i64 (s.1 : Int)), (7, .int .i64 ((b.start v 5).oc s.1 : Int)), (6, .pointer (some ⟨b6, 0, none⟩)), (5, .pointer (some ⟨b5, 0, none⟩)), (2, .pointer (some ⟨b2, 0, none⟩)), (1, .int .i64 v)]) (fun _ => [.blk b6 30 ((b.start v 5).cancel.cs zc), .blk b5 30 ((b.start v 5).cs zd), .blk b2 30 (b.cs ((M, cM), (I, cI), (K, cK)))]) (fun s => [.rd zc.1.1 (i64s b.cf.ms), .rd zc.2.1.1 (itsV b.its), .rd zc.2.2.1 (kpsV b.kps), .rd zd.1.1 (i64s b.cf.ms), .rd zd.2.1.1 (itsV b.its), .rd zd.2.2.1 (kpsV b.kps), .rd M (i64s b.cf.ms), .rd I (itsV b.its), .rd K (kpsV b.kps), .lim]) (fun s => b.kps.length - s.1) ⟨0, Nat.zero_le _⟩ (by repeat (first | exact trivial | refine And.intro rfl ?_)) rfl (by repeat (first | exact trivial | refine And.intro (by repeat (first | exact Mem.here | apply Mem.there)) ?_)) ?_
            rintro ⟨k, hk⟩
            show Jc _ _ _ _ _ _ [(8, Value.int .i64 (k : Int)), (7, .int .i64 ((b.start v 5).oc k : Int)), (6, .pointer (some ⟨b6, 0, none⟩)), (5, .pointer (some ⟨b5, 0, none⟩)), (2, .pointer (some ⟨b2, 0, none⟩)), (1, .int .i64 v)] [.blk b6 30 ((b.start v 5).cancel.cs zc), .blk b5 30 ((b.start v 5).cs zd), .blk b2 30 (b.cs ((M, cM), (I, cI), (K, cK)))] [.rd zc.1.1 (i64s b.cf.ms), .rd zc.2.1.1 (itsV b.its), .rd zc.2.2.1 (kpsV b.kps), .rd zd.1.1 (i64s b.cf.ms), .rd zd.2.1.1 (itsV b.its), .rd zd.2.2.1 (kpsV b.kps), .rd M (i64s b.cf.ms), .rd I (itsV b.its), .rd K (kpsV b.kps), .lim]
            have hoc := oc_le (b.start v 5) k
            have hoc' : (b.start v 5).oc k ≤ b.kps.length := hoc
            refine Jc.seq ?_
            refine Jc.seq ?_
            refine Jc.region ?_
            refine Jl.pv (PR.move rfl) ?_
            refine Jl.pv (PR.fieldAddr rfl tfl30_5) ?_
            refine Jl.pv (PR.load1 rfl tsh26 (by repeat (first | exact Has.here | apply Has.there)) (by rfl)) ?_
            refine Jl.pv (PR.len rfl tsl26) ?_
            refine Jl.pv (PR.lss _ rfl rfl rfl) ?_
            refine Jl.nil ?_
            refine Jq.thenN ?_
            refine Jc.cond rfl (fun h1 => ?_) (fun h1 => ?_)
            · try replace h1 := of_decide_eq_true h1
              have h1' : (k : Int) < (b.kps.length : Int) := h1
              have hlt : k < b.kps.length := by omega
              refine Jc.skip ?_
              refine Jq.thenN ?_
              refine Jc.seq ?_
              refine Jc.block ?_
              refine Jc.seq ?_
              refine Jc.region ?_
              refine Jl.pv (PR.fieldAddr rfl tfl30_5) ?_
              refine Jl.pv (PR.load1 rfl tsh26 (by repeat (first | exact Has.here | apply Has.there)) (by rfl)) ?_
              refine Jl.pv (PR.move rfl) ?_
              refine Jl.pv (PR.idx k rfl rfl tsl26 (by repeat (first | exact Mem.here | apply Mem.there)) (kpsV_len _) (by omega) rfl hlt) ?_
              refine Jl.pv (PR.loadRA rfl tsh38 (by repeat (first | exact Mem.here | apply Mem.there)) (by decide) (kps_at hlt)) ?_
              refine Jl.alloc tze38 ?_
              intro b9
              refine Jl.storeW rfl tsh38 rfl (by rfl) (by first | exact Br.cs_one _ _ | simp [Value.oneCell', Kp.cs, Br.counts]) (by repeat (first | exact Swap.here | apply Swap.there)) (by rfl) ?_
              refine Jl.nil ?_
              refine Jq.thenN ?_
              refine Jc.seq ?_
              refine Jc.region ?_
              refine Jl.pv (PR.fieldAddr rfl tfl38_2) ?_
              refine Jl.pv (PR.load1 rfl tsh3 (by repeat (first | exact Has.here | apply Has.there)) (by rfl)) ?_
              refine Jl.pv (PR.move rfl) ?_
              refine Jl.pv (PR.neq _ rfl rfl rfl) ?_
              refine Jl.pv (PR.move rfl) ?_
              refine Jl.bsplit (fun g64 => ?_) (fun g64 => ?_)
              · try replace g64 := of_decide_eq_true g64
                refine Jl.on rfl rfl ?_
                refine Jl.pv (PR.fieldAddr rfl tfl38_4) ?_
                refine Jl.on rfl rfl ?_
                refine Jl.pv (PR.load1 rfl tsh5 (by repeat (first | exact Has.here | apply Has.there)) (by rfl)) ?_
                refine Jl.on rfl rfl ?_
                refine Jl.call (rgoes_ct b.kps[k].ph) en11 (by rfl) (by repeat (first | exact Take.nil | apply Take.cons (by repeat (first | exact Del.here | apply Del.there)))) (by repeat (first | exact trivial | refine And.intro (by repeat (first | exact Mem.here | apply Mem.there)) ?_)) ?_
                rintro ⟨⟩
                refine Jl.on rfl rfl ?_
                refine Jl.pv (PR.not rfl) ?_
                refine Jl.pv (PR.pickT rfl rfl) ?_
                refine Jl.pv (PR.move rfl) ?_
                refine Jl.bsplit (fun g70 => ?_) (fun g70 => ?_)
                · try replace g70 := of_decide_eq_true g70
                  refine Jl.on rfl rfl ?_
                  refine Jl.pv (PR.fieldAddr rfl tfl38_6) ?_
                  refine Jl.on rfl rfl ?_
                  refine Jl.pv (PR.load1 rfl tsh4 (by repeat (first | exact Has.here | apply Has.there)) (by rfl)) ?_
                  refine Jl.on rfl rfl ?_
                  refine Jl.pv (PR.move rfl) ?_
                  refine Jl.bsplit (fun g73 => ?_) (fun g73 => ?_)
                  · try replace g73 := of_decide_eq_true g73
                    refine Jl.on rfl rfl ?_
                    refine Jl.pv (PR.fieldAddr rfl tfl30_3) ?_
                    refine Jl.on rfl rfl ?_
                    refine Jl.pv (PR.fieldAddr rfl tfl24_13) ?_
                    refine Jl.on rfl rfl ?_
                    refine Jl.pv (PR.load1 rfl tsh4 (by repeat (first | exact Has.here | apply Has.there)) (by rfl)) ?_
                    refine Jl.on rfl rfl ?_
                    refine Jl.pv (PR.pickT rfl rfl) ?_
                    refine Jl.on rfl rfl ?_
                    refine Jl.pv (PR.not rfl) ?_
                    refine Jl.pv (PR.pickT rfl rfl) ?_
                    refine Jl.nil ?_
                    refine Jq.thenN ?_
                    refine Jc.cond rfl (fun h2 => ?_) (fun h2 => ?_)
                    · try replace h2 := of_decide_eq_true h2
                      refine Jc.region ?_
                      refine Jl.pv (PR.move rfl) ?_
                      refine Jl.pv (PR.add (((b.start v 5).oc k + 1 : Nat) : Int) rfl rfl (by rw [w64 (by omega) (by omega)]; rfl)) ?_
                      refine Jl.pv (PR.assign rfl) ?_
                      refine Jl.nil ?_
                      refine Jq.blkN ?_
                      refine Jq.thenN ?_
                      refine Jc.region ?_
                      refine Jl.pv (PR.move rfl) ?_
                      refine Jl.pv (PR.add ((k + 1 : Nat) : Int) rfl rfl (by rw [w64 (by omega) (by omega)]; rfl)) ?_
                      refine Jl.pv (PR.assign rfl) ?_
                      refine Jl.nil ?_
                      exact Jq.againT ⟨k + 1, hlt⟩ (by simp only; omega) (by exact ⟨rfl, congrArg (fun v => some (Value.int .i64 v)) (sc_yes hlt (old_yes (b := b.start v 5) (k := b.kps[k]) g64 (by simpa using g70) (.inr (nbT h2)))), rfl, rfl, rfl, rfl, trivial⟩) (by repeat (first | exact Take.nil | apply Take.cons (by repeat (first | exact Del.here | apply Del.there)))) (by repeat (first | exact trivial | refine And.intro (by repeat (first | exact Mem.here | apply Mem.there)) ?_))
                    · try replace h2 := of_decide_eq_false h2
                      refine Jc.skip ?_
                      refine Jq.blkN ?_
                      refine Jq.thenN ?_
                      refine Jc.region ?_
                      refine Jl.pv (PR.move rfl) ?_
                      refine Jl.pv (PR.add ((k + 1 : Nat) : Int) rfl rfl (by rw [w64 (by omega) (by omega)]; rfl)) ?_
                      refine Jl.pv (PR.assign rfl) ?_
                      refine Jl.nil ?_
                      exact Jq.againT ⟨k + 1, hlt⟩ (by simp only; omega) (by exact ⟨rfl, congrArg (fun v => some (Value.int .i64 v)) (sc_no hlt (old_no3 (b := b.start v 5) (k := b.kps[k]) g73 (nbF h2))), rfl, rfl, rfl, rfl, trivial⟩) (by repeat (first | exact Take.nil | apply Take.cons (by repeat (first | exact Del.here | apply Del.there)))) (by repeat (first | exact trivial | refine And.intro (by repeat (first | exact Mem.here | apply Mem.there)) ?_))
                  · try replace g73 := of_decide_eq_false g73
                    refine Jl.offS rfl rfl rfl ?_
                    refine Jl.offS rfl rfl rfl ?_
                    refine Jl.offS rfl rfl rfl ?_
                    refine Jl.on rfl rfl ?_
                    refine Jl.pv (PR.pickF rfl rfl) ?_
                    refine Jl.on rfl rfl ?_
                    refine Jl.pv (PR.not rfl) ?_
                    refine Jl.pv (PR.pickT rfl rfl) ?_
                    refine Jl.nil ?_
                    refine Jq.thenN ?_
                    refine Jc.condT rfl ?_
                    refine Jc.region ?_
                    refine Jl.pv (PR.move rfl) ?_
                    refine Jl.pv (PR.add (((b.start v 5).oc k + 1 : Nat) : Int) rfl rfl (by rw [w64 (by omega) (by omega)]; rfl)) ?_
                    refine Jl.pv (PR.assign rfl) ?_
                    refine Jl.nil ?_
                    refine Jq.blkN ?_
                    refine Jq.thenN ?_
                    refine Jc.region ?_
                    refine Jl.pv (PR.move rfl) ?_
                    refine Jl.pv (PR.add ((k + 1 : Nat) : Int) rfl rfl (by rw [w64 (by omega) (by omega)]; rfl)) ?_
                    refine Jl.pv (PR.assign rfl) ?_
                    refine Jl.nil ?_
                    exact Jq.againT ⟨k + 1, hlt⟩ (by simp only; omega) (by exact ⟨rfl, congrArg (fun v => some (Value.int .i64 v)) (sc_yes hlt (old_yes (b := b.start v 5) (k := b.kps[k]) g64 (by simpa using g70) (.inl g73))), rfl, rfl, rfl, rfl, trivial⟩) (by repeat (first | exact Take.nil | apply Take.cons (by repeat (first | exact Del.here | apply Del.there)))) (by repeat (first | exact trivial | refine And.intro (by repeat (first | exact Mem.here | apply Mem.there)) ?_))
                · try replace g70 := of_decide_eq_false g70
                  refine Jl.offS rfl rfl rfl ?_
                  refine Jl.offS rfl rfl rfl ?_
                  refine Jl.offS rfl rfl rfl ?_
                  refine Jl.offUS rfl rfl ?_
                  refine Jl.offUS rfl rfl ?_
                  refine Jl.offUS rfl rfl ?_
                  refine Jl.offS rfl rfl rfl ?_
                  refine Jl.offS rfl rfl rfl ?_
                  refine Jl.pv (PR.pickF rfl rfl) ?_
                  refine Jl.nil ?_
                  refine Jq.thenN ?_
                  refine Jc.condF rfl ?_
                  refine Jc.skip ?_
                  refine Jq.blkN ?_
                  refine Jq.thenN ?_
                  refine Jc.region ?_
                  refine Jl.pv (PR.move rfl) ?_
                  refine Jl.pv (PR.add ((k + 1 : Nat) : Int) rfl rfl (by rw [w64 (by omega) (by omega)]; rfl)) ?_
                  refine Jl.pv (PR.assign rfl) ?_
                  refine Jl.nil ?_
                  exact Jq.againT ⟨k + 1, hlt⟩ (by simp only; omega) (by exact ⟨rfl, congrArg (fun v => some (Value.int .i64 v)) (sc_no hlt (old_no2 (b := b.start v 5) (k := b.kps[k]) (by simpa using g70))), rfl, rfl, rfl, rfl, trivial⟩) (by repeat (first | exact Take.nil | apply Take.cons (by repeat (first | exact Del.here | apply Del.there)))) (by repeat (first | exact trivial | refine And.intro (by repeat (first | exact Mem.here | apply Mem.there)) ?_))
              · try replace g64 := of_decide_eq_false g64
                refine Jl.offS rfl rfl rfl ?_
                refine Jl.offS rfl rfl rfl ?_
                refine Jl.offS rfl rfl rfl ?_
                refine Jl.offS rfl rfl rfl ?_
                refine Jl.pv (PR.pickF rfl rfl) ?_
                refine Jl.pv (PR.move rfl) ?_
                refine Jl.offS rfl rfl rfl ?_
                refine Jl.offS rfl rfl rfl ?_
                refine Jl.offS rfl rfl rfl ?_
                refine Jl.offUS rfl rfl ?_
                refine Jl.offUS rfl rfl ?_
                refine Jl.offUS rfl rfl ?_
                refine Jl.offS rfl rfl rfl ?_
                refine Jl.offS rfl rfl rfl ?_
                refine Jl.pv (PR.pickF rfl rfl) ?_
                refine Jl.nil ?_
                refine Jq.thenN ?_
                refine Jc.condF rfl ?_
                refine Jc.skip ?_
                refine Jq.blkN ?_
                refine Jq.thenN ?_
                refine Jc.region ?_
                refine Jl.pv (PR.move rfl) ?_
                refine Jl.pv (PR.add ((k + 1 : Nat) : Int) rfl rfl (by rw [w64 (by omega) (by omega)]; rfl)) ?_
                refine Jl.pv (PR.assign rfl) ?_
                refine Jl.nil ?_
                exact Jq.againT ⟨k + 1, hlt⟩ (by simp only; omega) (by exact ⟨rfl, congrArg (fun v => some (Value.int .i64 v)) (sc_no hlt (old_no1 (b := b.start v 5) (k := b.kps[k]) (show b.kps[k].ver = v by simpa using g64))), rfl, rfl, rfl, rfl, trivial⟩) (by repeat (first | exact Take.nil | apply Take.cons (by repeat (first | exact Del.here | apply Del.there)))) (by repeat (first | exact trivial | refine And.intro (by repeat (first | exact Mem.here | apply Mem.there)) ?_))
            · try replace h1 := of_decide_eq_false h1
              have h1' : ¬ (k : Int) < (b.kps.length : Int) := h1
              obtain rfl : k = b.kps.length := by omega
              refine Jc.exit ?_
              refine Jq.thenX ?_
              refine Jq.thenX ?_
              refine Jq.blkX ?_
              refine Jq.thenN ?_
              refine Jc.seq ?_
              refine Jc.seq ?_
              refine Jc.region ?_
              refine Jl.pv (PR.assign rfl) ?_
              refine Jl.nil ?_
              refine Jq.thenN ?_
              refine Jc.block ?_
              refine Jc.loop (σ := { k : Nat // k ≤ b.its.length }) (fun s => [(10, Value.int .i64 (s.1 : Int)), (7, .int .i64 (((b.start v 5).oc b.kps.length + (b.start v 5).ic s.1 : Nat) : Int)), (6, .pointer (some ⟨b6, 0, none⟩)), (5, .pointer (some ⟨b5, 0, none⟩)), (2, .pointer (some ⟨b2, 0, none⟩)), (1, .int .i64 v)]) (fun _ => [.blk b6 30 ((b.start v 5).cancel.cs zc), .blk b5 30 ((b.start v 5).cs zd), .blk b2 30 (b.cs ((M, cM), (I, cI), (K, cK)))]) (fun s => [.rd zc.1.1 (i64s b.cf.ms), .rd zc.2.1.1 (itsV b.its), .rd zc.2.2.1 (kpsV b.kps), .rd zd.1.1 (i64s b.cf.ms), .rd zd.2.1.1 (itsV b.its), .rd zd.2.2.1 (kpsV b.kps), .rd M (i64s b.cf.ms), .rd I (itsV b.its), .rd K (kpsV b.kps), .lim]) (fun s => b.its.length - s.1) ⟨0, Nat.zero_le _⟩ (by repeat (first | exact trivial | refine And.intro rfl ?_)) rfl (by repeat (first | exact trivial | refine And.intro (by repeat (first | exact Mem.here | apply Mem.there)) ?_)) ?_
              rintro ⟨k, hk⟩
              show Jc _ _ _ _ _ _ [(10, Value.int .i64 (k : Int)), (7, .int .i64 (((b.start v 5).oc b.kps.length + (b.start v 5).ic k : Nat) : Int)), (6, .pointer (some ⟨b6, 0, none⟩)), (5, .pointer (some ⟨b5, 0, none⟩)), (2, .pointer (some ⟨b2, 0, none⟩)), (1, .int .i64 v)] [.blk b6 30 ((b.start v 5).cancel.cs zc), .blk b5 30 ((b.start v 5).cs zd), .blk b2 30 (b.cs ((M, cM), (I, cI), (K, cK)))] [.rd zc.1.1 (i64s b.cf.ms), .rd zc.2.1.1 (itsV b.its), .rd zc.2.2.1 (kpsV b.kps), .rd zd.1.1 (i64s b.cf.ms), .rd zd.2.1.1 (itsV b.its), .rd zd.2.2.1 (kpsV b.kps), .rd M (i64s b.cf.ms), .rd I (itsV b.its), .rd K (kpsV b.kps), .lim]
              have hic : (b.start v 5).ic k ≤ b.its.length := ic_le (b.start v 5) k
              refine Jc.seq ?_
              refine Jc.seq ?_
              refine Jc.region ?_
              refine Jl.pv (PR.move rfl) ?_
              refine Jl.pv (PR.fieldAddr rfl tfl30_4) ?_
              refine Jl.pv (PR.load1 rfl tsh25 (by repeat (first | exact Has.here | apply Has.there)) (by rfl)) ?_
              refine Jl.pv (PR.len rfl tsl25) ?_
              refine Jl.pv (PR.lss _ rfl rfl rfl) ?_
              refine Jl.nil ?_
              refine Jq.thenN ?_
              refine Jc.cond rfl (fun h3 => ?_) (fun h3 => ?_)
              · try replace h3 := of_decide_eq_true h3
                have h3' : (k : Int) < (b.its.length : Int) := h3
                have hlt : k < b.its.length := by omega
                refine Jc.skip ?_
                refine Jq.thenN ?_
                refine Jc.seq ?_
                refine Jc.block ?_
                refine Jc.seq ?_
                refine Jc.region ?_
                refine Jl.pv (PR.fieldAddr rfl tfl30_4) ?_
                refine Jl.pv (PR.load1 rfl tsh25 (by repeat (first | exact Has.here | apply Has.there)) (by rfl)) ?_
                refine Jl.pv (PR.move rfl) ?_
                refine Jl.pv (PR.idx k rfl rfl tsl25 (by repeat (first | exact Mem.here | apply Mem.there)) (itsV_len _) (by omega) rfl hlt) ?_
                refine Jl.pv (PR.fieldAddrR rfl tfl43_1 (by repeat (first | exact Mem.here | apply Mem.there)) (by omega)) ?_
                refine Jl.pv (PR.loadR rfl tsh3 (by repeat (first | exact Mem.here | apply Mem.there)) (its_f hlt 1 rfl)) ?_
                refine Jl.pv (PR.move rfl) ?_
                refine Jl.pv (PR.neq _ rfl rfl rfl) ?_
                refine Jl.nil ?_
                refine Jq.thenN ?_
                refine Jc.cond rfl (fun h4 => ?_) (fun h4 => ?_)
                · try replace h4 := of_decide_eq_true h4
                  refine Jc.region ?_
                  refine Jl.pv (PR.move rfl) ?_
                  refine Jl.pv (PR.add (((b.start v 5).oc b.kps.length + ((b.start v 5).ic k + 1) : Nat) : Int) rfl rfl (by rw [w64 (by omega) (by omega)]; omega)) ?_
                  refine Jl.pv (PR.assign rfl) ?_
                  refine Jl.nil ?_
                  refine Jq.blkN ?_
                  refine Jq.thenN ?_
                  refine Jc.region ?_
                  refine Jl.pv (PR.move rfl) ?_
                  refine Jl.pv (PR.add ((k + 1 : Nat) : Int) rfl rfl (by rw [w64 (by omega) (by omega)]; rfl)) ?_
                  refine Jl.pv (PR.assign rfl) ?_
                  refine Jl.nil ?_
                  exact Jq.againT ⟨k + 1, hlt⟩ (by simp only; omega) (by exact ⟨rfl, congrArg (fun v => some (Value.int .i64 v)) (si_yes hlt h4), rfl, rfl, rfl, rfl, trivial⟩) (by repeat (first | exact Take.nil | apply Take.cons (by repeat (first | exact Del.here | apply Del.there)))) (by repeat (first | exact trivial | refine And.intro (by repeat (first | exact Mem.here | apply Mem.there)) ?_))
                · try replace h4 := of_decide_eq_false h4
                  refine Jc.skip ?_
                  refine Jq.blkN ?_
                  refine Jq.thenN ?_
                  refine Jc.region ?_
                  refine Jl.pv (PR.move rfl) ?_
                  refine Jl.pv (PR.add ((k + 1 : Nat) : Int) rfl rfl (by rw [w64 (by omega) (by omega)]; rfl)) ?_
                  refine Jl.pv (PR.assign rfl) ?_
                  refine Jl.nil ?_
                  exact Jq.againT ⟨k + 1, hlt⟩ (by simp only; omega) (by exact ⟨rfl, congrArg (fun v => some (Value.int .i64 v)) (si_no hlt (by simpa using h4)), rfl, rfl, rfl, rfl, trivial⟩) (by repeat (first | exact Take.nil | apply Take.cons (by repeat (first | exact Del.here | apply Del.there)))) (by repeat (first | exact trivial | refine And.intro (by repeat (first | exact Mem.here | apply Mem.there)) ?_))
              · try replace h3 := of_decide_eq_false h3
                have h3' : ¬ (k : Int) < (b.its.length : Int) := h3
                obtain rfl : k = b.its.length := by omega
                have hce := oc_end (b.start v 5)
                have hce' : (b.start v 5).cnt 1 = (b.start v 5).oc b.kps.length + (b.start v 5).ic b.its.length := hce
                have hco := cancel_old v 5 hact
                refine Jc.exit ?_
                refine Jq.thenX ?_
                refine Jq.thenX ?_
                refine Jq.blkX ?_
                refine Jq.thenN ?_
                refine Jc.seq ?_
                refine Jc.drawn [0, 1, 0, 7, 0, 0, 63, 127] ([], []) [⟨[(0, false), (2, false), (4, true), (5, true)], [], 1⟩, ⟨[], [], 3⟩, ⟨[], [4, 5], 6⟩, ⟨[], [], 7⟩] tmx (by kernel_rfl) ?_
                refine Dh.JH.cons ?_
                refine Dh.JB.rd [.blk _ _ _] rfl trivial (by repeat (first | exact Take.nil | apply Take.cons (by repeat (first | exact Del.here | apply Del.there)))) (fun _ => PR.loadW rfl tsh30 Has.here (by rfl)) ?_
                refine Dh.JB.rd [.blk _ _ _] rfl trivial (by repeat (first | exact Take.nil | apply Take.cons (by repeat (first | exact Del.here | apply Del.there)))) (fun _ => PR.loadW rfl tsh30 Has.here (by rfl)) ?_
                refine Dh.JB.alloc rfl trivial tze34 ?_
                refine Dh.JB.alloc rfl trivial tze34 ?_
                refine Dh.JB.nil ?_
                refine Dh.JL.nil ?_
                refine Dh.JE.mk rfl (fun _ h => by cases h) (fun C17_1 => ?_)
                refine Jl.call (countof_ct (b.start v 5) zd (show b.its.length ≤ 1000 by omega) (show b.kps.length ≤ 1000 by omega) (show b.cf.ms.length ≤ 1000 by omega)) en10 (by rfl) (by repeat (first | exact Take.nil | apply Take.cons (by repeat (first | exact Del.here | apply Del.there)))) (by repeat (first | exact trivial | refine And.intro (by repeat (first | exact Mem.here | apply Mem.there)) ?_)) ?_
                rintro ⟨⟩
                refine Jl.nil ?_
                refine Dh.Jq.segV (by repeat (first | exact Dh.FExt.refl | apply Dh.FExt.cons | apply Dh.FExt.app)) ?_ (by repeat (first | exact Dh.KeepL.nil | apply Dh.KeepL.anc (by rfl) | apply Dh.KeepL.keep (by repeat (first | exact Take.nil | apply Take.cons (by repeat (first | exact Del.here | apply Del.there))))))
                refine Dh.JH.cons ?_
                refine Dh.JB.nil ?_
                refine Dh.JL.nil ?_
                refine Dh.JE.mk rfl (fun _ h => by cases h) (fun C17_3 => ?_)
                refine Jl.call (countof_ct (b.start v 5).cancel zc (show b.its.length ≤ 1000 by omega) (show b.kps.length ≤ 1000 by omega) (show b.cf.ms.length ≤ 1000 by omega)) en10 (by rfl) (by repeat (first | exact Take.nil | apply Take.cons (by repeat (first | exact Del.here | apply Del.there)))) (by repeat (first | exact trivial | refine And.intro (by repeat (first | exact Mem.here | apply Mem.there)) ?_)) ?_
                rintro ⟨⟩
                refine Jl.nil ?_
                refine Dh.Jq.segV (by repeat (first | exact Dh.FExt.refl | apply Dh.FExt.cons | apply Dh.FExt.app)) ?_ (by repeat (first | exact Dh.KeepL.nil | apply Dh.KeepL.anc (by rfl) | apply Dh.KeepL.keep (by repeat (first | exact Take.nil | apply Take.cons (by repeat (first | exact Del.here | apply Del.there))))))
                refine Dh.JH.cons ?_
                refine Dh.JB.nil ?_
                refine Dh.JL.ptr rfl (by repeat (first | exact Dh.es_here | apply Dh.es_there)) (fun b11 => ?_)
                refine Dh.JL.ptr rfl (by repeat (first | exact Dh.es_here | apply Dh.es_there)) (fun b12 => ?_)
                refine Dh.JL.nil ?_
                refine Dh.JE.mk rfl (fun _ h => by cases h) (fun C17_6 => ?_)
                refine Jl.storeW rfl tsh34 rfl (by rfl) (by first | exact Br.cs_one _ _ | simp [Value.oneCell', Kp.cs, Br.counts]) (by repeat (first | exact Swap.here | apply Swap.there)) (by rfl) ?_
                refine Jl.nil ?_
                refine Dh.Jq.segN (by repeat (first | exact Dh.FExt.refl | apply Dh.FExt.cons | apply Dh.FExt.app)) ?_ (by repeat (first | exact Dh.KeepL.nil | apply Dh.KeepL.anc (by rfl) | apply Dh.KeepL.keep (by repeat (first | exact Take.nil | apply Take.cons (by repeat (first | exact Del.here | apply Del.there))))))
                refine Dh.JH.cons ?_
                refine Dh.JB.nil ?_
                refine Dh.JL.nil ?_
                refine Dh.JE.mk rfl (fun _ h => by cases h) (fun C17_7 => ?_)
                refine Jl.storeW rfl tsh34 rfl (by rfl) (by first | exact Br.cs_one _ _ | simp [Value.oneCell', Kp.cs, Br.counts]) (by repeat (first | exact Swap.here | apply Swap.there)) (by rfl) ?_
                refine Jl.nil ?_
                refine Dh.Jq.segN (by repeat (first | exact Dh.FExt.refl | apply Dh.FExt.cons | apply Dh.FExt.app)) ?_ (by repeat (first | exact Dh.KeepL.nil | apply Dh.KeepL.anc (by rfl) | apply Dh.KeepL.keep (by repeat (first | exact Take.nil | apply Take.cons (by repeat (first | exact Del.here | apply Del.there))))))
                refine Dh.JH.nil ?_
                refine Dh.JB.nil ?_
                refine Dh.JL.nil ?_
                refine Jq.thenN ?_
                refine Jc.seq ?_
                refine Jc.drawn [0, 1, 0, 7, 15, 31, 63, 31, 255, 511, 1023, 2047, 4095, 2047, 10239, 26623, 65535, 131071, 262143, 524287, 1048575, 524287, 2621439, 6815743, 16777215, 33554431, 67108863, 134217727, 268435455, 134217727, 671088639, 1744830463, 4294967295, 8589934591, 17179869183, 34359738367, 68719476735, 137438953471, 274877906943, 549755813887, 274877906943, 1374389534719, 3573412790271, 8796093022207, 17592186044415, 35184372088831, 70368744177663, 140737488355327, 281474976710655, 562949953421311] ([(48, false), (49, false)], []) [⟨[(0, false), (2, false)], [], 1⟩, ⟨[(3, false), (4, false), (5, false), (6, false), (7, false), (8, false), (9, false), (10, false), (11, false), (13, false), (14, false), (15, false)], [], 12⟩, ⟨[(16, false), (17, false), (18, false), (19, false), (20, false), (21, false), (22, false), (23, false), (24, false), (25, false), (26, false), (27, false), (28, false), (29, false)], [], 30⟩, ⟨[(31, false), (32, false), (33, false), (34, false), (35, false), (36, false), (37, false), (38, false), (39, false), (40, false), (41, false), (42, false), (43, false), (44, false), (45, false), (46, false)], [], 47⟩] tmx (by kernel_rfl) ?_
                refine Dh.JH.cons ?_
                refine Dh.JB.rd [.blk _ _ _] rfl trivial (by repeat (first | exact Take.nil | apply Take.cons (by repeat (first | exact Del.here | apply Del.there)))) (fun _ => PR.loadW rfl tsh30 Has.here (by rfl)) ?_
                refine Dh.JB.pv rfl trivial (fun _ => PR.move rfl) ?_
                refine Dh.JB.nil ?_
                refine Dh.JL.nil ?_
                refine Dh.JE.mk rfl (fun _ h => by cases h) (fun C18_1 => ?_)
                refine Jl.call (version_ct (b.start v 5) zd) en18 (by rfl) (by repeat (first | exact Take.nil | apply Take.cons (by repeat (first | exact Del.here | apply Del.there)))) (by repeat (first | exact trivial | refine And.intro (by repeat (first | exact Mem.here | apply Mem.there)) ?_)) ?_
                rintro ⟨⟩
                refine Jl.nil ?_
                refine Dh.Jq.segV (by repeat (first | exact Dh.FExt.refl | apply Dh.FExt.cons | apply Dh.FExt.app)) ?_ (by repeat (first | exact Dh.KeepL.nil | apply Dh.KeepL.anc (by rfl) | apply Dh.KeepL.keep (by repeat (first | exact Take.nil | apply Take.cons (by repeat (first | exact Del.here | apply Del.there))))))
                refine Dh.JH.cons ?_
                refine Dh.JB.pv rfl trivial (fun _ => PR.eql true rfl rfl (decide_eq_true rfl)) ?_
                refine Dh.JB.pv rfl trivial (fun _ => PR.move rfl) ?_
                refine Dh.JB.pv rfl ⟨_, rfl, rfl⟩ (fun _ => PR.fieldAddr rfl tfl34_1) ?_
                refine Dh.JB.rd [.blk _ _ _] rfl ⟨_, rfl, rfl⟩ (by repeat (first | exact Take.nil | apply Take.cons (by repeat (first | exact Del.here | apply Del.there)))) (fun _ => PR.load1 rfl tsh3 Has.here (by rfl)) ?_
                refine Dh.JB.pv rfl ⟨_, rfl, rfl⟩ (fun _ => PR.move rfl) ?_
                refine Dh.JB.pv rfl ⟨_, rfl, rfl⟩ (fun _ => PR.eql true rfl rfl (decide_eq_true (by rw [hce']))) ?_
                refine Dh.JB.pv rfl trivial (fun _ => PR.pickT rfl rfl) ?_
                refine Dh.JB.pv rfl trivial (fun _ => PR.move rfl) ?_
                refine Dh.JB.rd [.blk _ _ _] rfl ⟨_, rfl, rfl⟩ (by repeat (first | exact Take.nil | apply Take.cons (by repeat (first | exact Del.here | apply Del.there)))) (fun _ => PR.loadW rfl tsh30 Has.here (by rfl)) ?_
                refine Dh.JB.pv rfl ⟨_, rfl, rfl⟩ (fun _ => PR.fieldAddr rfl tfl30_3) ?_
                refine Dh.JB.pv rfl ⟨_, rfl, rfl⟩ (fun _ => PR.fieldAddr rfl tfl24_12) ?_
                refine Dh.JB.rd [.blk _ _ _] rfl ⟨_, rfl, rfl⟩ (by repeat (first | exact Take.nil | apply Take.cons (by repeat (first | exact Del.here | apply Del.there)))) (fun _ => PR.load1 rfl tsh3 Has.here (by rfl)) ?_
                refine Dh.JB.nil ?_
                refine Dh.JL.nil ?_
                refine Dh.JE.mk rfl (fun _ h => by cases h) (fun C18_12 => ?_)
                refine Jl.on rfl rfl ?_
                refine Jl.call (version_ct (b.start v 5).cancel zc) en18 (by rfl) (by repeat (first | exact Take.nil | apply Take.cons (by repeat (first | exact Del.here | apply Del.there)))) (by repeat (first | exact trivial | refine And.intro (by repeat (first | exact Mem.here | apply Mem.there)) ?_)) ?_
                rintro ⟨⟩
                refine Jl.nil ?_
                refine Dh.Jq.segV (by repeat (first | exact Dh.FExt.refl | apply Dh.FExt.cons | apply Dh.FExt.app)) ?_ (by repeat (first | exact Dh.KeepL.nil | apply Dh.KeepL.anc (by rfl) | apply Dh.KeepL.keep (by repeat (first | exact Take.nil | apply Take.cons (by repeat (first | exact Del.here | apply Del.there))))))
                refine Dh.JH.cons ?_
                refine Dh.JB.pv rfl ⟨_, rfl, rfl⟩ (fun _ => PR.eql true rfl rfl (decide_eq_true rfl)) ?_
                refine Dh.JB.pv rfl trivial (fun _ => PR.pickT rfl rfl) ?_
                refine Dh.JB.pv rfl trivial (fun _ => PR.move rfl) ?_
                refine Dh.JB.pv rfl ⟨_, rfl, rfl⟩ (fun _ => PR.fieldAddr rfl tfl34_6) ?_
                refine Dh.JB.rd [.blk _ _ _] rfl ⟨_, rfl, rfl⟩ (by repeat (first | exact Take.nil | apply Take.cons (by repeat (first | exact Del.here | apply Del.there)))) (fun _ => PR.load1 rfl tsh3 Has.here (by rfl)) ?_
                refine Dh.JB.pv rfl ⟨_, rfl, rfl⟩ (fun _ => PR.fieldAddr rfl tfl30_3) ?_
                refine Dh.JB.pv rfl ⟨_, rfl, rfl⟩ (fun _ => PR.fieldAddr rfl tfl24_0) ?_
                refine Dh.JB.rd [.blk _ _ _] rfl ⟨_, rfl, rfl⟩ (by repeat (first | exact Take.nil | apply Take.cons (by repeat (first | exact Del.here | apply Del.there)))) (fun _ => PR.load1 rfl tsh3 Has.here (by rfl)) ?_
                refine Dh.JB.pv rfl ⟨_, rfl, rfl⟩ (fun _ => PR.eql true rfl rfl (decide_eq_true rfl)) ?_
                refine Dh.JB.pv rfl trivial (fun _ => PR.pickT rfl rfl) ?_
                refine Dh.JB.pv rfl trivial (fun _ => PR.move rfl) ?_
                refine Dh.JB.pv rfl ⟨_, rfl, rfl⟩ (fun _ => PR.fieldAddr rfl tfl34_1) ?_
                refine Dh.JB.rd [.blk _ _ _] rfl ⟨_, rfl, rfl⟩ (by repeat (first | exact Take.nil | apply Take.cons (by repeat (first | exact Del.here | apply Del.there)))) (fun _ => PR.load1 rfl tsh3 Has.here (by rfl)) ?_
                refine Dh.JB.rd [.blk _ _ _] rfl ⟨_, rfl, rfl⟩ (by repeat (first | exact Take.nil | apply Take.cons (by repeat (first | exact Del.here | apply Del.there)))) (fun _ => PR.loadW rfl tsh30 Has.here (by rfl)) ?_
                refine Dh.JB.nil ?_
                refine Dh.JL.nil ?_
                refine Dh.JE.mk rfl (fun _ h => by cases h) (fun C18_30 => ?_)
                refine Jl.on rfl rfl ?_
                refine Jl.call (countof_ct b ((M, cM), (I, cI), (K, cK)) (by omega) (by omega) (by omega)) en10 (by rfl) (by repeat (first | exact Take.nil | apply Take.cons (by repeat (first | exact Del.here | apply Del.there)))) (by repeat (first | exact trivial | refine And.intro (by repeat (first | exact Mem.here | apply Mem.there)) ?_)) ?_
                rintro ⟨⟩
                refine Jl.nil ?_
                refine Dh.Jq.segV (by repeat (first | exact Dh.FExt.refl | apply Dh.FExt.cons | apply Dh.FExt.app)) ?_ (by repeat (first | exact Dh.KeepL.nil | apply Dh.KeepL.anc (by rfl) | apply Dh.KeepL.keep (by repeat (first | exact Take.nil | apply Take.cons (by repeat (first | exact Del.here | apply Del.there))))))
                refine Dh.JH.cons ?_
                refine Dh.JB.pv rfl ⟨_, rfl, rfl⟩ (fun _ => PR.field1 rfl tfl34_1 ⟨_, _, Tryd.underlying34, rfl, tsh3⟩ (by rfl)) ?_
                refine Dh.JB.pv rfl ⟨_, rfl, rfl⟩ (fun _ => PR.eql true rfl rfl (decide_eq_true (by rw [hco]))) ?_
                refine Dh.JB.pv rfl trivial (fun _ => PR.pickT rfl rfl) ?_
                refine Dh.JB.pv rfl trivial (fun _ => PR.move rfl) ?_
                refine Dh.JB.pv rfl ⟨_, rfl, rfl⟩ (fun _ => PR.move rfl) ?_
                refine Dh.JB.pv rfl ⟨_, rfl, rfl⟩ (fun _ => PR.gtr _ rfl rfl rfl) ?_
                refine Dh.JB.pv rfl ⟨_, rfl, rfl⟩ (fun _ => PR.move rfl) ?_
                refine Dh.JB.bsplit (fun g140 => ?_) (fun g140 => ?_)
                · try replace g140 := of_decide_eq_true g140
                  refine Dh.JB.off rfl ⟨_, rfl, .inr rfl⟩ ?_
                  refine Dh.JB.off rfl ⟨_, rfl, .inr rfl⟩ ?_
                  refine Dh.JB.off rfl ⟨_, rfl, .inr rfl⟩ ?_
                  refine Dh.JB.off rfl ⟨_, rfl, .inr rfl⟩ ?_
                  refine Dh.JB.off rfl ⟨_, rfl, .inr rfl⟩ ?_
                  refine Dh.JB.off rfl ⟨_, rfl, .inr rfl⟩ ?_
                  refine Dh.JB.pv rfl ⟨_, rfl, rfl⟩ (fun _ => PR.pickT rfl rfl) ?_
                  refine Dh.JB.pv rfl trivial (fun _ => PR.pickT rfl rfl) ?_
                  refine Dh.JB.pv rfl trivial (fun _ => PR.move rfl) ?_
                  refine Dh.JB.nil ?_
                  refine Dh.JL.nil ?_
                  refine Dh.JE.mk rfl (fun _ h => by cases h) (fun C18_47 => ?_)
                  refine Jl.on rfl rfl ?_
                  refine Jl.call ctwakes_ct en9 (by rfl) (by repeat (first | exact Take.nil | apply Take.cons (by repeat (first | exact Del.here | apply Del.there)))) (by repeat (first | exact trivial | refine And.intro (by repeat (first | exact Mem.here | apply Mem.there)) ?_)) ?_
                  rintro ⟨⟩
                  refine Jl.as (.bool true) (congrArg Value.bool rfl) ?_
                  refine Jl.nil ?_
                  refine Dh.Jq.segV (by repeat (first | exact Dh.FExt.refl | apply Dh.FExt.cons | apply Dh.FExt.app)) ?_ (by repeat (first | exact Dh.KeepL.nil | apply Dh.KeepL.anc (by rfl) | apply Dh.KeepL.keep (by repeat (first | exact Take.nil | apply Take.cons (by repeat (first | exact Del.here | apply Del.there))))))
                  refine Dh.JH.nil ?_
                  refine Dh.JB.pv rfl trivial (fun _ => PR.pickT rfl rfl) ?_
                  refine Dh.JB.pv rfl trivial (fun _ => PR.assign rfl) ?_
                  refine Dh.JB.nil ?_
                  refine Dh.JL.nil ?_
                  refine Jq.thenN ?_
                  refine Jc.ret ?_
                  exact Jq.fin () (.inl rfl) rfl (RetVs.tmp rfl RetVs.nil) rfl (by repeat (first | exact Take.nil | apply Take.cons (by repeat (first | exact Del.here | apply Del.there)))) (by repeat (first | exact trivial | refine And.intro (by repeat (first | exact Mem.here | apply Mem.there)) ?_))
                · try replace g140 := of_decide_eq_false g140
                  refine Dh.JB.pv rfl ⟨_, rfl, rfl⟩ (fun _ => PR.fieldAddr rfl tfl34_6) ?_
                  refine Dh.JB.rd [.blk _ _ _] rfl ⟨_, rfl, rfl⟩ (by repeat (first | exact Take.nil | apply Take.cons (by repeat (first | exact Del.here | apply Del.there)))) (fun _ => PR.load1 rfl tsh3 Has.here (by rfl)) ?_
                  refine Dh.JB.pv rfl ⟨_, rfl, rfl⟩ (fun _ => PR.fieldAddr rfl tfl30_3) ?_
                  refine Dh.JB.pv rfl ⟨_, rfl, rfl⟩ (fun _ => PR.fieldAddr rfl tfl24_0) ?_
                  refine Dh.JB.rd [.blk _ _ _] rfl ⟨_, rfl, rfl⟩ (by repeat (first | exact Take.nil | apply Take.cons (by repeat (first | exact Del.here | apply Del.there)))) (fun _ => PR.load1 rfl tsh3 Has.here (by rfl)) ?_
                  refine Dh.JB.pv rfl ⟨_, rfl, rfl⟩ (fun _ => PR.eql true rfl rfl (decide_eq_true (want_none (b := b.start v 5) (by omega)))) ?_
                  refine Dh.JB.pv rfl ⟨_, rfl, rfl⟩ (fun _ => PR.pickF rfl rfl) ?_
                  refine Dh.JB.pv rfl trivial (fun _ => PR.pickT rfl rfl) ?_
                  refine Dh.JB.pv rfl trivial (fun _ => PR.move rfl) ?_
                  refine Dh.JB.nil ?_
                  refine Dh.JL.nil ?_
                  refine Dh.JE.mk rfl (fun _ h => by cases h) (fun C18_47 => ?_)
                  refine Jl.on rfl rfl ?_
                  refine Jl.call ctwakes_ct en9 (by rfl) (by repeat (first | exact Take.nil | apply Take.cons (by repeat (first | exact Del.here | apply Del.there)))) (by repeat (first | exact trivial | refine And.intro (by repeat (first | exact Mem.here | apply Mem.there)) ?_)) ?_
                  rintro ⟨⟩
                  refine Jl.as (.bool true) (congrArg Value.bool rfl) ?_
                  refine Jl.nil ?_
                  refine Dh.Jq.segV (by repeat (first | exact Dh.FExt.refl | apply Dh.FExt.cons | apply Dh.FExt.app)) ?_ (by repeat (first | exact Dh.KeepL.nil | apply Dh.KeepL.anc (by rfl) | apply Dh.KeepL.keep (by repeat (first | exact Take.nil | apply Take.cons (by repeat (first | exact Del.here | apply Del.there))))))
                  refine Dh.JH.nil ?_
                  refine Dh.JB.pv rfl trivial (fun _ => PR.pickT rfl rfl) ?_
                  refine Dh.JB.pv rfl trivial (fun _ => PR.assign rfl) ?_
                  refine Dh.JB.nil ?_
                  refine Dh.JL.nil ?_
                  refine Jq.thenN ?_
                  refine Jc.ret ?_
                  exact Jq.fin () (.inl rfl) rfl (RetVs.tmp rfl RetVs.nil) rfl (by repeat (first | exact Take.nil | apply Take.cons (by repeat (first | exact Del.here | apply Del.there)))) (by repeat (first | exact trivial | refine And.intro (by repeat (first | exact Mem.here | apply Mem.there)) ?_))
end Go.Proofs.YtiebgcahdnaekaaDoor
