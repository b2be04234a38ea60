/-
The laws of counts: wakes, CountSums.
-/
import Derived.Test.YtiebgcahdnaekaaDoorBrB
namespace Go.Proofs.YtiebgcahdnaekaaDoor
set_option linter.unusedVariables false
open Go.RowKit
attribute [local irreducible] Res.blk Res.row Fact.rd
def bw0 : Br := ⟨0, 0, false, Cf.zero, [], [], ⟨0, 0, 0, 0, false, 0, 0⟩⟩
def bw : Br := ⟨0, 0, true, ⟨2, 50, 1, 0, 0, 0, 0, 0, 1, 1, 1, 0, 4, false, []⟩, [], [⟨1, 0, 4, 0, 4, 0, false, false⟩, ⟨2, 0, 3, 2, 2, 0, false, false⟩], ⟨1, 4, 5, 0, false, 0, 0⟩⟩
abbrev nilA : BrA := ((none, 0), (none, 0), (none, 0))
theorem ctwakes_ct : Ct Tryd.prog 9 [] [] [.lim] (fun _ : Unit => .bool true) (fun _ => []) (fun _ => []) := by
  refine Ct.of _ Tryd.func9 Tryd.ntmps9 rfl rfl (fun X W => ?_)
  refine Jc.fact0 (.rd none (i64s [])) (fun X W => Fact.rd_nil none X W) ?_
  refine Jc.seq ?_
  refine Jc.region ?_
  refine Jl.pv (PR.assign rfl) ?_
  refine Jl.nil ?_
  refine Jq.thenN ?_
  refine Jc.seq ?_
  refine Jc.region ?_
  refine Jl.pv (PR.build (by rfl) tze24 tpl24_0_1_2_8_9_10_12 (by rfl)) ?_
  refine Jl.pv (PR.build (by rfl) tze30 tpl30_2_3 (by rfl)) ?_
  refine Jl.alloc tze30 ?_
  intro b1
  refine Jl.storeW rfl tsh30 rfl (by rfl) (by first | exact Br.cs_one _ _ | simp [Value.oneCell', Kp.cs, Rf.cs, Br.counts]) (by repeat (first | exact Swap.here | apply Swap.there)) (by rfl) ?_
  refine Jl.nil ?_
  refine Jq.thenN ?_
  refine Jc.seq ?_
  refine Jc.region ?_
  refine Jl.pv (PR.build (by rfl) tze38 tpl38_0_2_4 (by rfl)) ?_
  refine Jl.pv (PR.build (by rfl) tze38 tpl38_0_2_4_3 (by rfl)) ?_
  refine Jl.buildSlice (by rfl) tsl26 tzr26_2 (by rfl) (by rfl) ?_
  intro b8
  refine Jl.pv (PR.fieldAddr rfl tfl30_5) ?_
  refine Jl.store1 rfl tsh26 rfl (by rfl) (by repeat (first | exact Swap.here | apply Swap.there)) (by rfl) ?_
  refine Jl.nil ?_
  refine Jq.thenN ?_
  refine Jc.seq ?_
  refine Jc.region ?_
  refine Jl.pv (PR.build (by rfl) tze28 tpl28_0_1_2 (by rfl)) ?_
  refine Jl.pv (PR.fieldAddr rfl tfl30_6) ?_
  refine Jl.storeA rfl tsh28 rfl (by rfl) (by first | exact Br.cs_one _ _ | simp [Value.oneCell', Kp.cs, Rf.cs, Br.counts]) (by repeat (first | exact Swap.here | apply Swap.there)) (by rfl) ?_
  refine Jl.nil ?_
  refine Jq.thenN ?_
  refine Jc.seq ?_
  refine Jc.region ?_
  refine Jl.seal (by repeat (first | exact Del.here | apply Del.there)) ?_
  refine Jl.pv (PR.loadW rfl tsh30 (by repeat (first | exact Has.here | apply Has.there)) (by rfl)) ?_
  refine Jl.call (countof_ct bw ((none, 0), (none, 0), (some ⟨b8, 0, none⟩, 2)) (by decide) (by decide) (by decide)) en10 (by rfl) (by repeat (first | exact Take.nil | apply Take.cons (by repeat (first | exact Del.here | apply Del.there)))) (by repeat (first | exact trivial | refine And.intro (by repeat (first | exact Mem.here | apply Mem.there)) ?_)) ?_
  rintro ⟨⟩
  refine Jl.alloc tze34 ?_
  intro b2
  refine Jl.storeW rfl tsh34 rfl (by rfl) (by first | exact Br.cs_one _ _ | simp [Value.oneCell', Kp.cs, Rf.cs, Br.counts]) (by repeat (first | exact Swap.here | apply Swap.there)) (by rfl) ?_
  refine Jl.nil ?_
  refine Jq.thenN ?_
  refine Jc.seq ?_
  refine Jc.region ?_
  refine Jl.pv (PR.loadW rfl tsh30 (by repeat (first | exact Has.here | apply Has.there)) (by rfl)) ?_
  refine Jl.call (zones_ct bw ((none, 0), (none, 0), (some ⟨b8, 0, none⟩, 2)) (by decide) (by decide)) en12 (by rfl) (by repeat (first | exact Take.nil | apply Take.cons (by repeat (first | exact Del.here | apply Del.there)))) (by repeat (first | exact trivial | refine And.intro (by repeat (first | exact Mem.here | apply Mem.there)) ?_)) ?_
  rintro ⟨A15, c15⟩
  refine Jl.sealR (by repeat (first | exact Del.here | apply Del.there)) ?_
  refine Jl.pv (PR.assign rfl) ?_
  refine Jl.nil ?_
  refine Jq.thenN ?_
  refine Jc.seq ?_
  refine Jc.drawn [0, 1, 0, 7, 15, 31, 31, 127, 255, 511, 1023, 2047, 4095, 8191, 16383, 32767, 65535, 131071, 262143, 524287, 1048575, 2097151, 4194303, 8388607, 16777215, 33554431, 67108863, 134217727, 268435455, 536870911, 1073741823, 1073741823, 3221225471, 7516192767, 16106127359, 34359738367, 68719476735, 137438953471, 274877906943, 274877906943, 1099511627775, 2199023255551, 4398046511103] ([(41, false), (42, false)], []) [⟨[(0, false), (2, false)], [], 1⟩, ⟨[(3, false), (4, false), (5, false), (6, false), (7, false), (8, false), (9, false), (10, false), (11, false), (12, false), (13, false), (14, false), (15, false), (16, false), (17, false), (18, false), (19, false), (20, false), (21, false)], [], 22⟩, ⟨[(23, false), (24, false), (25, false), (26, false)], [], 27⟩, ⟨[(28, false), (29, false), (30, false), (31, false), (32, false), (33, false), (34, false)], [], 35⟩, ⟨[(36, false), (37, false), (38, false), (39, false)], [], 40⟩] tmx (by kernel_rfl) ?_
  refine Dh.JH.cons ?_
  refine Dh.JB.pv rfl trivial (fun _ => PR.build (by rfl) tze30 tpl30_ (by rfl)) ?_
  refine Dh.JB.pv rfl trivial (fun _ => PR.build (by rfl) tze34 tpl34_ (by rfl)) ?_
  refine Dh.JB.nil ?_
  refine Dh.JL.nil ?_
  refine Dh.JE.mk rfl (fun _ h => by cases h) (fun C6_1 => ?_)
  refine Jl.call (countof_ct bw0 nilA (by decide) (by decide) (by decide)) en10 (by rfl) (by repeat (first | exact Take.nil | apply Take.cons (by repeat (first | exact Del.here | apply Del.there)))) (by repeat (first | exact trivial | refine And.intro (by repeat (first | exact Mem.here | apply Mem.there)) ?_)) ?_
  rintro ⟨⟩
  refine Jl.nil ?_
  refine Dh.Jq.segV (by repeat (first | exact Dh.FExt.refl | apply Dh.FExt.cons | apply Dh.FExt.app)) ?_ (by repeat (first | exact Dh.KeepL.nil | apply Dh.KeepL.anc (by rfl) | apply Dh.KeepL.keep (by repeat (first | exact Take.nil | apply Take.cons (by repeat (first | exact Del.here | apply Del.there))))))
  refine Dh.JH.cons ?_
  refine Dh.JB.pv rfl trivial (fun _ => PR.eqlA (xs := bw0.counts) (ys := ctZ) true rfl rfl teq34 (by rfl) (iff_of_true rfl rfl)) ?_
  refine Dh.JB.pv rfl trivial (fun _ => PR.move rfl) ?_
  refine Dh.JB.rd [.blk _ _ _] rfl ⟨_, rfl, rfl⟩ (by repeat (first | exact Take.nil | apply Take.cons (by repeat (first | exact Del.here | apply Del.there)))) (fun _ => PR.loadW rfl tsh34 Has.here (by rfl)) ?_
  refine Dh.JB.pv rfl ⟨_, rfl, rfl⟩ (fun _ => PR.build (by rfl) tze34 tpl34_0_1_2_4_5_6_7_8 (by rfl)) ?_
  refine Dh.JB.pv rfl ⟨_, rfl, rfl⟩ (fun _ => PR.eqlA true rfl rfl teq34 (by rfl) (iff_of_true rfl rfl)) ?_
  refine Dh.JB.pv rfl trivial (fun _ => PR.pickT rfl rfl) ?_
  refine Dh.JB.pv rfl trivial (fun _ => PR.move rfl) ?_
  refine Dh.JB.pv rfl ⟨_, rfl, rfl⟩ (fun _ => PR.move rfl) ?_
  refine Dh.JB.pv rfl ⟨_, rfl, rfl⟩ (fun _ => PR.len rfl tsl22) ?_
  refine Dh.JB.pv rfl ⟨_, rfl, rfl⟩ (fun _ => PR.eql true rfl rfl (by decide)) ?_
  refine Dh.JB.pv rfl trivial (fun _ => PR.pickT rfl rfl) ?_
  refine Dh.JB.pv rfl trivial (fun _ => PR.move rfl) ?_
  refine Dh.JB.pv rfl ⟨_, rfl, rfl⟩ (fun _ => PR.move rfl) ?_
  refine Dh.JB.pv rfl ⟨_, rfl, rfl⟩ (fun _ => PR.idx1 1 rfl rfl tsl22 (by repeat (first | exact Mem.here | apply Mem.there)) (by simp [i64s]) rfl (by decide)) ?_
  refine Dh.JB.pv rfl ⟨_, rfl, rfl⟩ (fun _ => PR.loadR rfl tsh3 (by repeat (first | exact Mem.here | apply Mem.there)) (show (i64s bw.zones)[0 + 1]? = some (Value.int .i64 2) from rfl)) ?_
  refine Dh.JB.pv rfl ⟨_, rfl, rfl⟩ (fun _ => PR.eql true rfl rfl (by decide)) ?_
  refine Dh.JB.pv rfl trivial (fun _ => PR.pickT rfl rfl) ?_
  refine Dh.JB.pv rfl trivial (fun _ => PR.move rfl) ?_
  refine Dh.JB.rd [.blk _ _ _] rfl ⟨_, rfl, rfl⟩ (by repeat (first | exact Take.nil | apply Take.cons (by repeat (first | exact Del.here | apply Del.there)))) (fun _ => PR.loadW rfl tsh30 Has.here (by rfl)) ?_
  refine Dh.JB.nil ?_
  refine Dh.JL.nil ?_
  refine Dh.JE.mk rfl (fun _ h => by cases h) (fun C6_22 => ?_)
  refine Jl.on rfl rfl ?_
  refine Jl.call (full_ct bw ((none, 0), (none, 0), (some ⟨b8, 0, none⟩, 2)) (by decide) (by decide) (by decide)) en13 (by rfl) (by repeat (first | exact Take.nil | apply Take.cons (by repeat (first | exact Del.here | apply Del.there)))) (by repeat (first | exact trivial | refine And.intro (by repeat (first | exact Mem.here | apply Mem.there)) ?_)) ?_
  rintro ⟨⟩
  refine Jl.as (.bool false) (congrArg Value.bool (by decide)) ?_
  refine Jl.nil ?_
  refine Dh.Jq.segV (by repeat (first | exact Dh.FExt.refl | apply Dh.FExt.cons | apply Dh.FExt.app)) ?_ (by repeat (first | exact Dh.KeepL.nil | apply Dh.KeepL.anc (by rfl) | apply Dh.KeepL.keep (by repeat (first | exact Take.nil | apply Take.cons (by repeat (first | exact Del.here | apply Del.there))))))
  refine Dh.JH.cons ?_
  refine Dh.JB.pv rfl ⟨_, rfl, rfl⟩ (fun _ => PR.not rfl) ?_
  refine Dh.JB.pv rfl trivial (fun _ => PR.pickT rfl rfl) ?_
  refine Dh.JB.pv rfl trivial (fun _ => PR.move rfl) ?_
  refine Dh.JB.pv rfl ⟨_, rfl, rfl⟩ (fun _ => PR.build (by rfl) tze30 tpl30_ (by rfl)) ?_
  refine Dh.JB.nil ?_
  refine Dh.JL.nil ?_
  refine Dh.JE.mk rfl (fun _ h => by cases h) (fun C6_27 => ?_)
  refine Jl.on rfl rfl ?_
  refine Jl.call (full_ct bw0 nilA (by decide) (by decide) (by decide)) en13 (by rfl) (by repeat (first | exact Take.nil | apply Take.cons (by repeat (first | exact Del.here | apply Del.there)))) (by repeat (first | exact trivial | refine And.intro (by repeat (first | exact Mem.here | apply Mem.there)) ?_)) ?_
  rintro ⟨⟩
  refine Jl.as (.bool true) (congrArg Value.bool (by decide)) ?_
  refine Jl.nil ?_
  refine Dh.Jq.segV (by repeat (first | exact Dh.FExt.refl | apply Dh.FExt.cons | apply Dh.FExt.app)) ?_ (by repeat (first | exact Dh.KeepL.nil | apply Dh.KeepL.anc (by rfl) | apply Dh.KeepL.keep (by repeat (first | exact Take.nil | apply Take.cons (by repeat (first | exact Del.here | apply Del.there))))))
  refine Dh.JH.cons ?_
  refine Dh.JB.pv rfl trivial (fun _ => PR.pickT rfl rfl) ?_
  refine Dh.JB.pv rfl trivial (fun _ => PR.move rfl) ?_
  refine Dh.JB.rd [.blk _ _ _] rfl ⟨_, rfl, rfl⟩ (by repeat (first | exact Take.nil | apply Take.cons (by repeat (first | exact Del.here | apply Del.there)))) (fun _ => PR.loadW rfl tsh30 Has.here (by rfl)) ?_
  refine Dh.JB.pv rfl ⟨_, rfl, rfl⟩ (fun _ => PR.fieldAddr rfl tfl30_5) ?_
  refine Dh.JB.rd [.blk _ _ _] rfl ⟨_, rfl, rfl⟩ (by repeat (first | exact Take.nil | apply Take.cons (by repeat (first | exact Del.here | apply Del.there)))) (fun _ => PR.load1 rfl tsh26 Has.here (by rfl)) ?_
  refine Dh.JB.pv rfl ⟨_, rfl, rfl⟩ (fun _ => PR.idx 0 rfl rfl tsl26 (by repeat (first | exact Mem.here | apply Mem.there)) (kpsV_len bw.kps) (by decide) rfl (by decide)) ?_
  refine Dh.JB.pv rfl ⟨_, rfl, rfl⟩ (fun _ => PR.loadRA rfl tsh38 (by repeat (first | exact Mem.here | apply Mem.there)) (by decide) (kps_at (l := bw.kps) (k := 0) (by decide))) ?_
  refine Dh.JB.nil ?_
  refine Dh.JL.nil ?_
  refine Dh.JE.mk rfl (fun _ h => by cases h) (fun C6_35 => ?_)
  refine Jl.on rfl rfl ?_
  refine Jl.call (isold_ct bw ((none, 0), (none, 0), (some ⟨b8, 0, none⟩, 2)) ⟨1, 0, 4, 0, 4, 0, false, false⟩) en20 (by rfl) (by repeat (first | exact Take.nil | apply Take.cons (by repeat (first | exact Del.here | apply Del.there)))) (by repeat (first | exact trivial | refine And.intro (by repeat (first | exact Mem.here | apply Mem.there)) ?_)) ?_
  rintro ⟨⟩
  refine Jl.as (.bool true) (congrArg Value.bool (by decide)) ?_
  refine Jl.nil ?_
  refine Dh.Jq.segV (by repeat (first | exact Dh.FExt.refl | apply Dh.FExt.cons | apply Dh.FExt.app)) ?_ (by repeat (first | exact Dh.KeepL.nil | apply Dh.KeepL.anc (by rfl) | apply Dh.KeepL.keep (by repeat (first | exact Take.nil | apply Take.cons (by repeat (first | exact Del.here | apply Del.there))))))
  refine Dh.JH.cons ?_
  refine Dh.JB.pv rfl trivial (fun _ => PR.pickT rfl rfl) ?_
  refine Dh.JB.pv rfl trivial (fun _ => PR.move rfl) ?_
  refine Dh.JB.rd [.blk _ _ _] rfl ⟨_, rfl, rfl⟩ (by repeat (first | exact Take.nil | apply Take.cons (by repeat (first | exact Del.here | apply Del.there)))) (fun _ => PR.loadW rfl tsh30 Has.here (by rfl)) ?_
  refine Dh.JB.pv rfl ⟨_, rfl, rfl⟩ (fun _ => PR.build (by rfl) tze43 tpl43_1 (by rfl)) ?_
  refine Dh.JB.nil ?_
  refine Dh.JL.nil ?_
  refine Dh.JE.mk rfl (fun _ h => by cases h) (fun C6_40 => ?_)
  refine Jl.on rfl rfl ?_
  refine Jl.call (meant_ct bw ((none, 0), (none, 0), (some ⟨b8, 0, none⟩, 2)) ⟨0, 5, 0, false⟩) en21 (by rfl) (by repeat (first | exact Take.nil | apply Take.cons (by repeat (first | exact Del.here | apply Del.there)))) (by repeat (first | exact trivial | refine And.intro (by repeat (first | exact Mem.here | apply Mem.there)) ?_)) ?_
  rintro ⟨⟩
  refine Jl.as (.bool true) (congrArg Value.bool (by decide)) ?_
  refine Jl.nil ?_
  refine Dh.Jq.segV (by repeat (first | exact Dh.FExt.refl | apply Dh.FExt.cons | apply Dh.FExt.app)) ?_ (by repeat (first | exact Dh.KeepL.nil | apply Dh.KeepL.anc (by rfl) | apply Dh.KeepL.keep (by repeat (first | exact Take.nil | apply Take.cons (by repeat (first | exact Del.here | apply Del.there))))))
  refine Dh.JH.nil ?_
  refine Dh.JB.pv rfl trivial (fun _ => PR.pickT rfl rfl) ?_
  refine Dh.JB.pv rfl trivial (fun _ => PR.assign rfl) ?_
  refine Dh.JB.nil ?_
  refine Dh.JL.nil ?_
  refine Jq.thenN ?_
  refine Jc.ret ?_
  exact Jq.fin () (.inl rfl) rfl (RetVs.tmp rfl RetVs.nil) rfl (by repeat (first | exact Take.nil | apply Take.cons (by repeat (first | exact Del.here | apply Del.there)))) (by repeat (first | exact trivial | refine And.intro (by repeat (first | exact Mem.here | apply Mem.there)) ?_))
theorem nq {a b : Int} (h : a = b) : decide (a ≠ b) = false := by simp [h]
theorem countSums_ct (b : Br) (z : BrA) : Ct Tryd.prog 3 [b.v z] [] [.rd z.1.1 (i64s b.cf.ms), .rd z.2.1.1 (itsV b.its), .rd z.2.2.1 (kpsV b.kps), .lim] (fun _ : Unit => .bool true) (fun _ => []) (fun _ => []) := by
  obtain ⟨⟨M, cM⟩, ⟨I, cI⟩, ⟨K, cK⟩⟩ := z
  by_cases hgr : b.great = true
  · skip
    refine Ct.of _ Tryd.func3 Tryd.ntmps3 rfl rfl (fun X W => ?_)
    refine Jc.seq ?_
    refine Jc.region ?_
    refine Jl.box rfl (by rfl) ?_
    intro b1
    refine Jl.pv (PR.assign rfl) ?_
    refine Jl.nil ?_
    refine Jq.thenN ?_
    refine Jc.seq ?_
    refine Jc.seq ?_
    refine Jc.region ?_
    refine Jl.pv (PR.loadW rfl tsh30 (by repeat (first | exact Has.here | apply Has.there)) (by rfl)) ?_
    refine Jl.call (great_ct b ((M, cM), (I, cI), (K, cK))) en7 (by rfl) (by repeat (first | exact Take.nil | apply Take.cons (by repeat (first | exact Del.here | apply Del.there)))) (by repeat (first | exact trivial | refine And.intro (by repeat (first | exact Mem.here | apply Mem.there)) ?_)) ?_
    rintro ⟨⟩
    refine Jl.as (.bool true) (congrArg Value.bool hgr) ?_
    refine Jl.pv (PR.move rfl) ?_
    refine Jl.offS rfl rfl rfl ?_
    refine Jl.offS rfl rfl rfl ?_
    refine Jl.offS rfl rfl rfl ?_
    refine Jl.pv (PR.pickT rfl rfl) ?_
    refine Jl.pv (PR.move rfl) ?_
    refine Jl.offS rfl rfl rfl ?_
    refine Jl.offS rfl rfl rfl ?_
    refine Jl.offS rfl rfl rfl ?_
    refine Jl.pv (PR.pickT rfl rfl) ?_
    refine Jl.nil ?_
    refine Jq.thenN ?_
    refine Jc.condT rfl ?_
    refine Jc.seq ?_
    refine Jc.region ?_
    refine Jl.call ctwakes_ct en9 (by rfl) (by repeat (first | exact Take.nil | apply Take.cons (by repeat (first | exact Del.here | apply Del.there)))) (by repeat (first | exact trivial | refine And.intro (by repeat (first | exact Mem.here | apply Mem.there)) ?_)) ?_
    rintro ⟨⟩
    refine Jl.pv (PR.assign rfl) ?_
    refine Jl.nil ?_
    refine Jq.thenN ?_
    refine Jc.ret ?_
    refine Jq.thenR ?_
    exact Jq.fin () (.inl rfl) rfl (RetVs.tmp rfl RetVs.nil) rfl (by repeat (first | exact Take.nil | apply Take.cons (by repeat (first | exact Del.here | apply Del.there)))) (by repeat (first | exact trivial | refine And.intro (by repeat (first | exact Mem.here | apply Mem.there)) ?_))
    -- hint not used: one
  obtain ⟨hn, hm, hms⟩ := great_no (by simpa using hgr)
  refine Ct.of _ Tryd.func3 Tryd.ntmps3 rfl rfl (fun X W => ?_)
  refine Jc.seq ?_
  refine Jc.region ?_
  refine Jl.box rfl (by rfl) ?_
  intro b1
  refine Jl.pv (PR.assign rfl) ?_
  refine Jl.nil ?_
  refine Jq.thenN ?_
  refine Jc.seq ?_
  refine Jc.seq ?_
  refine Jc.region ?_
  refine Jl.pv (PR.loadW rfl tsh30 (by repeat (first | exact Has.here | apply Has.there)) (by rfl)) ?_
  refine Jl.call (great_ct b ((M, cM), (I, cI), (K, cK))) en7 (by rfl) (by repeat (first | exact Take.nil | apply Take.cons (by repeat (first | exact Del.here | apply Del.there)))) (by repeat (first | exact trivial | refine And.intro (by repeat (first | exact Mem.here | apply Mem.there)) ?_)) ?_
  rintro ⟨⟩
  refine Jl.as (.bool false) (congrArg Value.bool (by simpa using hgr)) ?_
  refine Jl.pv (PR.move rfl) ?_
  refine Jl.on rfl rfl ?_
  refine Jl.pv (PR.loadW rfl tsh30 (by repeat (first | exact Has.here | apply Has.there)) (by rfl)) ?_
  refine Jl.on rfl rfl ?_
  refine Jl.call (right_ct b ((M, cM), (I, cI), (K, cK)) (by omega) (by omega) (by omega)) en8 (by rfl) (by repeat (first | exact Take.nil | apply Take.cons (by repeat (first | exact Del.here | apply Del.there)))) (by repeat (first | exact trivial | refine And.intro (by repeat (first | exact Mem.here | apply Mem.there)) ?_)) ?_
  rintro ⟨⟩
  refine Jl.on rfl rfl ?_
  refine Jl.pv (PR.not rfl) ?_
  refine Jl.pv (PR.pickF rfl rfl) ?_
  refine Jl.pv (PR.move rfl) ?_
  refine Jl.bsplit (fun g15 => ?_) (fun g15 => ?_)
  · try replace g15 := of_decide_eq_true g15
    refine Jl.offS rfl rfl rfl ?_
    refine Jl.offS rfl rfl rfl ?_
    refine Jl.offS rfl rfl rfl ?_
    refine Jl.pv (PR.pickT rfl rfl) ?_
    refine Jl.nil ?_
    refine Jq.thenN ?_
    refine Jc.condT rfl ?_
    refine Jc.seq ?_
    refine Jc.region ?_
    refine Jl.call ctwakes_ct en9 (by rfl) (by repeat (first | exact Take.nil | apply Take.cons (by repeat (first | exact Del.here | apply Del.there)))) (by repeat (first | exact trivial | refine And.intro (by repeat (first | exact Mem.here | apply Mem.there)) ?_)) ?_
    rintro ⟨⟩
    refine Jl.pv (PR.assign rfl) ?_
    refine Jl.nil ?_
    refine Jq.thenN ?_
    refine Jc.ret ?_
    refine Jq.thenR ?_
    exact Jq.fin () (.inl rfl) rfl (RetVs.tmp rfl RetVs.nil) rfl (by repeat (first | exact Take.nil | apply Take.cons (by repeat (first | exact Del.here | apply Del.there)))) (by repeat (first | exact trivial | refine And.intro (by repeat (first | exact Mem.here | apply Mem.there)) ?_))
  · try replace g15 := of_decide_eq_false g15
    refine Jl.on rfl rfl ?_
    refine Jl.pv (PR.fieldAddr rfl tfl30_2) ?_
    refine Jl.on rfl rfl ?_
    refine Jl.pv (PR.load1 rfl tsh4 (by repeat (first | exact Has.here | apply Has.there)) (by rfl)) ?_
    refine Jl.on rfl rfl ?_
    refine Jl.pv (PR.not rfl) ?_
    refine Jl.pv (PR.pickF rfl rfl) ?_
    refine Jl.nil ?_
    refine Jq.thenN ?_
    refine Jc.cond rfl (fun h0 => ?_) (fun h0 => ?_)
    · try replace h0 := of_decide_eq_true h0
      refine Jc.seq ?_
      refine Jc.region ?_
      refine Jl.call ctwakes_ct en9 (by rfl) (by repeat (first | exact Take.nil | apply Take.cons (by repeat (first | exact Del.here | apply Del.there)))) (by repeat (first | exact trivial | refine And.intro (by repeat (first | exact Mem.here | apply Mem.there)) ?_)) ?_
      rintro ⟨⟩
      refine Jl.pv (PR.assign rfl) ?_
      refine Jl.nil ?_
      refine Jq.thenN ?_
      refine Jc.ret ?_
      refine Jq.thenR ?_
      exact Jq.fin () (.inl rfl) rfl (RetVs.tmp rfl RetVs.nil) rfl (by repeat (first | exact Take.nil | apply Take.cons (by repeat (first | exact Del.here | apply Del.there)))) (by repeat (first | exact trivial | refine And.intro (by repeat (first | exact Mem.here | apply Mem.there)) ?_))
    · try replace h0 := of_decide_eq_false h0
      have hok : b.Ok := okB_iff.1 (by simpa using g15)
      have hcf := hok.cf (by simpa using h0)
      have hd := Cf.in_d (Cf.ok_f hcf)
      have hsu := Cf.in_su (Cf.ok_f hcf)
      have hw := want_eq hcf
      have s1 := sums_all hok
      have s2 := b.cnt_all
      have s3 := b.zones_len
      have s4 := sums_serve (b := b)
      have s5 := sums_old (b := b)
      have s6 := flr_le hcf
      have s7 := bnd_ge hcf
      refine Jc.skip ?_
      refine Jq.thenN ?_
      refine Jc.seq ?_
      refine Jc.region ?_
      refine Jl.pv (PR.loadW rfl tsh30 (by repeat (first | exact Has.here | apply Has.there)) (by rfl)) ?_
      refine Jl.call (countof_ct b ((M, cM), (I, cI), (K, cK)) (by omega) (by omega) (by omega)) en10 (by rfl) (by repeat (first | exact Take.nil | apply Take.cons (by repeat (first | exact Del.here | apply Del.there)))) (by repeat (first | exact trivial | refine And.intro (by repeat (first | exact Mem.here | apply Mem.there)) ?_)) ?_
      rintro ⟨⟩
      refine Jl.alloc tze34 ?_
      intro b3
      refine Jl.storeW rfl tsh34 rfl (by rfl) (by first | exact Br.cs_one _ _ | simp [Value.oneCell', Br.counts]) (by repeat (first | exact Swap.here | apply Swap.there)) (by rfl) ?_
      refine Jl.nil ?_
      refine Jq.thenN ?_
      refine Jc.seq ?_
      refine Jc.region ?_
      refine Jl.pv (PR.assign rfl) ?_
      refine Jl.nil ?_
      refine Jq.thenN ?_
      refine Jc.seq ?_
      refine Jc.seq ?_
      refine Jc.region ?_
      refine Jl.pv (PR.assign rfl) ?_
      refine Jl.nil ?_
      refine Jq.thenN ?_
      refine Jc.block ?_
      refine Jc.loop (σ := { k : Nat // k ≤ b.kps.length }) (fun s => [(5, .int .i64 (s.1 : Int)), (4, .int .i64 (b.go s.1 : Int)), (3, .pointer (some ⟨b3, 0, none⟩)), (1, .pointer (some ⟨b1, 0, none⟩))]) (fun _ => [.blk b3 34 b.counts, .blk b1 30 (b.cs ((M, cM), (I, cI), (K, cK)))]) (fun s => [.rd M (i64s b.cf.ms), .rd I (itsV b.its), .rd K (kpsV b.kps), .lim]) (fun s => b.kps.length - s.1) ⟨0, Nat.zero_le _⟩ (by repeat (first | exact trivial | refine And.intro rfl ?_)) rfl (by repeat (first | exact trivial | refine And.intro (by repeat (first | exact Mem.here | apply Mem.there)) ?_)) ?_
      rintro ⟨k, hk⟩
      show Jc _ _ _ _ _ _ [(5, Value.int .i64 (k : Int)), (4, .int .i64 (b.go k : Int)), (3, .pointer (some ⟨b3, 0, none⟩)), (1, .pointer (some ⟨b1, 0, none⟩))] [.blk b3 34 b.counts, .blk b1 30 (b.cs ((M, cM), (I, cI), (K, cK)))] [.rd M (i64s b.cf.ms), .rd I (itsV b.its), .rd K (kpsV b.kps), .lim]
      have hgo := go_le b k
      refine Jc.seq ?_
      refine Jc.seq ?_
      refine Jc.region ?_
      refine Jl.pv (PR.move rfl) ?_
      refine Jl.pv (PR.fieldAddr rfl tfl30_5) ?_
      refine Jl.pv (PR.load1 rfl tsh26 (by repeat (first | exact Has.here | apply Has.there)) (by rfl)) ?_
      refine Jl.pv (PR.len rfl tsl26) ?_
      refine Jl.pv (PR.lss _ rfl rfl rfl) ?_
      refine Jl.nil ?_
      refine Jq.thenN ?_
      refine Jc.cond rfl (fun h1 => ?_) (fun h1 => ?_)
      · try replace h1 := of_decide_eq_true h1
        have hlt : k < b.kps.length := by omega
        have hl8 := kpsV_len b.kps
        refine Jc.skip ?_
        refine Jq.thenN ?_
        refine Jc.seq ?_
        refine Jc.block ?_
        refine Jc.seq ?_
        refine Jc.region ?_
        refine Jl.pv (PR.fieldAddr rfl tfl30_5) ?_
        refine Jl.pv (PR.load1 rfl tsh26 (by repeat (first | exact Has.here | apply Has.there)) (by rfl)) ?_
        refine Jl.pv (PR.move rfl) ?_
        refine Jl.pv (PR.idx k rfl rfl tsl26 (by repeat (first | exact Mem.here | apply Mem.there)) (kpsV_len _) (by omega) rfl hlt) ?_
        refine Jl.pv (PR.fieldAddrR rfl tfl38_4 (by repeat (first | exact Mem.here | apply Mem.there)) (by omega)) ?_
        refine Jl.pv (PR.loadR rfl tsh5 (by repeat (first | exact Mem.here | apply Mem.there)) (kps_f hlt 4 rfl)) ?_
        refine Jl.call (rgoes_ct b.kps[k].ph) en11 (by rfl) (by repeat (first | exact Take.nil | apply Take.cons (by repeat (first | exact Del.here | apply Del.there)))) (by repeat (first | exact trivial | refine And.intro (by repeat (first | exact Mem.here | apply Mem.there)) ?_)) ?_
        rintro ⟨⟩
        refine Jl.nil ?_
        refine Jq.thenN ?_
        refine Jc.cond rfl (fun h2 => ?_) (fun h2 => ?_)
        · try replace h2 := of_decide_eq_true h2
          refine Jc.region ?_
          refine Jl.pv (PR.move rfl) ?_
          refine Jl.pv (PR.add ((b.go k + 1 : Nat) : Int) rfl rfl (by rw [w64 (by omega) (by omega)]; rfl)) ?_
          refine Jl.pv (PR.assign rfl) ?_
          refine Jl.nil ?_
          refine Jq.blkN ?_
          refine Jq.thenN ?_
          refine Jc.region ?_
          refine Jl.pv (PR.move rfl) ?_
          refine Jl.pv (PR.add ((k + 1 : Nat) : Int) rfl rfl (by rw [w64 (by omega) (by omega)]; rfl)) ?_
          refine Jl.pv (PR.assign rfl) ?_
          refine Jl.nil ?_
          rw [← go_yes hlt (decide_eq_true h2)]
          exact Jq.againT ⟨k + 1, hlt⟩ (by simp only; omega) (by repeat (first | exact trivial | refine And.intro rfl ?_)) (by repeat (first | exact Take.nil | apply Take.cons (by repeat (first | exact Del.here | apply Del.there)))) (by repeat (first | exact trivial | refine And.intro (by repeat (first | exact Mem.here | apply Mem.there)) ?_))
        · try replace h2 := of_decide_eq_false h2
          refine Jc.skip ?_
          refine Jq.blkN ?_
          refine Jq.thenN ?_
          refine Jc.region ?_
          refine Jl.pv (PR.move rfl) ?_
          refine Jl.pv (PR.add ((k + 1 : Nat) : Int) rfl rfl (by rw [w64 (by omega) (by omega)]; rfl)) ?_
          refine Jl.pv (PR.assign rfl) ?_
          refine Jl.nil ?_
          rw [← go_no hlt (decide_eq_false h2)]
          exact Jq.againT ⟨k + 1, hlt⟩ (by simp only; omega) (by repeat (first | exact trivial | refine And.intro rfl ?_)) (by repeat (first | exact Take.nil | apply Take.cons (by repeat (first | exact Del.here | apply Del.there)))) (by repeat (first | exact trivial | refine And.intro (by repeat (first | exact Mem.here | apply Mem.there)) ?_))
      · try replace h1 := of_decide_eq_false h1
        obtain rfl : k = b.kps.length := by omega
        refine Jc.exit ?_
        refine Jq.thenX ?_
        refine Jq.thenX ?_
        refine Jq.blkX ?_
        refine Jq.thenN ?_
        refine Jc.seq ?_
        refine Jc.region ?_
        refine Jl.pv (PR.fieldAddr rfl tfl34_6) ?_
        refine Jl.pv (PR.load1 rfl tsh3 (by repeat (first | exact Has.here | apply Has.there)) (by rfl)) ?_
        refine Jl.pv (PR.fieldAddr rfl tfl30_3) ?_
        refine Jl.pv (PR.fieldAddr rfl tfl24_0) ?_
        refine Jl.pv (PR.load1 rfl tsh3 (by repeat (first | exact Has.here | apply Has.there)) (by rfl)) ?_
        refine Jl.pv (PR.sub (if b.more = true then b.cf.su else 0) rfl rfl (by have e : b.want - b.cf.d = (if b.more = true then b.cf.su else 0) := (by omega); rw [e]; exact w64 (by split <;> omega) (by split <;> omega))) ?_
        refine Jl.pv (PR.assign rfl) ?_
        refine Jl.nil ?_
        refine Jq.thenN ?_
        refine Jc.mid (σ := Unit) (fun _ => [(1, .pointer (some ⟨b1, 0, none⟩)), (3, .pointer (some ⟨b3, 0, none⟩)), (4, .int .i64 (b.go b.kps.length : Int)), (6, .int .i64 (if b.more = true then b.cf.su else 0)), (7, .bool b.more)]) (fun _ => [.blk b3 34 b.counts, .blk b1 30 (b.cs ((M, cM), (I, cI), (K, cK)))]) (fun _ => [.rd M (i64s b.cf.ms), .rd I (itsV b.its), .rd K (kpsV b.kps), .lim]) ?_ ?_
        · refine Jc.region ?_
          refine Jl.pv (PR.fieldAddr rfl tfl30_6) ?_
          refine Jl.pv (PR.fieldAddr rfl tfl28_0) ?_
          refine Jl.pv (PR.load1 rfl tsh5 (by repeat (first | exact Has.here | apply Has.there)) (by rfl)) ?_
          refine Jl.pv (PR.eql _ rfl rfl rfl) ?_
          refine Jl.pv (PR.move rfl) ?_
          refine Jl.bsplit (fun g49 => ?_) (fun g49 => ?_)
          · try replace g49 := of_decide_eq_true g49
            refine Jl.on rfl rfl ?_
            refine Jl.pv (PR.fieldAddr rfl tfl30_6) ?_
            refine Jl.on rfl rfl ?_
            refine Jl.pv (PR.fieldAddr rfl tfl28_4) ?_
            refine Jl.on rfl rfl ?_
            refine Jl.pv (PR.load1 rfl tsh4 (by repeat (first | exact Has.here | apply Has.there)) (by rfl)) ?_
            refine Jl.on rfl rfl ?_
            refine Jl.pv (PR.not rfl) ?_
            refine Jl.pv (PR.pickT rfl rfl) ?_
            refine Jl.pv (PR.move rfl) ?_
            refine Jl.bsplit (fun g55 => ?_) (fun g55 => ?_)
            · try replace g55 := of_decide_eq_true g55
              refine Jl.on rfl rfl ?_
              refine Jl.pv (PR.fieldAddr rfl tfl34_1) ?_
              refine Jl.on rfl rfl ?_
              refine Jl.pv (PR.load1 rfl tsh3 (by repeat (first | exact Has.here | apply Has.there)) (by rfl)) ?_
              refine Jl.on rfl rfl ?_
              refine Jl.pv (PR.gtr _ rfl rfl rfl) ?_
              refine Jl.pv (PR.pickT rfl rfl) ?_
              refine Jl.pv (PR.assign rfl) ?_
              refine Jl.nil ?_
              exact Jq.mid () (by exact ⟨rfl, rfl, rfl, rfl, congrArg (fun v => some (Value.bool v)) (Eq.symm (by rw [Br.more, show b.act = true by simp [Br.act]; omega]; simp [g55])), trivial⟩) rfl (by repeat (first | exact trivial | refine And.intro (by repeat (first | exact Mem.here | apply Mem.there)) ?_))
            · try replace g55 := of_decide_eq_false g55
              refine Jl.offS rfl rfl rfl ?_
              refine Jl.offS rfl rfl rfl ?_
              refine Jl.offS rfl rfl rfl ?_
              refine Jl.pv (PR.pickF rfl rfl) ?_
              refine Jl.pv (PR.assign rfl) ?_
              refine Jl.nil ?_
              exact Jq.mid () (by exact ⟨rfl, rfl, rfl, rfl, congrArg (fun v => some (Value.bool v)) (Eq.symm (by rw [Br.more, show b.act = true by simp [Br.act]; omega]; simp [g55])), trivial⟩) rfl (by repeat (first | exact trivial | refine And.intro (by repeat (first | exact Mem.here | apply Mem.there)) ?_))
          · try replace g49 := of_decide_eq_false g49
            refine Jl.offS rfl rfl rfl ?_
            refine Jl.offS rfl rfl rfl ?_
            refine Jl.offS rfl rfl rfl ?_
            refine Jl.offS rfl rfl rfl ?_
            refine Jl.pv (PR.pickF rfl rfl) ?_
            refine Jl.pv (PR.move rfl) ?_
            refine Jl.offS rfl rfl rfl ?_
            refine Jl.offS rfl rfl rfl ?_
            refine Jl.offS rfl rfl rfl ?_
            refine Jl.pv (PR.pickF rfl rfl) ?_
            refine Jl.pv (PR.assign rfl) ?_
            refine Jl.nil ?_
            exact Jq.mid () (by exact ⟨rfl, rfl, rfl, rfl, congrArg (fun v => some (Value.bool v)) (Eq.symm (by rw [Br.more, show b.act = false by simp [Br.act]; omega]; simp)), trivial⟩) rfl (by repeat (first | exact trivial | refine And.intro (by repeat (first | exact Mem.here | apply Mem.there)) ?_))
        · rintro ⟨⟩
          refine Jc.seq ?_
          refine Jc.seq ?_
          refine Jc.drawn [0, 1, 0, 4, 15, 0, 63, 0, 128, 511, 1023, 2047, 4095, 2047, 10239, 26623, 2047, 67583, 198655, 518143, 1048575, 2097151, 4194303, 8388607, 16777215, 33554431, 8388607, 75497471, 268435455, 536870911, 1073741823, 2147483647, 4294967295, 2147483647, 10737418239, 34359738367, 68719476735, 137438953471, 274877906943, 549755813887, 274877906943, 1374389534719, 274877906943, 7971459301375, 17592186044415, 35184372088831, 70368744177663, 140737488355327, 281474976710655, 562949953421311, 562949953421311, 1688849860263935, 3940649673949183, 9007199254740991, 18014398509481983, 36028797018963967, 72057594037927935, 144115188075855871, 288230376151711743, 576460752303423487, 1152921504606846975, 2305843009213693951, 4611686018427387903, 9223372036854775807] ([(25, false), (28, false), (29, false), (30, false), (31, false), (32, false), (33, false), (34, false), (35, false), (36, false), (37, false), (38, false), (39, false), (40, false), (41, false), (42, false), (43, false), (44, false), (45, false), (46, false), (47, false), (48, false), (49, false), (50, false), (51, false), (52, false), (53, false), (54, false), (55, false), (56, false), (57, false), (58, false), (59, false), (60, false), (61, false), (62, false), (63, false)], []) [⟨[(0, false), (1, false), (2, false), (3, false), (4, false), (5, false), (6, false), (7, false), (8, false), (9, false), (10, false), (11, false), (12, false), (13, false), (14, false), (15, false), (16, false), (17, false), (18, false), (19, false), (20, false), (21, false), (22, false), (23, false), (26, false), (27, false)], [], 24⟩] tmx (by kernel_rfl) ?_
          refine Dh.JH.cons ?_
          refine Dh.JB.pv rfl trivial (fun _ => PR.fieldAddr rfl tfl34_2) ?_
          refine Dh.JB.rd [.blk _ _ _] rfl trivial (by repeat (first | exact Take.nil | apply Take.cons (by repeat (first | exact Del.here | apply Del.there)))) (fun _ => PR.load1 rfl tsh3 Has.here (by rfl)) ?_
          refine Dh.JB.pv rfl trivial (fun _ => PR.fieldAddr rfl tfl34_3) ?_
          refine Dh.JB.rd [.blk _ _ _] rfl trivial (by repeat (first | exact Take.nil | apply Take.cons (by repeat (first | exact Del.here | apply Del.there)))) (fun _ => PR.load1 rfl tsh3 Has.here (by rfl)) ?_
          refine Dh.JB.pv rfl trivial (fun _ => PR.add _ rfl rfl (w64 (by omega) (by omega))) ?_
          refine Dh.JB.pv rfl trivial (fun _ => PR.move rfl) ?_
          refine Dh.JB.pv rfl trivial (fun _ => PR.add _ rfl rfl (w64 (by omega) (by omega))) ?_
          refine Dh.JB.pv rfl trivial (fun _ => PR.fieldAddr rfl tfl34_4) ?_
          refine Dh.JB.rd [.blk _ _ _] rfl trivial (by repeat (first | exact Take.nil | apply Take.cons (by repeat (first | exact Del.here | apply Del.there)))) (fun _ => PR.load1 rfl tsh3 Has.here (by rfl)) ?_
          refine Dh.JB.pv rfl trivial (fun _ => PR.neq false rfl rfl (nq (by omega))) ?_
          refine Dh.JB.pv rfl trivial (fun _ => PR.move rfl) ?_
          refine Dh.JB.pv rfl ⟨_, rfl, rfl⟩ (fun _ => PR.fieldAddr rfl tfl34_4) ?_
          refine Dh.JB.rd [.blk _ _ _] rfl ⟨_, rfl, rfl⟩ (by repeat (first | exact Take.nil | apply Take.cons (by repeat (first | exact Del.here | apply Del.there)))) (fun _ => PR.load1 rfl tsh3 Has.here (by rfl)) ?_
          refine Dh.JB.pv rfl ⟨_, rfl, rfl⟩ (fun _ => PR.fieldAddr rfl tfl30_4) ?_
          refine Dh.JB.rd [.blk _ _ _] rfl ⟨_, rfl, rfl⟩ (by repeat (first | exact Take.nil | apply Take.cons (by repeat (first | exact Del.here | apply Del.there)))) (fun _ => PR.load1 rfl tsh25 Has.here (by rfl)) ?_
          refine Dh.JB.pv rfl ⟨_, rfl, rfl⟩ (fun _ => PR.len rfl tsl25) ?_
          refine Dh.JB.pv rfl ⟨_, rfl, rfl⟩ (fun _ => PR.fieldAddr rfl tfl30_5) ?_
          refine Dh.JB.rd [.blk _ _ _] rfl ⟨_, rfl, rfl⟩ (by repeat (first | exact Take.nil | apply Take.cons (by repeat (first | exact Del.here | apply Del.there)))) (fun _ => PR.load1 rfl tsh26 Has.here (by rfl)) ?_
          refine Dh.JB.pv rfl ⟨_, rfl, rfl⟩ (fun _ => PR.len rfl tsl26) ?_
          refine Dh.JB.pv rfl ⟨_, rfl, rfl⟩ (fun _ => PR.add _ rfl rfl (w64 (by omega) (by omega))) ?_
          refine Dh.JB.pv rfl ⟨_, rfl, rfl⟩ (fun _ => PR.neq false rfl rfl (nq (by omega))) ?_
          refine Dh.JB.pv rfl trivial (fun _ => PR.pickF rfl rfl) ?_
          refine Dh.JB.pv rfl trivial (fun _ => PR.move rfl) ?_
          refine Dh.JB.rd [.blk _ _ _] rfl ⟨_, rfl, rfl⟩ (by repeat (first | exact Take.nil | apply Take.cons (by repeat (first | exact Del.here | apply Del.there)))) (fun _ => PR.loadW rfl tsh30 Has.here (by rfl)) ?_
          refine Dh.JB.pv rfl ⟨_, rfl, rfl⟩ (fun _ => PR.fieldAddr rfl tfl34_2) ?_
          refine Dh.JB.rd [.blk _ _ _] rfl ⟨_, rfl, rfl⟩ (by repeat (first | exact Take.nil | apply Take.cons (by repeat (first | exact Del.here | apply Del.there)))) (fun _ => PR.load1 rfl tsh3 Has.here (by rfl)) ?_
          refine Dh.JB.nil ?_
          refine Dh.JL.nil ?_
          refine Dh.JE.mk rfl (fun _ h => by cases h) (fun C12_24 => ?_)
          refine Jl.on rfl rfl ?_
          refine Jl.call (zones_ct b ((M, cM), (I, cI), (K, cK)) (by omega) (by omega)) en12 (by rfl) (by repeat (first | exact Take.nil | apply Take.cons (by repeat (first | exact Del.here | apply Del.there)))) (by repeat (first | exact trivial | refine And.intro (by repeat (first | exact Mem.here | apply Mem.there)) ?_)) ?_
          rintro ⟨A84, c84⟩
          refine Jl.nil ?_
          refine Dh.Jq.segV (by repeat (first | exact Dh.FExt.refl | apply Dh.FExt.cons | apply Dh.FExt.app)) ?_ (by repeat (first | exact Dh.KeepL.nil | apply Dh.KeepL.anc (by rfl) | apply Dh.KeepL.keep (by repeat (first | exact Take.nil | apply Take.cons (by repeat (first | exact Del.here | apply Del.there))))))
          refine Dh.JH.nil ?_
          refine Dh.JB.pv rfl ⟨_, rfl, rfl⟩ (fun _ => PR.len rfl tsl22) ?_
          refine Dh.JB.pv rfl ⟨_, rfl, rfl⟩ (fun _ => PR.neq false rfl rfl (nq (by omega))) ?_
          refine Dh.JB.pv rfl trivial (fun _ => PR.pickF rfl rfl) ?_
          refine Dh.JB.pv rfl trivial (fun _ => PR.move rfl) ?_
          refine Dh.JB.pv rfl ⟨_, rfl, rfl⟩ (fun _ => PR.fieldAddr rfl tfl34_5) ?_
          refine Dh.JB.rd [.blk _ _ _] rfl ⟨_, rfl, rfl⟩ (by repeat (first | exact Take.nil | apply Take.cons (by repeat (first | exact Del.here | apply Del.there)))) (fun _ => PR.load1 rfl tsh3 Has.here (by rfl)) ?_
          refine Dh.JB.pv rfl ⟨_, rfl, rfl⟩ (fun _ => PR.fieldAddr rfl tfl34_2) ?_
          refine Dh.JB.rd [.blk _ _ _] rfl ⟨_, rfl, rfl⟩ (by repeat (first | exact Take.nil | apply Take.cons (by repeat (first | exact Del.here | apply Del.there)))) (fun _ => PR.load1 rfl tsh3 Has.here (by rfl)) ?_
          refine Dh.JB.pv rfl ⟨_, rfl, rfl⟩ (fun _ => PR.gtr false rfl rfl (by simp; omega)) ?_
          refine Dh.JB.pv rfl trivial (fun _ => PR.pickF rfl rfl) ?_
          refine Dh.JB.pv rfl trivial (fun _ => PR.move rfl) ?_
          refine Dh.JB.pv rfl ⟨_, rfl, rfl⟩ (fun _ => PR.fieldAddr rfl tfl34_1) ?_
          refine Dh.JB.rd [.blk _ _ _] rfl ⟨_, rfl, rfl⟩ (by repeat (first | exact Take.nil | apply Take.cons (by repeat (first | exact Del.here | apply Del.there)))) (fun _ => PR.load1 rfl tsh3 Has.here (by rfl)) ?_
          refine Dh.JB.pv rfl ⟨_, rfl, rfl⟩ (fun _ => PR.fieldAddr rfl tfl34_4) ?_
          refine Dh.JB.rd [.blk _ _ _] rfl ⟨_, rfl, rfl⟩ (by repeat (first | exact Take.nil | apply Take.cons (by repeat (first | exact Del.here | apply Del.there)))) (fun _ => PR.load1 rfl tsh3 Has.here (by rfl)) ?_
          refine Dh.JB.pv rfl ⟨_, rfl, rfl⟩ (fun _ => PR.move rfl) ?_
          refine Dh.JB.pv rfl ⟨_, rfl, rfl⟩ (fun _ => PR.sub _ rfl rfl (w64 (by omega) (by omega))) ?_
          refine Dh.JB.pv rfl ⟨_, rfl, rfl⟩ (fun _ => PR.gtr false rfl rfl (by simp; omega)) ?_
          refine Dh.JB.pv rfl trivial (fun _ => PR.pickF rfl rfl) ?_
          refine Dh.JB.pv rfl trivial (fun _ => PR.move rfl) ?_
          refine Dh.JB.pv rfl ⟨_, rfl, rfl⟩ (fun _ => PR.move rfl) ?_
          refine Dh.JB.pv rfl ⟨_, rfl, rfl⟩ (fun _ => PR.move rfl) ?_
          refine Dh.JB.bsplit (fun g108 => ?_) (fun g108 => ?_)
          · try replace g108 := of_decide_eq_true g108
            refine Dh.JB.pv rfl ⟨_, rfl, rfl⟩ (fun _ => PR.move rfl) ?_
            refine Dh.JB.pv rfl ⟨_, rfl, rfl⟩ (fun _ => PR.fieldAddr rfl tfl30_3) ?_
            refine Dh.JB.pv rfl ⟨_, rfl, rfl⟩ (fun _ => PR.fieldAddr rfl tfl24_2) ?_
            refine Dh.JB.rd [.blk _ _ _] rfl ⟨_, rfl, rfl⟩ (by repeat (first | exact Take.nil | apply Take.cons (by repeat (first | exact Del.here | apply Del.there)))) (fun _ => PR.load1 rfl tsh3 Has.here (by rfl)) ?_
            refine Dh.JB.pv rfl ⟨_, rfl, rfl⟩ (fun _ => PR.neq false rfl rfl (nq (if_pos g108))) ?_
            refine Dh.JB.pv rfl ⟨_, rfl, rfl⟩ (fun _ => PR.pickT rfl rfl) ?_
            refine Dh.JB.pv rfl trivial (fun _ => PR.pickF rfl rfl) ?_
            refine Dh.JB.pv rfl trivial (fun _ => PR.move rfl) ?_
            refine Dh.JB.pv rfl ⟨_, rfl, rfl⟩ (fun _ => PR.move rfl) ?_
            refine Dh.JB.pv rfl ⟨_, rfl, rfl⟩ (fun _ => PR.not rfl) ?_
            refine Dh.JB.pv rfl ⟨_, rfl, rfl⟩ (fun _ => PR.move rfl) ?_
            refine Dh.JB.bsplit (fun g119 => ?_) (fun g119 => ?_)
            · try replace g119 := of_decide_eq_true g119
              refine Dh.JB.pv rfl ⟨_, rfl, rfl⟩ (fun _ => PR.move rfl) ?_
              refine Dh.JB.pv rfl ⟨_, rfl, rfl⟩ (fun _ => PR.neq false rfl rfl (nq (if_neg (by simpa using g119)))) ?_
              refine Dh.JB.pv rfl ⟨_, rfl, rfl⟩ (fun _ => PR.pickT rfl rfl) ?_
              refine Dh.JB.pv rfl trivial (fun _ => PR.pickF rfl rfl) ?_
              refine Dh.JB.nil ?_
              refine Dh.JL.nil ?_
              refine Jq.thenN ?_
              refine Jc.condF rfl ?_
              refine Jc.skip ?_
              refine Jq.thenN ?_
              refine Jc.seq ?_
              refine Jc.drawn [0, 1, 0, 4, 12, 31, 63, 127, 255, 127, 639, 2047, 4095, 8191, 16383, 32767, 16383, 81919, 16383, 278527, 999423, 2097151, 4194303, 8388607, 16777215, 33554431, 67108863] ([(25, false), (26, false)], []) [⟨[(0, false), (1, false), (2, false), (3, false), (4, false), (5, false), (6, false), (7, false), (8, false), (9, false), (10, false), (11, false), (12, false), (13, false), (14, false), (16, false), (17, false), (18, false), (19, false), (20, false)], [], 15⟩, ⟨[(21, false), (22, false), (23, false)], [], 24⟩] tmx (by kernel_rfl) ?_
              refine Dh.JH.cons ?_
              refine Dh.JB.pv rfl trivial (fun _ => PR.fieldAddr rfl tfl34_7) ?_
              refine Dh.JB.rd [.blk _ _ _] rfl trivial (by repeat (first | exact Take.nil | apply Take.cons (by repeat (first | exact Del.here | apply Del.there)))) (fun _ => PR.load1 rfl tsh3 Has.here (by rfl)) ?_
              refine Dh.JB.pv rfl trivial (fun _ => PR.fieldAddr rfl tfl30_3) ?_
              refine Dh.JB.pv rfl trivial (fun _ => PR.fieldAddr rfl tfl24_0) ?_
              refine Dh.JB.rd [.blk _ _ _] rfl trivial (by repeat (first | exact Take.nil | apply Take.cons (by repeat (first | exact Del.here | apply Del.there)))) (fun _ => PR.load1 rfl tsh3 Has.here (by rfl)) ?_
              refine Dh.JB.pv rfl trivial (fun _ => PR.leq true rfl rfl (by simpa using s6)) ?_
              refine Dh.JB.pv rfl trivial (fun _ => PR.move rfl) ?_
              refine Dh.JB.pv rfl ⟨_, rfl, rfl⟩ (fun _ => PR.fieldAddr rfl tfl34_8) ?_
              refine Dh.JB.rd [.blk _ _ _] rfl ⟨_, rfl, rfl⟩ (by repeat (first | exact Take.nil | apply Take.cons (by repeat (first | exact Del.here | apply Del.there)))) (fun _ => PR.load1 rfl tsh3 Has.here (by rfl)) ?_
              refine Dh.JB.pv rfl ⟨_, rfl, rfl⟩ (fun _ => PR.fieldAddr rfl tfl34_6) ?_
              refine Dh.JB.rd [.blk _ _ _] rfl ⟨_, rfl, rfl⟩ (by repeat (first | exact Take.nil | apply Take.cons (by repeat (first | exact Del.here | apply Del.there)))) (fun _ => PR.load1 rfl tsh3 Has.here (by rfl)) ?_
              refine Dh.JB.pv rfl ⟨_, rfl, rfl⟩ (fun _ => PR.geq true rfl rfl (by simpa using s7)) ?_
              refine Dh.JB.pv rfl trivial (fun _ => PR.pickT rfl rfl) ?_
              refine Dh.JB.pv rfl trivial (fun _ => PR.move rfl) ?_
              refine Dh.JB.rd [.blk _ _ _] rfl ⟨_, rfl, rfl⟩ (by repeat (first | exact Take.nil | apply Take.cons (by repeat (first | exact Del.here | apply Del.there)))) (fun _ => PR.loadW rfl tsh30 Has.here (by rfl)) ?_
              refine Dh.JB.pv rfl ⟨_, rfl, rfl⟩ (fun _ => PR.fieldAddr rfl tfl34_4) ?_
              refine Dh.JB.rd [.blk _ _ _] rfl ⟨_, rfl, rfl⟩ (by repeat (first | exact Take.nil | apply Take.cons (by repeat (first | exact Del.here | apply Del.there)))) (fun _ => PR.load1 rfl tsh3 Has.here (by rfl)) ?_
              refine Dh.JB.pv rfl ⟨_, rfl, rfl⟩ (fun _ => PR.fieldAddr rfl tfl34_8) ?_
              refine Dh.JB.rd [.blk _ _ _] rfl ⟨_, rfl, rfl⟩ (by repeat (first | exact Take.nil | apply Take.cons (by repeat (first | exact Del.here | apply Del.there)))) (fun _ => PR.load1 rfl tsh3 Has.here (by rfl)) ?_
              refine Dh.JB.pv rfl ⟨_, rfl, rfl⟩ (fun _ => PR.geq _ rfl rfl rfl) ?_
              refine Dh.JB.nil ?_
              refine Dh.JL.nil ?_
              refine Dh.JE.mk rfl (fun _ h => by cases h) (fun C14_15 => ?_)
              refine Jl.on rfl rfl ?_
              refine Jl.call (full_ct b ((M, cM), (I, cI), (K, cK)) (by omega) (by omega) (by omega)) en13 (by rfl) (by repeat (first | exact Take.nil | apply Take.cons (by repeat (first | exact Del.here | apply Del.there)))) (by repeat (first | exact trivial | refine And.intro (by repeat (first | exact Mem.here | apply Mem.there)) ?_)) ?_
              rintro ⟨⟩
              refine Jl.nil ?_
              refine Dh.Jq.segV (by repeat (first | exact Dh.FExt.refl | apply Dh.FExt.cons | apply Dh.FExt.app)) ?_ (by repeat (first | exact Dh.KeepL.nil | apply Dh.KeepL.anc (by rfl) | apply Dh.KeepL.keep (by repeat (first | exact Take.nil | apply Take.cons (by repeat (first | exact Del.here | apply Del.there))))))
              refine Dh.JH.cons ?_
              refine Dh.JB.pv rfl ⟨_, rfl, rfl⟩ (fun _ => PR.beql true Tryd.underlying4 rfl rfl (by simp)) ?_
              refine Dh.JB.pv rfl trivial (fun _ => PR.pickT rfl rfl) ?_
              refine Dh.JB.pv rfl trivial (fun _ => PR.move rfl) ?_
              refine Dh.JB.nil ?_
              refine Dh.JL.nil ?_
              refine Dh.JE.mk rfl (fun _ h => by cases h) (fun C14_24 => ?_)
              refine Jl.on rfl rfl ?_
              refine Jl.call ctwakes_ct en9 (by rfl) (by repeat (first | exact Take.nil | apply Take.cons (by repeat (first | exact Del.here | apply Del.there)))) (by repeat (first | exact trivial | refine And.intro (by repeat (first | exact Mem.here | apply Mem.there)) ?_)) ?_
              rintro ⟨⟩
              refine Jl.as (.bool true) (congrArg Value.bool rfl) ?_
              refine Jl.nil ?_
              refine Dh.Jq.segV (by repeat (first | exact Dh.FExt.refl | apply Dh.FExt.cons | apply Dh.FExt.app)) ?_ (by repeat (first | exact Dh.KeepL.nil | apply Dh.KeepL.anc (by rfl) | apply Dh.KeepL.keep (by repeat (first | exact Take.nil | apply Take.cons (by repeat (first | exact Del.here | apply Del.there))))))
              refine Dh.JH.nil ?_
              refine Dh.JB.pv rfl trivial (fun _ => PR.pickT rfl rfl) ?_
              refine Dh.JB.pv rfl trivial (fun _ => PR.assign rfl) ?_
              refine Dh.JB.nil ?_
              refine Dh.JL.nil ?_
              refine Jq.thenN ?_
              refine Jc.ret ?_
              exact Jq.fin () (.inl rfl) rfl (RetVs.tmp rfl RetVs.nil) rfl (by repeat (first | exact Take.nil | apply Take.cons (by repeat (first | exact Del.here | apply Del.there)))) (by repeat (first | exact trivial | refine And.intro (by repeat (first | exact Mem.here | apply Mem.there)) ?_))
            · try replace g119 := of_decide_eq_false g119
              refine Dh.JB.off rfl ⟨_, rfl, .inr rfl⟩ ?_
              refine Dh.JB.off rfl ⟨_, rfl, .inr rfl⟩ ?_
              refine Dh.JB.pv rfl ⟨_, rfl, rfl⟩ (fun _ => PR.pickF rfl rfl) ?_
              refine Dh.JB.pv rfl trivial (fun _ => PR.pickF rfl rfl) ?_
              refine Dh.JB.nil ?_
              refine Dh.JL.nil ?_
              refine Jq.thenN ?_
              refine Jc.condF rfl ?_
              refine Jc.skip ?_
              refine Jq.thenN ?_
              refine Jc.seq ?_
              refine Jc.drawn [0, 1, 0, 4, 12, 31, 63, 127, 255, 127, 639, 2047, 4095, 8191, 16383, 32767, 16383, 81919, 16383, 278527, 999423, 2097151, 4194303, 8388607, 16777215, 33554431, 67108863] ([(25, false), (26, false)], []) [⟨[(0, false), (1, false), (2, false), (3, false), (4, false), (5, false), (6, false), (7, false), (8, false), (9, false), (10, false), (11, false), (12, false), (13, false), (14, false), (16, false), (17, false), (18, false), (19, false), (20, false)], [], 15⟩, ⟨[(21, false), (22, false), (23, false)], [], 24⟩] tmx (by kernel_rfl) ?_
              refine Dh.JH.cons ?_
              refine Dh.JB.pv rfl trivial (fun _ => PR.fieldAddr rfl tfl34_7) ?_
              refine Dh.JB.rd [.blk _ _ _] rfl trivial (by repeat (first | exact Take.nil | apply Take.cons (by repeat (first | exact Del.here | apply Del.there)))) (fun _ => PR.load1 rfl tsh3 Has.here (by rfl)) ?_
              refine Dh.JB.pv rfl trivial (fun _ => PR.fieldAddr rfl tfl30_3) ?_
              refine Dh.JB.pv rfl trivial (fun _ => PR.fieldAddr rfl tfl24_0) ?_
              refine Dh.JB.rd [.blk _ _ _] rfl trivial (by repeat (first | exact Take.nil | apply Take.cons (by repeat (first | exact Del.here | apply Del.there)))) (fun _ => PR.load1 rfl tsh3 Has.here (by rfl)) ?_
              refine Dh.JB.pv rfl trivial (fun _ => PR.leq true rfl rfl (by simpa using s6)) ?_
              refine Dh.JB.pv rfl trivial (fun _ => PR.move rfl) ?_
              refine Dh.JB.pv rfl ⟨_, rfl, rfl⟩ (fun _ => PR.fieldAddr rfl tfl34_8) ?_
              refine Dh.JB.rd [.blk _ _ _] rfl ⟨_, rfl, rfl⟩ (by repeat (first | exact Take.nil | apply Take.cons (by repeat (first | exact Del.here | apply Del.there)))) (fun _ => PR.load1 rfl tsh3 Has.here (by rfl)) ?_
              refine Dh.JB.pv rfl ⟨_, rfl, rfl⟩ (fun _ => PR.fieldAddr rfl tfl34_6) ?_
              refine Dh.JB.rd [.blk _ _ _] rfl ⟨_, rfl, rfl⟩ (by repeat (first | exact Take.nil | apply Take.cons (by repeat (first | exact Del.here | apply Del.there)))) (fun _ => PR.load1 rfl tsh3 Has.here (by rfl)) ?_
              refine Dh.JB.pv rfl ⟨_, rfl, rfl⟩ (fun _ => PR.geq true rfl rfl (by simpa using s7)) ?_
              refine Dh.JB.pv rfl trivial (fun _ => PR.pickT rfl rfl) ?_
              refine Dh.JB.pv rfl trivial (fun _ => PR.move rfl) ?_
              refine Dh.JB.rd [.blk _ _ _] rfl ⟨_, rfl, rfl⟩ (by repeat (first | exact Take.nil | apply Take.cons (by repeat (first | exact Del.here | apply Del.there)))) (fun _ => PR.loadW rfl tsh30 Has.here (by rfl)) ?_
              refine Dh.JB.pv rfl ⟨_, rfl, rfl⟩ (fun _ => PR.fieldAddr rfl tfl34_4) ?_
              refine Dh.JB.rd [.blk _ _ _] rfl ⟨_, rfl, rfl⟩ (by repeat (first | exact Take.nil | apply Take.cons (by repeat (first | exact Del.here | apply Del.there)))) (fun _ => PR.load1 rfl tsh3 Has.here (by rfl)) ?_
              refine Dh.JB.pv rfl ⟨_, rfl, rfl⟩ (fun _ => PR.fieldAddr rfl tfl34_8) ?_
              refine Dh.JB.rd [.blk _ _ _] rfl ⟨_, rfl, rfl⟩ (by repeat (first | exact Take.nil | apply Take.cons (by repeat (first | exact Del.here | apply Del.there)))) (fun _ => PR.load1 rfl tsh3 Has.here (by rfl)) ?_
              refine Dh.JB.pv rfl ⟨_, rfl, rfl⟩ (fun _ => PR.geq _ rfl rfl rfl) ?_
              refine Dh.JB.nil ?_
              refine Dh.JL.nil ?_
              refine Dh.JE.mk rfl (fun _ h => by cases h) (fun C14_15 => ?_)
              refine Jl.on rfl rfl ?_
              refine Jl.call (full_ct b ((M, cM), (I, cI), (K, cK)) (by omega) (by omega) (by omega)) en13 (by rfl) (by repeat (first | exact Take.nil | apply Take.cons (by repeat (first | exact Del.here | apply Del.there)))) (by repeat (first | exact trivial | refine And.intro (by repeat (first | exact Mem.here | apply Mem.there)) ?_)) ?_
              rintro ⟨⟩
              refine Jl.nil ?_
              refine Dh.Jq.segV (by repeat (first | exact Dh.FExt.refl | apply Dh.FExt.cons | apply Dh.FExt.app)) ?_ (by repeat (first | exact Dh.KeepL.nil | apply Dh.KeepL.anc (by rfl) | apply Dh.KeepL.keep (by repeat (first | exact Take.nil | apply Take.cons (by repeat (first | exact Del.here | apply Del.there))))))
              refine Dh.JH.cons ?_
              refine Dh.JB.pv rfl ⟨_, rfl, rfl⟩ (fun _ => PR.beql true Tryd.underlying4 rfl rfl (by simp)) ?_
              refine Dh.JB.pv rfl trivial (fun _ => PR.pickT rfl rfl) ?_
              refine Dh.JB.pv rfl trivial (fun _ => PR.move rfl) ?_
              refine Dh.JB.nil ?_
              refine Dh.JL.nil ?_
              refine Dh.JE.mk rfl (fun _ h => by cases h) (fun C14_24 => ?_)
              refine Jl.on rfl rfl ?_
              refine Jl.call ctwakes_ct en9 (by rfl) (by repeat (first | exact Take.nil | apply Take.cons (by repeat (first | exact Del.here | apply Del.there)))) (by repeat (first | exact trivial | refine And.intro (by repeat (first | exact Mem.here | apply Mem.there)) ?_)) ?_
              rintro ⟨⟩
              refine Jl.as (.bool true) (congrArg Value.bool rfl) ?_
              refine Jl.nil ?_
              refine Dh.Jq.segV (by repeat (first | exact Dh.FExt.refl | apply Dh.FExt.cons | apply Dh.FExt.app)) ?_ (by repeat (first | exact Dh.KeepL.nil | apply Dh.KeepL.anc (by rfl) | apply Dh.KeepL.keep (by repeat (first | exact Take.nil | apply Take.cons (by repeat (first | exact Del.here | apply Del.there))))))
              refine Dh.JH.nil ?_
              refine Dh.JB.pv rfl trivial (fun _ => PR.pickT rfl rfl) ?_
              refine Dh.JB.pv rfl trivial (fun _ => PR.assign rfl) ?_
              refine Dh.JB.nil ?_
              refine Dh.JL.nil ?_
              refine Jq.thenN ?_
              refine Jc.ret ?_
              exact Jq.fin () (.inl rfl) rfl (RetVs.tmp rfl RetVs.nil) rfl (by repeat (first | exact Take.nil | apply Take.cons (by repeat (first | exact Del.here | apply Del.there)))) (by repeat (first | exact trivial | refine And.intro (by repeat (first | exact Mem.here | apply Mem.there)) ?_))
          · try replace g108 := of_decide_eq_false g108
            refine Dh.JB.off rfl ⟨_, rfl, .inr rfl⟩ ?_
            refine Dh.JB.off rfl ⟨_, rfl, .inr rfl⟩ ?_
            refine Dh.JB.off rfl ⟨_, rfl, .inr rfl⟩ ?_
            refine Dh.JB.off rfl ⟨_, rfl, .inr rfl⟩ ?_
            refine Dh.JB.off rfl ⟨_, rfl, .inr rfl⟩ ?_
            refine Dh.JB.pv rfl ⟨_, rfl, rfl⟩ (fun _ => PR.pickF rfl rfl) ?_
            refine Dh.JB.pv rfl trivial (fun _ => PR.pickF rfl rfl) ?_
            refine Dh.JB.pv rfl trivial (fun _ => PR.move rfl) ?_
            refine Dh.JB.pv rfl ⟨_, rfl, rfl⟩ (fun _ => PR.move rfl) ?_
            refine Dh.JB.pv rfl ⟨_, rfl, rfl⟩ (fun _ => PR.not rfl) ?_
            refine Dh.JB.pv rfl ⟨_, rfl, rfl⟩ (fun _ => PR.move rfl) ?_
            refine Dh.JB.bsplit (fun g119 => ?_) (fun g119 => ?_)
            · try replace g119 := of_decide_eq_true g119
              refine Dh.JB.pv rfl ⟨_, rfl, rfl⟩ (fun _ => PR.move rfl) ?_
              refine Dh.JB.pv rfl ⟨_, rfl, rfl⟩ (fun _ => PR.neq false rfl rfl (nq (if_neg (by simpa using g119)))) ?_
              refine Dh.JB.pv rfl ⟨_, rfl, rfl⟩ (fun _ => PR.pickT rfl rfl) ?_
              refine Dh.JB.pv rfl trivial (fun _ => PR.pickF rfl rfl) ?_
              refine Dh.JB.nil ?_
              refine Dh.JL.nil ?_
              refine Jq.thenN ?_
              refine Jc.condF rfl ?_
              refine Jc.skip ?_
              refine Jq.thenN ?_
              refine Jc.seq ?_
              refine Jc.drawn [0, 1, 0, 4, 12, 31, 63, 127, 255, 127, 639, 2047, 4095, 8191, 16383, 32767, 16383, 81919, 16383, 278527, 999423, 2097151, 4194303, 8388607, 16777215, 33554431, 67108863] ([(25, false), (26, false)], []) [⟨[(0, false), (1, false), (2, false), (3, false), (4, false), (5, false), (6, false), (7, false), (8, false), (9, false), (10, false), (11, false), (12, false), (13, false), (14, false), (16, false), (17, false), (18, false), (19, false), (20, false)], [], 15⟩, ⟨[(21, false), (22, false), (23, false)], [], 24⟩] tmx (by kernel_rfl) ?_
              refine Dh.JH.cons ?_
              refine Dh.JB.pv rfl trivial (fun _ => PR.fieldAddr rfl tfl34_7) ?_
              refine Dh.JB.rd [.blk _ _ _] rfl trivial (by repeat (first | exact Take.nil | apply Take.cons (by repeat (first | exact Del.here | apply Del.there)))) (fun _ => PR.load1 rfl tsh3 Has.here (by rfl)) ?_
              refine Dh.JB.pv rfl trivial (fun _ => PR.fieldAddr rfl tfl30_3) ?_
              refine Dh.JB.pv rfl trivial (fun _ => PR.fieldAddr rfl tfl24_0) ?_
              refine Dh.JB.rd [.blk _ _ _] rfl trivial (by repeat (first | exact Take.nil | apply Take.cons (by repeat (first | exact Del.here | apply Del.there)))) (fun _ => PR.load1 rfl tsh3 Has.here (by rfl)) ?_
              refine Dh.JB.pv rfl trivial (fun _ => PR.leq true rfl rfl (by simpa using s6)) ?_
              refine Dh.JB.pv rfl trivial (fun _ => PR.move rfl) ?_
              refine Dh.JB.pv rfl ⟨_, rfl, rfl⟩ (fun _ => PR.fieldAddr rfl tfl34_8) ?_
              refine Dh.JB.rd [.blk _ _ _] rfl ⟨_, rfl, rfl⟩ (by repeat (first | exact Take.nil | apply Take.cons (by repeat (first | exact Del.here | apply Del.there)))) (fun _ => PR.load1 rfl tsh3 Has.here (by rfl)) ?_
              refine Dh.JB.pv rfl ⟨_, rfl, rfl⟩ (fun _ => PR.fieldAddr rfl tfl34_6) ?_
              refine Dh.JB.rd [.blk _ _ _] rfl ⟨_, rfl, rfl⟩ (by repeat (first | exact Take.nil | apply Take.cons (by repeat (first | exact Del.here | apply Del.there)))) (fun _ => PR.load1 rfl tsh3 Has.here (by rfl)) ?_
              refine Dh.JB.pv rfl ⟨_, rfl, rfl⟩ (fun _ => PR.geq true rfl rfl (by simpa using s7)) ?_
              refine Dh.JB.pv rfl trivial (fun _ => PR.pickT rfl rfl) ?_
              refine Dh.JB.pv rfl trivial (fun _ => PR.move rfl) ?_
              refine Dh.JB.rd [.blk _ _ _] rfl ⟨_, rfl, rfl⟩ (by repeat (first | exact Take.nil | apply Take.cons (by repeat (first | exact Del.here | apply Del.there)))) (fun _ => PR.loadW rfl tsh30 Has.here (by rfl)) ?_
              refine Dh.JB.pv rfl ⟨_, rfl, rfl⟩ (fun _ => PR.fieldAddr rfl tfl34_4) ?_
              refine Dh.JB.rd [.blk _ _ _] rfl ⟨_, rfl, rfl⟩ (by repeat (first | exact Take.nil | apply Take.cons (by repeat (first | exact Del.here | apply Del.there)))) (fun _ => PR.load1 rfl tsh3 Has.here (by rfl)) ?_
              refine Dh.JB.pv rfl ⟨_, rfl, rfl⟩ (fun _ => PR.fieldAddr rfl tfl34_8) ?_
              refine Dh.JB.rd [.blk _ _ _] rfl ⟨_, rfl, rfl⟩ (by repeat (first | exact Take.nil | apply Take.cons (by repeat (first | exact Del.here | apply Del.there)))) (fun _ => PR.load1 rfl tsh3 Has.here (by rfl)) ?_
              refine Dh.JB.pv rfl ⟨_, rfl, rfl⟩ (fun _ => PR.geq _ rfl rfl rfl) ?_
              refine Dh.JB.nil ?_
              refine Dh.JL.nil ?_
              refine Dh.JE.mk rfl (fun _ h => by cases h) (fun C14_15 => ?_)
              refine Jl.on rfl rfl ?_
              refine Jl.call (full_ct b ((M, cM), (I, cI), (K, cK)) (by omega) (by omega) (by omega)) en13 (by rfl) (by repeat (first | exact Take.nil | apply Take.cons (by repeat (first | exact Del.here | apply Del.there)))) (by repeat (first | exact trivial | refine And.intro (by repeat (first | exact Mem.here | apply Mem.there)) ?_)) ?_
              rintro ⟨⟩
              refine Jl.nil ?_
              refine Dh.Jq.segV (by repeat (first | exact Dh.FExt.refl | apply Dh.FExt.cons | apply Dh.FExt.app)) ?_ (by repeat (first | exact Dh.KeepL.nil | apply Dh.KeepL.anc (by rfl) | apply Dh.KeepL.keep (by repeat (first | exact Take.nil | apply Take.cons (by repeat (first | exact Del.here | apply Del.there))))))
              refine Dh.JH.cons ?_
              refine Dh.JB.pv rfl ⟨_, rfl, rfl⟩ (fun _ => PR.beql true Tryd.underlying4 rfl rfl (by simp)) ?_
              refine Dh.JB.pv rfl trivial (fun _ => PR.pickT rfl rfl) ?_
              refine Dh.JB.pv rfl trivial (fun _ => PR.move rfl) ?_
              refine Dh.JB.nil ?_
              refine Dh.JL.nil ?_
              refine Dh.JE.mk rfl (fun _ h => by cases h) (fun C14_24 => ?_)
              refine Jl.on rfl rfl ?_
              refine Jl.call ctwakes_ct en9 (by rfl) (by repeat (first | exact Take.nil | apply Take.cons (by repeat (first | exact Del.here | apply Del.there)))) (by repeat (first | exact trivial | refine And.intro (by repeat (first | exact Mem.here | apply Mem.there)) ?_)) ?_
              rintro ⟨⟩
              refine Jl.as (.bool true) (congrArg Value.bool rfl) ?_
              refine Jl.nil ?_
              refine Dh.Jq.segV (by repeat (first | exact Dh.FExt.refl | apply Dh.FExt.cons | apply Dh.FExt.app)) ?_ (by repeat (first | exact Dh.KeepL.nil | apply Dh.KeepL.anc (by rfl) | apply Dh.KeepL.keep (by repeat (first | exact Take.nil | apply Take.cons (by repeat (first | exact Del.here | apply Del.there))))))
              refine Dh.JH.nil ?_
              refine Dh.JB.pv rfl trivial (fun _ => PR.pickT rfl rfl) ?_
              refine Dh.JB.pv rfl trivial (fun _ => PR.assign rfl) ?_
              refine Dh.JB.nil ?_
              refine Dh.JL.nil ?_
              refine Jq.thenN ?_
              refine Jc.ret ?_
              exact Jq.fin () (.inl rfl) rfl (RetVs.tmp rfl RetVs.nil) rfl (by repeat (first | exact Take.nil | apply Take.cons (by repeat (first | exact Del.here | apply Del.there)))) (by repeat (first | exact trivial | refine And.intro (by repeat (first | exact Mem.here | apply Mem.there)) ?_))
            · try replace g119 := of_decide_eq_false g119
              refine Dh.JB.off rfl ⟨_, rfl, .inr rfl⟩ ?_
              refine Dh.JB.off rfl ⟨_, rfl, .inr rfl⟩ ?_
              refine Dh.JB.pv rfl ⟨_, rfl, rfl⟩ (fun _ => PR.pickF rfl rfl) ?_
              refine Dh.JB.pv rfl trivial (fun _ => PR.pickF rfl rfl) ?_
              refine Dh.JB.nil ?_
              refine Dh.JL.nil ?_
              refine Jq.thenN ?_
              refine Jc.condF rfl ?_
              refine Jc.skip ?_
              refine Jq.thenN ?_
              refine Jc.seq ?_
              refine Jc.drawn [0, 1, 0, 4, 12, 31, 63, 127, 255, 127, 639, 2047, 4095, 8191, 16383, 32767, 16383, 81919, 16383, 278527, 999423, 2097151, 4194303, 8388607, 16777215, 33554431, 67108863] ([(25, false), (26, false)], []) [⟨[(0, false), (1, false), (2, false), (3, false), (4, false), (5, false), (6, false), (7, false), (8, false), (9, false), (10, false), (11, false), (12, false), (13, false), (14, false), (16, false), (17, false), (18, false), (19, false), (20, false)], [], 15⟩, ⟨[(21, false), (22, false), (23, false)], [], 24⟩] tmx (by kernel_rfl) ?_
              refine Dh.JH.cons ?_
              refine Dh.JB.pv rfl trivial (fun _ => PR.fieldAddr rfl tfl34_7) ?_
              refine Dh.JB.rd [.blk _ _ _] rfl trivial (by repeat (first | exact Take.nil | apply Take.cons (by repeat (first | exact Del.here | apply Del.there)))) (fun _ => PR.load1 rfl tsh3 Has.here (by rfl)) ?_
              refine Dh.JB.pv rfl trivial (fun _ => PR.fieldAddr rfl tfl30_3) ?_
              refine Dh.JB.pv rfl trivial (fun _ => PR.fieldAddr rfl tfl24_0) ?_
              refine Dh.JB.rd [.blk _ _ _] rfl trivial (by repeat (first | exact Take.nil | apply Take.cons (by repeat (first | exact Del.here | apply Del.there)))) (fun _ => PR.load1 rfl tsh3 Has.here (by rfl)) ?_
              refine Dh.JB.pv rfl trivial (fun _ => PR.leq true rfl rfl (by simpa using s6)) ?_
              refine Dh.JB.pv rfl trivial (fun _ => PR.move rfl) ?_
              refine Dh.JB.pv rfl ⟨_, rfl, rfl⟩ (fun _ => PR.fieldAddr rfl tfl34_8) ?_
              refine Dh.JB.rd [.blk _ _ _] rfl ⟨_, rfl, rfl⟩ (by repeat (first | exact Take.nil | apply Take.cons (by repeat (first | exact Del.here | apply Del.there)))) (fun _ => PR.load1 rfl tsh3 Has.here (by rfl)) ?_
              refine Dh.JB.pv rfl ⟨_, rfl, rfl⟩ (fun _ => PR.fieldAddr rfl tfl34_6) ?_
              refine Dh.JB.rd [.blk _ _ _] rfl ⟨_, rfl, rfl⟩ (by repeat (first | exact Take.nil | apply Take.cons (by repeat (first | exact Del.here | apply Del.there)))) (fun _ => PR.load1 rfl tsh3 Has.here (by rfl)) ?_
              refine Dh.JB.pv rfl ⟨_, rfl, rfl⟩ (fun _ => PR.geq true rfl rfl (by simpa using s7)) ?_
              refine Dh.JB.pv rfl trivial (fun _ => PR.pickT rfl rfl) ?_
              refine Dh.JB.pv rfl trivial (fun _ => PR.move rfl) ?_
              refine Dh.JB.rd [.blk _ _ _] rfl ⟨_, rfl, rfl⟩ (by repeat (first | exact Take.nil | apply Take.cons (by repeat (first | exact Del.here | apply Del.there)))) (fun _ => PR.loadW rfl tsh30 Has.here (by rfl)) ?_
              refine Dh.JB.pv rfl ⟨_, rfl, rfl⟩ (fun _ => PR.fieldAddr rfl tfl34_4) ?_
              refine Dh.JB.rd [.blk _ _ _] rfl ⟨_, rfl, rfl⟩ (by repeat (first | exact Take.nil | apply Take.cons (by repeat (first | exact Del.here | apply Del.there)))) (fun _ => PR.load1 rfl tsh3 Has.here (by rfl)) ?_
              refine Dh.JB.pv rfl ⟨_, rfl, rfl⟩ (fun _ => PR.fieldAddr rfl tfl34_8) ?_
              refine Dh.JB.rd [.blk _ _ _] rfl ⟨_, rfl, rfl⟩ (by repeat (first | exact Take.nil | apply Take.cons (by repeat (first | exact Del.here | apply Del.there)))) (fun _ => PR.load1 rfl tsh3 Has.here (by rfl)) ?_
              refine Dh.JB.pv rfl ⟨_, rfl, rfl⟩ (fun _ => PR.geq _ rfl rfl rfl) ?_
              refine Dh.JB.nil ?_
              refine Dh.JL.nil ?_
              refine Dh.JE.mk rfl (fun _ h => by cases h) (fun C14_15 => ?_)
              refine Jl.on rfl rfl ?_
              refine Jl.call (full_ct b ((M, cM), (I, cI), (K, cK)) (by omega) (by omega) (by omega)) en13 (by rfl) (by repeat (first | exact Take.nil | apply Take.cons (by repeat (first | exact Del.here | apply Del.there)))) (by repeat (first | exact trivial | refine And.intro (by repeat (first | exact Mem.here | apply Mem.there)) ?_)) ?_
              rintro ⟨⟩
              refine Jl.nil ?_
              refine Dh.Jq.segV (by repeat (first | exact Dh.FExt.refl | apply Dh.FExt.cons | apply Dh.FExt.app)) ?_ (by repeat (first | exact Dh.KeepL.nil | apply Dh.KeepL.anc (by rfl) | apply Dh.KeepL.keep (by repeat (first | exact Take.nil | apply Take.cons (by repeat (first | exact Del.here | apply Del.there))))))
              refine Dh.JH.cons ?_
              refine Dh.JB.pv rfl ⟨_, rfl, rfl⟩ (fun _ => PR.beql true Tryd.underlying4 rfl rfl (by simp)) ?_
              refine Dh.JB.pv rfl trivial (fun _ => PR.pickT rfl rfl) ?_
              refine Dh.JB.pv rfl trivial (fun _ => PR.move rfl) ?_
              refine Dh.JB.nil ?_
              refine Dh.JL.nil ?_
              refine Dh.JE.mk rfl (fun _ h => by cases h) (fun C14_24 => ?_)
              refine Jl.on rfl rfl ?_
              refine Jl.call ctwakes_ct en9 (by rfl) (by repeat (first | exact Take.nil | apply Take.cons (by repeat (first | exact Del.here | apply Del.there)))) (by repeat (first | exact trivial | refine And.intro (by repeat (first | exact Mem.here | apply Mem.there)) ?_)) ?_
              rintro ⟨⟩
              refine Jl.as (.bool true) (congrArg Value.bool rfl) ?_
              refine Jl.nil ?_
              refine Dh.Jq.segV (by repeat (first | exact Dh.FExt.refl | apply Dh.FExt.cons | apply Dh.FExt.app)) ?_ (by repeat (first | exact Dh.KeepL.nil | apply Dh.KeepL.anc (by rfl) | apply Dh.KeepL.keep (by repeat (first | exact Take.nil | apply Take.cons (by repeat (first | exact Del.here | apply Del.there))))))
              refine Dh.JH.nil ?_
              refine Dh.JB.pv rfl trivial (fun _ => PR.pickT rfl rfl) ?_
              refine Dh.JB.pv rfl trivial (fun _ => PR.assign rfl) ?_
              refine Dh.JB.nil ?_
              refine Dh.JL.nil ?_
              refine Jq.thenN ?_
              refine Jc.ret ?_
              exact Jq.fin () (.inl rfl) rfl (RetVs.tmp rfl RetVs.nil) rfl (by repeat (first | exact Take.nil | apply Take.cons (by repeat (first | exact Del.here | apply Del.there)))) (by repeat (first | exact trivial | refine And.intro (by repeat (first | exact Mem.here | apply Mem.there)) ?_))
end Go.Proofs.YtiebgcahdnaekaaDoor
