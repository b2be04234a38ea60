/-
The law of orders AdminKept.
-/
import Derived.Test.YtcppphgpbaablaaDoorAdW
import Derived.Test.YtcppphgpbaablaaDoorMp
namespace Go.Proofs.YtcppphgpbaablaaDoor
set_option linter.unusedVariables false
open Go.RowKit
attribute [local irreducible] Res.blk Res.row Fact.rd Res.mapV
theorem i64in2 {a c : Int} (ha : -9223372036854775808 ≤ a ∧ a ≤ 9223372036854775807) (hc : -9223372036854775808 ≤ c ∧ c ≤ 9223372036854775807) : i64in [a, c] := by
  intro n hn
  simp only [List.mem_cons, List.not_mem_nil, or_false] at hn
  rcases hn with rfl | rfl
  · exact ha
  · exact hc
theorem ne_same {a b : Kp} (h : a = b) : false = true ↔ a.cs ≠ b.cs := iff_of_false (by decide) (fun h1 => h1 (congrArg Kp.cs h))
theorem adminKept_ct (b : Br) (z : BrA) (a now : Int) : Ct Tryd.prog 5 [b.v z, .int .i64 a, .int .i64 now] [] [.rd z.1.1 (i64s b.cf.ms), .rd z.2.1.1 (itsV b.its), .rd z.2.2.1 (kpsV b.kps), .lim, .anames] (fun _ : Unit => .bool true) (fun _ => []) (fun _ => []) := by
  obtain ⟨⟨M, cM⟩, ⟨I, cI⟩, ⟨K, cK⟩⟩ := z
  by_cases hgr : b.great = true
  · skip
    refine Ct.of _ Tryd.func5 Tryd.ntmps5 rfl rfl (fun X W => ?_)
    refine Jc.seq ?_
    refine Jc.region ?_
    refine Jl.box rfl (by rfl) ?_
    intro b3
    refine Jl.pv (PR.assign rfl) ?_
    refine Jl.nil ?_
    refine Jq.thenN ?_
    refine Jc.seq ?_
    refine Jc.seq ?_
    refine Jc.region ?_
    refine Jl.pv (PR.loadW rfl tsh30 (by repeat (first | exact Has.here | apply Has.there)) (by rfl)) ?_
    refine Jl.call (brgreat_ct b ((M, cM), (I, cI), (K, cK))) en6 (by rfl) (by repeat (first | exact Take.nil | apply Take.cons (by repeat (first | exact Del.here | apply Del.there)))) (by repeat (first | exact trivial | refine And.intro (by repeat (first | exact Mem.here | apply Mem.there)) ?_)) ?_
    rintro ⟨⟩
    refine Jl.as (.bool true) (congrArg Value.bool hgr) ?_
    refine Jl.pv (PR.move rfl) ?_
    refine Jl.offS rfl rfl rfl ?_
    refine Jl.offS rfl rfl rfl ?_
    refine Jl.offS rfl rfl rfl ?_
    refine Jl.pv (PR.pickT rfl rfl) ?_
    refine Jl.pv (PR.move rfl) ?_
    refine Jl.offS rfl rfl rfl ?_
    refine Jl.offS rfl rfl rfl ?_
    refine Jl.offS rfl rfl rfl ?_
    refine Jl.offS rfl rfl rfl ?_
    refine Jl.pv (PR.pickT rfl rfl) ?_
    refine Jl.nil ?_
    refine Jq.thenN ?_
    refine Jc.condT rfl ?_
    refine Jc.seq ?_
    refine Jc.region ?_
    refine Jl.call awakes_ct en8 (by rfl) (by repeat (first | exact Take.nil | apply Take.cons (by repeat (first | exact Del.here | apply Del.there)))) (by repeat (first | exact trivial | refine And.intro (by repeat (first | exact Mem.here | apply Mem.there)) ?_)) ?_
    rintro ⟨⟩
    refine Jl.pv (PR.assign rfl) ?_
    refine Jl.nil ?_
    refine Jq.thenN ?_
    refine Jc.ret ?_
    refine Jq.thenR ?_
    exact Jq.fin () (.inl rfl) rfl (RetVs.tmp rfl RetVs.nil) rfl (by repeat (first | exact Take.nil | apply Take.cons (by repeat (first | exact Del.here | apply Del.there)))) (by repeat (first | exact trivial | refine And.intro (by repeat (first | exact Mem.here | apply Mem.there)) ?_))
    -- hint not used: one
  obtain ⟨hn, hm, hms⟩ := great_no (by simpa using hgr)
  have hl8 := kpsV_len b.kps
  refine Ct.of _ Tryd.func5 Tryd.ntmps5 rfl rfl (fun X W => ?_)
  refine Jc.seq ?_
  refine Jc.region ?_
  refine Jl.box rfl (by rfl) ?_
  intro b3
  refine Jl.pv (PR.assign rfl) ?_
  refine Jl.nil ?_
  refine Jq.thenN ?_
  refine Jc.seq ?_
  refine Jc.seq ?_
  refine Jc.region ?_
  refine Jl.pv (PR.loadW rfl tsh30 (by repeat (first | exact Has.here | apply Has.there)) (by rfl)) ?_
  refine Jl.call (brgreat_ct b ((M, cM), (I, cI), (K, cK))) en6 (by rfl) (by repeat (first | exact Take.nil | apply Take.cons (by repeat (first | exact Del.here | apply Del.there)))) (by repeat (first | exact trivial | refine And.intro (by repeat (first | exact Mem.here | apply Mem.there)) ?_)) ?_
  rintro ⟨⟩
  refine Jl.as (.bool false) (congrArg Value.bool (by simpa using hgr)) ?_
  refine Jl.pv (PR.move rfl) ?_
  refine Jl.on rfl rfl ?_
  refine Jl.pv (PR.loadW rfl tsh30 (by repeat (first | exact Has.here | apply Has.there)) (by rfl)) ?_
  refine Jl.on rfl rfl ?_
  refine Jl.call (brright_ct b ((M, cM), (I, cI), (K, cK)) (by omega) (by omega) (by omega)) en7 (by rfl) (by repeat (first | exact Take.nil | apply Take.cons (by repeat (first | exact Del.here | apply Del.there)))) (by repeat (first | exact trivial | refine And.intro (by repeat (first | exact Mem.here | apply Mem.there)) ?_)) ?_
  rintro ⟨⟩
  refine Jl.on rfl rfl ?_
  refine Jl.pv (PR.not rfl) ?_
  refine Jl.pv (PR.pickF rfl rfl) ?_
  refine Jl.pv (PR.move rfl) ?_
  refine Jl.bsplit (fun g27 => ?_) (fun g27 => ?_)
  · try replace g27 := of_decide_eq_true g27
    refine Jl.offS rfl rfl rfl ?_
    refine Jl.offS rfl rfl rfl ?_
    refine Jl.offS rfl rfl rfl ?_
    refine Jl.offS rfl rfl rfl ?_
    refine Jl.pv (PR.pickT rfl rfl) ?_
    refine Jl.nil ?_
    refine Jq.thenN ?_
    refine Jc.condT rfl ?_
    refine Jc.seq ?_
    refine Jc.region ?_
    refine Jl.call awakes_ct en8 (by rfl) (by repeat (first | exact Take.nil | apply Take.cons (by repeat (first | exact Del.here | apply Del.there)))) (by repeat (first | exact trivial | refine And.intro (by repeat (first | exact Mem.here | apply Mem.there)) ?_)) ?_
    rintro ⟨⟩
    refine Jl.pv (PR.assign rfl) ?_
    refine Jl.nil ?_
    refine Jq.thenN ?_
    refine Jc.ret ?_
    refine Jq.thenR ?_
    exact Jq.fin () (.inl rfl) rfl (RetVs.tmp rfl RetVs.nil) rfl (by repeat (first | exact Take.nil | apply Take.cons (by repeat (first | exact Del.here | apply Del.there)))) (by repeat (first | exact trivial | refine And.intro (by repeat (first | exact Mem.here | apply Mem.there)) ?_))
  · try replace g27 := of_decide_eq_false g27
    refine Jl.on rfl rfl ?_
    refine Jl.pv (PR.fieldAddr rfl tfl30_5) ?_
    refine Jl.on rfl rfl ?_
    refine Jl.pv (PR.load1 rfl tsh26 (by repeat (first | exact Has.here | apply Has.there)) (by rfl)) ?_
    refine Jl.on rfl rfl ?_
    refine Jl.pv (PR.len rfl tsl26) ?_
    refine Jl.on rfl rfl ?_
    refine Jl.pv (PR.eql _ rfl rfl rfl) ?_
    refine Jl.pv (PR.pickF rfl rfl) ?_
    refine Jl.nil ?_
    refine Jq.thenN ?_
    refine Jc.cond rfl (fun h0 => ?_) (fun h0 => ?_)
    · try replace h0 := of_decide_eq_true h0
      refine Jc.seq ?_
      refine Jc.region ?_
      refine Jl.call awakes_ct en8 (by rfl) (by repeat (first | exact Take.nil | apply Take.cons (by repeat (first | exact Del.here | apply Del.there)))) (by repeat (first | exact trivial | refine And.intro (by repeat (first | exact Mem.here | apply Mem.there)) ?_)) ?_
      rintro ⟨⟩
      refine Jl.pv (PR.assign rfl) ?_
      refine Jl.nil ?_
      refine Jq.thenN ?_
      refine Jc.ret ?_
      refine Jq.thenR ?_
      exact Jq.fin () (.inl rfl) rfl (RetVs.tmp rfl RetVs.nil) rfl (by repeat (first | exact Take.nil | apply Take.cons (by repeat (first | exact Del.here | apply Del.there)))) (by repeat (first | exact trivial | refine And.intro (by repeat (first | exact Mem.here | apply Mem.there)) ?_))
    · try replace h0 := of_decide_eq_false h0
      have hok : b.Ok := okB_iff.1 (by simpa using g27)
      have hpos : 0 < b.kps.length := by omega
      obtain ⟨hr, i, hi, hri⟩ := at_place a hpos (by omega)
      have hn0 : (b.kps.length : Int) ≠ 0 := by omega
      have hid := id_pos hok hi
      obtain ⟨d, f, g, l1, l2, l3, l4, l5, nd, nf, ng, hdg, hfg, hgc⟩ := kept_laws hok hi now
      have d1 : d.its.length ≤ 1000000 := by rw [nd.its]; omega
      have d2 : d.kps.length ≤ 1000000 := by rw [nd.len]; omega
      have d3 : d.cf.ms.length ≤ 1000000 := by rw [nd.cf]; omega
      have g1 : g.its.length ≤ 1000000 := by rw [ng.its]; omega
      have g2 : g.kps.length ≤ 1000000 := by rw [ng.len]; omega
      have g3 : g.cf.ms.length ≤ 1000000 := by rw [ng.cf]; omega
      have hdi : i < d.kps.length := by rw [nd.len]; exact hi
      have hfi : i < f.kps.length := by rw [nf.len]; exact hi
      have hgi : i < g.kps.length := by rw [ng.len]; exact hi
      rw [kAt_eq hdi] at hdg
      rw [kAt_eq hfi] at hfg
      rw [kAt_eq hgi] at hgc
      have dl8 := kpsV_len d.kps
      have fl8 := kpsV_len f.kps
      have gl8 := kpsV_len g.kps
      have dl := nd.len
      have fl := nf.len
      have gl := ng.len
      refine Jc.skip ?_
      refine Jq.thenN ?_
      refine Jc.seq ?_
      refine Jc.drawn [0, 0, 2, 6, 15, 0, 32, 96, 255, 0, 512, 1536, 4095, 8191] ([(0, false), (1, false), (2, false), (3, false), (4, false), (5, false), (6, false), (7, false), (8, false), (9, false), (10, false), (11, false), (12, false), (13, false)], []) [] tmx (by kernel_rfl) ?_
      refine Dh.JH.nil ?_
      refine Dh.JB.pv rfl trivial (fun _ => PR.move rfl) ?_
      refine Dh.JB.pv rfl trivial (fun _ => PR.fieldAddr rfl tfl30_5) ?_
      refine Dh.JB.rd [.blk _ _ _] rfl trivial (by repeat (first | exact Take.nil | apply Take.cons (by repeat (first | exact Del.here | apply Del.there)))) (fun _ => PR.load1 rfl tsh26 Has.here (by rfl)) ?_
      refine Dh.JB.pv rfl trivial (fun _ => PR.len rfl tsl26) ?_
      refine Dh.JB.pv rfl trivial (fun _ => PR.rem (a.tmod (b.kps.length : Int)) rfl rfl hn0 rfl) ?_
      refine Dh.JB.pv rfl trivial (fun _ => PR.fieldAddr rfl tfl30_5) ?_
      refine Dh.JB.rd [.blk _ _ _] rfl trivial (by repeat (first | exact Take.nil | apply Take.cons (by repeat (first | exact Del.here | apply Del.there)))) (fun _ => PR.load1 rfl tsh26 Has.here (by rfl)) ?_
      refine Dh.JB.pv rfl trivial (fun _ => PR.len rfl tsl26) ?_
      refine Dh.JB.pv rfl trivial (fun _ => PR.add (a.tmod (b.kps.length : Int) + (b.kps.length : Int)) rfl rfl (w64 (a := a.tmod (b.kps.length : Int) + (b.kps.length : Int)) (by omega) (by omega))) ?_
      refine Dh.JB.pv rfl trivial (fun _ => PR.fieldAddr rfl tfl30_5) ?_
      refine Dh.JB.rd [.blk _ _ _] rfl trivial (by repeat (first | exact Take.nil | apply Take.cons (by repeat (first | exact Del.here | apply Del.there)))) (fun _ => PR.load1 rfl tsh26 Has.here (by rfl)) ?_
      refine Dh.JB.pv rfl trivial (fun _ => PR.len rfl tsl26) ?_
      refine Dh.JB.pv rfl trivial (fun _ => PR.rem (i : Int) rfl rfl hn0 hri) ?_
      refine Dh.JB.pv rfl trivial (fun _ => PR.assign rfl) ?_
      refine Dh.JB.nil ?_
      refine Dh.JL.nil ?_
      refine Jq.thenN ?_
      refine Jc.seq ?_
      refine Jc.region ?_
      refine Jl.pv (PR.fieldAddr rfl tfl30_5) ?_
      refine Jl.pv (PR.load1 rfl tsh26 (by repeat (first | exact Has.here | apply Has.there)) (by rfl)) ?_
      refine Jl.pv (PR.move rfl) ?_
      refine Jl.pv (PR.idx i rfl rfl tsl26 (by repeat (first | exact Mem.here | apply Mem.there)) (kpsV_len _) (by omega) rfl hi) ?_
      refine Jl.pv (PR.loadRA rfl tsh46 (by repeat (first | exact Mem.here | apply Mem.there)) (by decide) (kps_at hi)) ?_
      refine Jl.alloc tze46 ?_
      intro b7
      refine Jl.storeW rfl tsh46 rfl (by rfl) (by first | exact Br.cs_one _ _ | simp [Value.oneCell', Kp.cs]) (by repeat (first | exact Swap.here | apply Swap.there)) (by rfl) ?_
      refine Jl.nil ?_
      refine Jq.thenN ?_
      refine Jc.seq ?_
      refine Jc.drawn [0, 0, 2, 6, 14, 0, 63, 127, 255, 255, 0, 1535, 4095] ([(12, false)], []) [⟨[(0, false), (1, false), (2, false), (3, true), (5, false), (10, true)], [3], 4⟩, ⟨[], [], 6⟩, ⟨[(7, false), (8, false), (9, false)], [10], 11⟩] tmx (by kernel_rfl) ?_
      refine Dh.JH.cons ?_
      refine Dh.JB.rd [.blk _ _ _] rfl trivial (by repeat (first | exact Take.nil | apply Take.cons (by repeat (first | exact Del.here | apply Del.there)))) (fun _ => PR.loadW rfl tsh30 Has.here (by rfl)) ?_
      refine Dh.JB.pv rfl trivial (fun _ => PR.fieldAddr rfl tfl46_0) ?_
      refine Dh.JB.rd [.blk _ _ _] rfl trivial (by repeat (first | exact Take.nil | apply Take.cons (by repeat (first | exact Del.here | apply Del.there)))) (fun _ => PR.load1 rfl tsh3 Has.here (by rfl)) ?_
      refine Dh.JB.buildSlice rfl trivial (by rfl) tsl22 tzr22_2 (by rfl) (by rfl) ?_
      refine Dh.JB.pv rfl trivial (fun _ => PR.move rfl) ?_
      refine Dh.JB.alloc rfl trivial tze30 ?_
      refine Dh.JB.nil ?_
      refine Dh.JL.sl rfl (by repeat (first | exact Dh.es_here | apply Dh.es_there)) (fun b56 => ?_)
      refine Dh.JL.nil ?_
      refine Dh.JE.mk rfl (fun _ h => by cases h) (fun C5_4 => ?_)
      refine Jl.seal (by repeat (first | exact Del.here | apply Del.there)) ?_
      refine Jl.call (aof_ct 5 (some ⟨b56, 0, none⟩) 2 [b.kps[i].id, 1] (by simp)) en10 (by rfl) (by repeat (first | exact Take.nil | apply Take.cons (by repeat (first | exact Del.here | apply Del.there)))) (by repeat (first | exact trivial | refine And.intro (by repeat (first | exact Mem.here | apply Mem.there)) ?_)) ?_
      rintro ⟨A57, c57⟩
      refine Jl.sealC (by repeat (first | exact Del.here | apply Del.there)) (fun hc57 => ?_)
      refine Jl.nil ?_
      refine Dh.Jq.segV (by repeat (first | exact Dh.FExt.refl | apply Dh.FExt.cons | apply Dh.FExt.app)) ?_ (by repeat (first | exact Dh.KeepL.nil | apply Dh.KeepL.anc (by rfl) | apply Dh.KeepL.keep (by repeat (first | exact Take.nil | apply Take.cons (by repeat (first | exact Del.here | apply Del.there))))))
      refine Dh.JH.cons ?_
      refine Dh.JB.nil ?_
      refine Dh.JL.nil ?_
      refine Dh.JE.mk rfl (fun _ h => by cases h) (fun C5_6 => ?_)
      refine Jl.call (adoo_at (b := b) (z := ((M, cM), (I, cI), (K, cK))) (x := (A57, c57)) (now := now) (by simp) hc57 (fun _ => i64in2 (by omega) (by omega)) (by omega) (by omega) (by omega) l1.1 l1.2) en9 (by rfl) (by repeat (first | exact Take.nil | apply Take.cons (by repeat (first | exact Del.here | apply Del.there)))) (by repeat (first | exact trivial | refine And.intro (by repeat (first | exact Mem.here | apply Mem.there)) ?_)) ?_
      rintro ⟨⟨M1, m1⟩, ⟨I1, i1⟩, ⟨K1, k1⟩⟩
      refine Jl.nil ?_
      refine Dh.Jq.segV (by repeat (first | exact Dh.FExt.refl | apply Dh.FExt.cons | apply Dh.FExt.app)) ?_ (by repeat (first | exact Dh.KeepL.nil | apply Dh.KeepL.anc (by rfl) | apply Dh.KeepL.keep (by repeat (first | exact Take.nil | apply Take.cons (by repeat (first | exact Del.here | apply Del.there))))))
      refine Dh.JH.cons ?_
      refine Dh.JB.pv rfl trivial (fun _ => PR.move rfl) ?_
      refine Dh.JB.pv rfl trivial (fun _ => PR.extract rfl (by rfl)) ?_
      refine Dh.JB.pv rfl trivial (fun _ => PR.extract rfl (by rfl)) ?_
      refine Dh.JB.nil ?_
      refine Dh.JL.ptr rfl (by repeat (first | exact Dh.es_here | apply Dh.es_there)) (fun b8 => ?_)
      refine Dh.JL.nil ?_
      refine Dh.JE.mk rfl (fun _ h => by cases h) (fun C5_11 => ?_)
      refine Jl.storeW rfl tsh30 rfl (by rfl) (by first | exact Br.cs_one _ _ | simp [Value.oneCell', Kp.cs]) (by repeat (first | exact Swap.here | apply Swap.there)) (by rfl) ?_
      refine Jl.nil ?_
      refine Dh.Jq.segN (by repeat (first | exact Dh.FExt.refl | apply Dh.FExt.cons | apply Dh.FExt.app)) ?_ (by repeat (first | exact Dh.KeepL.nil | apply Dh.KeepL.anc (by rfl) | apply Dh.KeepL.keep (by repeat (first | exact Take.nil | apply Take.cons (by repeat (first | exact Del.here | apply Del.there))))))
      refine Dh.JH.nil ?_
      refine Dh.JB.pv rfl trivial (fun _ => PR.assign rfl) ?_
      refine Dh.JB.nil ?_
      refine Dh.JL.nil ?_
      refine Jq.thenN ?_
      refine Jc.seq ?_
      refine Jc.drawn [0, 0, 2, 6, 14, 0, 63, 127, 255, 255, 0, 1535, 4095] ([(12, false)], []) [⟨[(0, false), (1, false), (2, false), (3, true), (5, false), (10, true)], [3], 4⟩, ⟨[], [], 6⟩, ⟨[(7, false), (8, false), (9, false)], [10], 11⟩] tmx (by kernel_rfl) ?_
      refine Dh.JH.cons ?_
      refine Dh.JB.rd [.blk _ _ _] rfl trivial (by repeat (first | exact Take.nil | apply Take.cons (by repeat (first | exact Del.here | apply Del.there)))) (fun _ => PR.loadW rfl tsh30 Has.here (by rfl)) ?_
      refine Dh.JB.pv rfl trivial (fun _ => PR.fieldAddr rfl tfl46_0) ?_
      refine Dh.JB.rd [.blk _ _ _] rfl trivial (by repeat (first | exact Take.nil | apply Take.cons (by repeat (first | exact Del.here | apply Del.there)))) (fun _ => PR.load1 rfl tsh3 Has.here (by rfl)) ?_
      refine Dh.JB.buildSlice rfl trivial (by rfl) tsl22 tzr22_2 (by rfl) (by rfl) ?_
      refine Dh.JB.pv rfl trivial (fun _ => PR.move rfl) ?_
      refine Dh.JB.alloc rfl trivial tze30 ?_
      refine Dh.JB.nil ?_
      refine Dh.JL.sl rfl (by repeat (first | exact Dh.es_here | apply Dh.es_there)) (fun b66 => ?_)
      refine Dh.JL.nil ?_
      refine Dh.JE.mk rfl (fun _ h => by cases h) (fun C6_4 => ?_)
      refine Jl.seal (by repeat (first | exact Del.here | apply Del.there)) ?_
      refine Jl.call (aof_ct 5 (some ⟨b66, 0, none⟩) 2 [b.kps[i].id, 0] (by simp)) en10 (by rfl) (by repeat (first | exact Take.nil | apply Take.cons (by repeat (first | exact Del.here | apply Del.there)))) (by repeat (first | exact trivial | refine And.intro (by repeat (first | exact Mem.here | apply Mem.there)) ?_)) ?_
      rintro ⟨A67, c67⟩
      refine Jl.sealC (by repeat (first | exact Del.here | apply Del.there)) (fun hc67 => ?_)
      refine Jl.nil ?_
      refine Dh.Jq.segV (by repeat (first | exact Dh.FExt.refl | apply Dh.FExt.cons | apply Dh.FExt.app)) ?_ (by repeat (first | exact Dh.KeepL.nil | apply Dh.KeepL.anc (by rfl) | apply Dh.KeepL.keep (by repeat (first | exact Take.nil | apply Take.cons (by repeat (first | exact Del.here | apply Del.there))))))
      refine Dh.JH.cons ?_
      refine Dh.JB.nil ?_
      refine Dh.JL.nil ?_
      refine Dh.JE.mk rfl (fun _ h => by cases h) (fun C6_6 => ?_)
      refine Jl.call (adoo_at (b := d) (z := ((M1, m1), (I1, i1), (K1, k1))) (x := (A67, c67)) (now := now) (by simp) hc67 (fun _ => i64in2 (by omega) (by omega)) d1 d2 d3 l2.1 l2.2) en9 (by rfl) (by repeat (first | exact Take.nil | apply Take.cons (by repeat (first | exact Del.here | apply Del.there)))) (by repeat (first | exact trivial | refine And.intro (by repeat (first | exact Mem.here | apply Mem.there)) ?_)) ?_
      rintro ⟨⟨M2, m2⟩, ⟨I2, i2⟩, ⟨K2, k2⟩⟩
      refine Jl.nil ?_
      refine Dh.Jq.segV (by repeat (first | exact Dh.FExt.refl | apply Dh.FExt.cons | apply Dh.FExt.app)) ?_ (by repeat (first | exact Dh.KeepL.nil | apply Dh.KeepL.anc (by rfl) | apply Dh.KeepL.keep (by repeat (first | exact Take.nil | apply Take.cons (by repeat (first | exact Del.here | apply Del.there))))))
      refine Dh.JH.cons ?_
      refine Dh.JB.pv rfl trivial (fun _ => PR.move rfl) ?_
      refine Dh.JB.pv rfl trivial (fun _ => PR.extract rfl (by rfl)) ?_
      refine Dh.JB.pv rfl trivial (fun _ => PR.extract rfl (by rfl)) ?_
      refine Dh.JB.nil ?_
      refine Dh.JL.ptr rfl (by repeat (first | exact Dh.es_here | apply Dh.es_there)) (fun b10 => ?_)
      refine Dh.JL.nil ?_
      refine Dh.JE.mk rfl (fun _ h => by cases h) (fun C6_11 => ?_)
      refine Jl.storeW rfl tsh30 rfl (by rfl) (by first | exact Br.cs_one _ _ | simp [Value.oneCell', Kp.cs]) (by repeat (first | exact Swap.here | apply Swap.there)) (by rfl) ?_
      refine Jl.nil ?_
      refine Dh.Jq.segN (by repeat (first | exact Dh.FExt.refl | apply Dh.FExt.cons | apply Dh.FExt.app)) ?_ (by repeat (first | exact Dh.KeepL.nil | apply Dh.KeepL.anc (by rfl) | apply Dh.KeepL.keep (by repeat (first | exact Take.nil | apply Take.cons (by repeat (first | exact Del.here | apply Del.there))))))
      refine Dh.JH.nil ?_
      refine Dh.JB.pv rfl trivial (fun _ => PR.assign rfl) ?_
      refine Dh.JB.nil ?_
      refine Dh.JL.nil ?_
      refine Jq.thenN ?_
      refine Jc.seq ?_
      refine Jc.drawn [0, 0, 2, 6, 14, 0, 63, 127, 255, 255, 0, 1535, 4095] ([(12, false)], []) [⟨[(0, false), (1, false), (2, false), (3, true), (5, false), (10, true)], [3], 4⟩, ⟨[], [], 6⟩, ⟨[(7, false), (8, false), (9, false)], [10], 11⟩] tmx (by kernel_rfl) ?_
      refine Dh.JH.cons ?_
      refine Dh.JB.rd [.blk _ _ _] rfl trivial (by repeat (first | exact Take.nil | apply Take.cons (by repeat (first | exact Del.here | apply Del.there)))) (fun _ => PR.loadW rfl tsh30 Has.here (by rfl)) ?_
      refine Dh.JB.pv rfl trivial (fun _ => PR.fieldAddr rfl tfl46_0) ?_
      refine Dh.JB.rd [.blk _ _ _] rfl trivial (by repeat (first | exact Take.nil | apply Take.cons (by repeat (first | exact Del.here | apply Del.there)))) (fun _ => PR.load1 rfl tsh3 Has.here (by rfl)) ?_
      refine Dh.JB.buildSlice rfl trivial (by rfl) tsl22 tzr22_1 (by rfl) (by rfl) ?_
      refine Dh.JB.pv rfl trivial (fun _ => PR.move rfl) ?_
      refine Dh.JB.alloc rfl trivial tze30 ?_
      refine Dh.JB.nil ?_
      refine Dh.JL.sl rfl (by repeat (first | exact Dh.es_here | apply Dh.es_there)) (fun b76 => ?_)
      refine Dh.JL.nil ?_
      refine Dh.JE.mk rfl (fun _ h => by cases h) (fun C7_4 => ?_)
      refine Jl.seal (by repeat (first | exact Del.here | apply Del.there)) ?_
      refine Jl.call (aof_ct 6 (some ⟨b76, 0, none⟩) 1 [b.kps[i].id] (by simp)) en10 (by rfl) (by repeat (first | exact Take.nil | apply Take.cons (by repeat (first | exact Del.here | apply Del.there)))) (by repeat (first | exact trivial | refine And.intro (by repeat (first | exact Mem.here | apply Mem.there)) ?_)) ?_
      rintro ⟨A77, c77⟩
      refine Jl.sealC (by repeat (first | exact Del.here | apply Del.there)) (fun hc77 => ?_)
      refine Jl.nil ?_
      refine Dh.Jq.segV (by repeat (first | exact Dh.FExt.refl | apply Dh.FExt.cons | apply Dh.FExt.app)) ?_ (by repeat (first | exact Dh.KeepL.nil | apply Dh.KeepL.anc (by rfl) | apply Dh.KeepL.keep (by repeat (first | exact Take.nil | apply Take.cons (by repeat (first | exact Del.here | apply Del.there))))))
      refine Dh.JH.cons ?_
      refine Dh.JB.nil ?_
      refine Dh.JL.nil ?_
      refine Dh.JE.mk rfl (fun _ h => by cases h) (fun C7_6 => ?_)
      refine Jl.call (adoo_at (b := b) (z := ((M, cM), (I, cI), (K, cK))) (x := (A77, c77)) (now := now) (by simp) hc77 (fun h => by cases h) (by omega) (by omega) (by omega) l3.1 l3.2) en9 (by rfl) (by repeat (first | exact Take.nil | apply Take.cons (by repeat (first | exact Del.here | apply Del.there)))) (by repeat (first | exact trivial | refine And.intro (by repeat (first | exact Mem.here | apply Mem.there)) ?_)) ?_
      rintro ⟨⟨M3, m3⟩, ⟨I3, i3⟩, ⟨K3, k3⟩⟩
      refine Jl.nil ?_
      refine Dh.Jq.segV (by repeat (first | exact Dh.FExt.refl | apply Dh.FExt.cons | apply Dh.FExt.app)) ?_ (by repeat (first | exact Dh.KeepL.nil | apply Dh.KeepL.anc (by rfl) | apply Dh.KeepL.keep (by repeat (first | exact Take.nil | apply Take.cons (by repeat (first | exact Del.here | apply Del.there))))))
      refine Dh.JH.cons ?_
      refine Dh.JB.pv rfl trivial (fun _ => PR.move rfl) ?_
      refine Dh.JB.pv rfl trivial (fun _ => PR.extract rfl (by rfl)) ?_
      refine Dh.JB.pv rfl trivial (fun _ => PR.extract rfl (by rfl)) ?_
      refine Dh.JB.nil ?_
      refine Dh.JL.ptr rfl (by repeat (first | exact Dh.es_here | apply Dh.es_there)) (fun b12 => ?_)
      refine Dh.JL.nil ?_
      refine Dh.JE.mk rfl (fun _ h => by cases h) (fun C7_11 => ?_)
      refine Jl.storeW rfl tsh30 rfl (by rfl) (by first | exact Br.cs_one _ _ | simp [Value.oneCell', Kp.cs]) (by repeat (first | exact Swap.here | apply Swap.there)) (by rfl) ?_
      refine Jl.nil ?_
      refine Dh.Jq.segN (by repeat (first | exact Dh.FExt.refl | apply Dh.FExt.cons | apply Dh.FExt.app)) ?_ (by repeat (first | exact Dh.KeepL.nil | apply Dh.KeepL.anc (by rfl) | apply Dh.KeepL.keep (by repeat (first | exact Take.nil | apply Take.cons (by repeat (first | exact Del.here | apply Del.there))))))
      refine Dh.JH.nil ?_
      refine Dh.JB.pv rfl trivial (fun _ => PR.assign rfl) ?_
      refine Dh.JB.nil ?_
      refine Dh.JL.nil ?_
      refine Jq.thenN ?_
      refine Jc.seq ?_
      refine Jc.drawn [0, 0, 2, 6, 14, 0, 63, 127, 255, 255, 0, 1535, 4095] ([(12, false)], []) [⟨[(0, false), (1, false), (2, false), (3, true), (5, false), (10, true)], [3], 4⟩, ⟨[], [], 6⟩, ⟨[(7, false), (8, false), (9, false)], [10], 11⟩] tmx (by kernel_rfl) ?_
      refine Dh.JH.cons ?_
      refine Dh.JB.rd [.blk _ _ _] rfl trivial (by repeat (first | exact Take.nil | apply Take.cons (by repeat (first | exact Del.here | apply Del.there)))) (fun _ => PR.loadW rfl tsh30 Has.here (by rfl)) ?_
      refine Dh.JB.pv rfl trivial (fun _ => PR.fieldAddr rfl tfl46_0) ?_
      refine Dh.JB.rd [.blk _ _ _] rfl trivial (by repeat (first | exact Take.nil | apply Take.cons (by repeat (first | exact Del.here | apply Del.there)))) (fun _ => PR.load1 rfl tsh3 Has.here (by rfl)) ?_
      refine Dh.JB.buildSlice rfl trivial (by rfl) tsl22 tzr22_1 (by rfl) (by rfl) ?_
      refine Dh.JB.pv rfl trivial (fun _ => PR.move rfl) ?_
      refine Dh.JB.alloc rfl trivial tze30 ?_
      refine Dh.JB.nil ?_
      refine Dh.JL.sl rfl (by repeat (first | exact Dh.es_here | apply Dh.es_there)) (fun b86 => ?_)
      refine Dh.JL.nil ?_
      refine Dh.JE.mk rfl (fun _ h => by cases h) (fun C8_4 => ?_)
      refine Jl.seal (by repeat (first | exact Del.here | apply Del.there)) ?_
      refine Jl.call (aof_ct 6 (some ⟨b86, 0, none⟩) 1 [b.kps[i].id] (by simp)) en10 (by rfl) (by repeat (first | exact Take.nil | apply Take.cons (by repeat (first | exact Del.here | apply Del.there)))) (by repeat (first | exact trivial | refine And.intro (by repeat (first | exact Mem.here | apply Mem.there)) ?_)) ?_
      rintro ⟨A87, c87⟩
      refine Jl.sealC (by repeat (first | exact Del.here | apply Del.there)) (fun hc87 => ?_)
      refine Jl.nil ?_
      refine Dh.Jq.segV (by repeat (first | exact Dh.FExt.refl | apply Dh.FExt.cons | apply Dh.FExt.app)) ?_ (by repeat (first | exact Dh.KeepL.nil | apply Dh.KeepL.anc (by rfl) | apply Dh.KeepL.keep (by repeat (first | exact Take.nil | apply Take.cons (by repeat (first | exact Del.here | apply Del.there))))))
      refine Dh.JH.cons ?_
      refine Dh.JB.nil ?_
      refine Dh.JL.nil ?_
      refine Dh.JE.mk rfl (fun _ h => by cases h) (fun C8_6 => ?_)
      refine Jl.call (adoo_at (b := g) (z := ((M3, m3), (I3, i3), (K3, k3))) (x := (A87, c87)) (now := now) (by simp) hc87 (fun h => by cases h) g1 g2 g3 l4.1 l4.2) en9 (by rfl) (by repeat (first | exact Take.nil | apply Take.cons (by repeat (first | exact Del.here | apply Del.there)))) (by repeat (first | exact trivial | refine And.intro (by repeat (first | exact Mem.here | apply Mem.there)) ?_)) ?_
      rintro ⟨⟨M4, m4⟩, ⟨I4, i4⟩, ⟨K4, k4⟩⟩
      refine Jl.nil ?_
      refine Dh.Jq.segV (by repeat (first | exact Dh.FExt.refl | apply Dh.FExt.cons | apply Dh.FExt.app)) ?_ (by repeat (first | exact Dh.KeepL.nil | apply Dh.KeepL.anc (by rfl) | apply Dh.KeepL.keep (by repeat (first | exact Take.nil | apply Take.cons (by repeat (first | exact Del.here | apply Del.there))))))
      refine Dh.JH.cons ?_
      refine Dh.JB.pv rfl trivial (fun _ => PR.move rfl) ?_
      refine Dh.JB.pv rfl trivial (fun _ => PR.extract rfl (by rfl)) ?_
      refine Dh.JB.pv rfl trivial (fun _ => PR.extract rfl (by rfl)) ?_
      refine Dh.JB.nil ?_
      refine Dh.JL.ptr rfl (by repeat (first | exact Dh.es_here | apply Dh.es_there)) (fun b14 => ?_)
      refine Dh.JL.nil ?_
      refine Dh.JE.mk rfl (fun _ h => by cases h) (fun C8_11 => ?_)
      refine Jl.storeW rfl tsh30 rfl (by rfl) (by first | exact Br.cs_one _ _ | simp [Value.oneCell', Kp.cs]) (by repeat (first | exact Swap.here | apply Swap.there)) (by rfl) ?_
      refine Jl.nil ?_
      refine Dh.Jq.segN (by repeat (first | exact Dh.FExt.refl | apply Dh.FExt.cons | apply Dh.FExt.app)) ?_ (by repeat (first | exact Dh.KeepL.nil | apply Dh.KeepL.anc (by rfl) | apply Dh.KeepL.keep (by repeat (first | exact Take.nil | apply Take.cons (by repeat (first | exact Del.here | apply Del.there))))))
      refine Dh.JH.nil ?_
      refine Dh.JB.pv rfl trivial (fun _ => PR.assign rfl) ?_
      refine Dh.JB.nil ?_
      refine Dh.JL.nil ?_
      refine Jq.thenN ?_
      refine Jc.seq ?_
      refine Jc.drawn [0, 0, 2, 6, 14, 0, 63, 127, 255, 255, 0, 1535, 4095] ([(12, false)], []) [⟨[(0, false), (1, false), (2, false), (3, true), (5, false), (10, true)], [3], 4⟩, ⟨[], [], 6⟩, ⟨[(7, false), (8, false), (9, false)], [10], 11⟩] tmx (by kernel_rfl) ?_
      refine Dh.JH.cons ?_
      refine Dh.JB.rd [.blk _ _ _] rfl trivial (by repeat (first | exact Take.nil | apply Take.cons (by repeat (first | exact Del.here | apply Del.there)))) (fun _ => PR.loadW rfl tsh30 Has.here (by rfl)) ?_
      refine Dh.JB.pv rfl trivial (fun _ => PR.fieldAddr rfl tfl46_0) ?_
      refine Dh.JB.rd [.blk _ _ _] rfl trivial (by repeat (first | exact Take.nil | apply Take.cons (by repeat (first | exact Del.here | apply Del.there)))) (fun _ => PR.load1 rfl tsh3 Has.here (by rfl)) ?_
      refine Dh.JB.buildSlice rfl trivial (by rfl) tsl22 tzr22_2 (by rfl) (by rfl) ?_
      refine Dh.JB.pv rfl trivial (fun _ => PR.move rfl) ?_
      refine Dh.JB.alloc rfl trivial tze30 ?_
      refine Dh.JB.nil ?_
      refine Dh.JL.sl rfl (by repeat (first | exact Dh.es_here | apply Dh.es_there)) (fun b96 => ?_)
      refine Dh.JL.nil ?_
      refine Dh.JE.mk rfl (fun _ h => by cases h) (fun C9_4 => ?_)
      refine Jl.seal (by repeat (first | exact Del.here | apply Del.there)) ?_
      refine Jl.call (aof_ct 5 (some ⟨b96, 0, none⟩) 2 [b.kps[i].id, 2] (by simp)) en10 (by rfl) (by repeat (first | exact Take.nil | apply Take.cons (by repeat (first | exact Del.here | apply Del.there)))) (by repeat (first | exact trivial | refine And.intro (by repeat (first | exact Mem.here | apply Mem.there)) ?_)) ?_
      rintro ⟨A97, c97⟩
      refine Jl.sealC (by repeat (first | exact Del.here | apply Del.there)) (fun hc97 => ?_)
      refine Jl.nil ?_
      refine Dh.Jq.segV (by repeat (first | exact Dh.FExt.refl | apply Dh.FExt.cons | apply Dh.FExt.app)) ?_ (by repeat (first | exact Dh.KeepL.nil | apply Dh.KeepL.anc (by rfl) | apply Dh.KeepL.keep (by repeat (first | exact Take.nil | apply Take.cons (by repeat (first | exact Del.here | apply Del.there))))))
      refine Dh.JH.cons ?_
      refine Dh.JB.nil ?_
      refine Dh.JL.nil ?_
      refine Dh.JE.mk rfl (fun _ h => by cases h) (fun C9_6 => ?_)
      refine Jl.call (adoo_at (b := b) (z := ((M, cM), (I, cI), (K, cK))) (x := (A97, c97)) (now := now) (by simp) hc97 (fun _ => i64in2 (by omega) (by omega)) (by omega) (by omega) (by omega) l5.1 l5.2) en9 (by rfl) (by repeat (first | exact Take.nil | apply Take.cons (by repeat (first | exact Del.here | apply Del.there)))) (by repeat (first | exact trivial | refine And.intro (by repeat (first | exact Mem.here | apply Mem.there)) ?_)) ?_
      rintro ⟨⟨M5, m5⟩, ⟨I5, i5⟩, ⟨K5, k5⟩⟩
      refine Jl.nil ?_
      refine Dh.Jq.segV (by repeat (first | exact Dh.FExt.refl | apply Dh.FExt.cons | apply Dh.FExt.app)) ?_ (by repeat (first | exact Dh.KeepL.nil | apply Dh.KeepL.anc (by rfl) | apply Dh.KeepL.keep (by repeat (first | exact Take.nil | apply Take.cons (by repeat (first | exact Del.here | apply Del.there))))))
      refine Dh.JH.cons ?_
      refine Dh.JB.pv rfl trivial (fun _ => PR.move rfl) ?_
      refine Dh.JB.pv rfl trivial (fun _ => PR.extract rfl (by rfl)) ?_
      refine Dh.JB.pv rfl trivial (fun _ => PR.extract rfl (by rfl)) ?_
      refine Dh.JB.nil ?_
      refine Dh.JL.ptr rfl (by repeat (first | exact Dh.es_here | apply Dh.es_there)) (fun b16 => ?_)
      refine Dh.JL.nil ?_
      refine Dh.JE.mk rfl (fun _ h => by cases h) (fun C9_11 => ?_)
      refine Jl.storeW rfl tsh30 rfl (by rfl) (by first | exact Br.cs_one _ _ | simp [Value.oneCell', Kp.cs]) (by repeat (first | exact Swap.here | apply Swap.there)) (by rfl) ?_
      refine Jl.nil ?_
      refine Dh.Jq.segN (by repeat (first | exact Dh.FExt.refl | apply Dh.FExt.cons | apply Dh.FExt.app)) ?_ (by repeat (first | exact Dh.KeepL.nil | apply Dh.KeepL.anc (by rfl) | apply Dh.KeepL.keep (by repeat (first | exact Take.nil | apply Take.cons (by repeat (first | exact Del.here | apply Del.there))))))
      refine Dh.JH.nil ?_
      refine Dh.JB.pv rfl trivial (fun _ => PR.assign rfl) ?_
      refine Dh.JB.nil ?_
      refine Dh.JL.nil ?_
      refine Jq.thenN ?_
      refine Jc.seq ?_
      refine Jc.seq ?_
      refine Jc.region ?_
      refine Jl.pv (PR.fieldAddr rfl tfl30_5) ?_
      refine Jl.pv (PR.load1 rfl tsh26 (by repeat (first | exact Has.here | apply Has.there)) (by rfl)) ?_
      refine Jl.pv (PR.len rfl tsl26) ?_
      refine Jl.pv (PR.fieldAddr rfl tfl30_5) ?_
      refine Jl.pv (PR.load1 rfl tsh26 (by repeat (first | exact Has.here | apply Has.there)) (by rfl)) ?_
      refine Jl.pv (PR.len rfl tsl26) ?_
      refine Jl.pv (PR.neq false rfl rfl (decide_eq_false (by omega))) ?_
      refine Jl.pv (PR.move rfl) ?_
      refine Jl.on rfl rfl ?_
      refine Jl.pv (PR.fieldAddr rfl tfl30_5) ?_
      refine Jl.on rfl rfl ?_
      refine Jl.pv (PR.load1 rfl tsh26 (by repeat (first | exact Has.here | apply Has.there)) (by rfl)) ?_
      refine Jl.on rfl rfl ?_
      refine Jl.pv (PR.len rfl tsl26) ?_
      refine Jl.on rfl rfl ?_
      refine Jl.pv (PR.fieldAddr rfl tfl30_5) ?_
      refine Jl.on rfl rfl ?_
      refine Jl.pv (PR.load1 rfl tsh26 (by repeat (first | exact Has.here | apply Has.there)) (by rfl)) ?_
      refine Jl.on rfl rfl ?_
      refine Jl.pv (PR.len rfl tsl26) ?_
      refine Jl.on rfl rfl ?_
      refine Jl.pv (PR.neq false rfl rfl (decide_eq_false (by omega))) ?_
      refine Jl.pv (PR.pickF rfl rfl) ?_
      refine Jl.pv (PR.move rfl) ?_
      refine Jl.on rfl rfl ?_
      refine Jl.pv (PR.fieldAddr rfl tfl30_5) ?_
      refine Jl.on rfl rfl ?_
      refine Jl.pv (PR.load1 rfl tsh26 (by repeat (first | exact Has.here | apply Has.there)) (by rfl)) ?_
      refine Jl.on rfl rfl ?_
      refine Jl.pv (PR.len rfl tsl26) ?_
      refine Jl.on rfl rfl ?_
      refine Jl.pv (PR.fieldAddr rfl tfl30_5) ?_
      refine Jl.on rfl rfl ?_
      refine Jl.pv (PR.load1 rfl tsh26 (by repeat (first | exact Has.here | apply Has.there)) (by rfl)) ?_
      refine Jl.on rfl rfl ?_
      refine Jl.pv (PR.len rfl tsl26) ?_
      refine Jl.on rfl rfl ?_
      refine Jl.pv (PR.neq false rfl rfl (decide_eq_false (by omega))) ?_
      refine Jl.pv (PR.pickF rfl rfl) ?_
      refine Jl.pv (PR.move rfl) ?_
      refine Jl.on rfl rfl ?_
      refine Jl.pv (PR.move rfl) ?_
      refine Jl.on rfl rfl ?_
      refine Jl.pv (PR.neq false rfl rfl (by decide)) ?_
      refine Jl.pv (PR.pickF rfl rfl) ?_
      refine Jl.pv (PR.move rfl) ?_
      refine Jl.on rfl rfl ?_
      refine Jl.pv (PR.move rfl) ?_
      refine Jl.on rfl rfl ?_
      refine Jl.pv (PR.neq false rfl rfl (by decide)) ?_
      refine Jl.pv (PR.pickF rfl rfl) ?_
      refine Jl.pv (PR.move rfl) ?_
      refine Jl.on rfl rfl ?_
      refine Jl.pv (PR.move rfl) ?_
      refine Jl.on rfl rfl ?_
      refine Jl.pv (PR.neq false rfl rfl (by decide)) ?_
      refine Jl.pv (PR.pickF rfl rfl) ?_
      refine Jl.nil ?_
      refine Jq.thenN ?_
      refine Jc.condF rfl ?_
      refine Jc.skip ?_
      refine Jq.thenN ?_
      refine Jc.seq ?_
      refine Jc.seq ?_
      refine Jc.region ?_
      refine Jl.pv (PR.assign rfl) ?_
      refine Jl.nil ?_
      refine Jq.thenN ?_
      refine Jc.block ?_
      refine Jc.lessR (rs := [.blk b12 30 (g.cs ((M3, m3), (I3, i3), (K3, k3))), .blk b10 30 (f.cs ((M2, m2), (I2, i2), (K2, k2))), .blk b8 30 (d.cs ((M1, m1), (I1, i1), (K1, k1))), .blk b7 46 b.kps[i].cs, .blk b3 30 (b.cs ((M, cM), (I, cI), (K, cK)))]) (by repeat (first | exact Take.nil | apply Take.cons (by repeat (first | exact Del.here | apply Del.there)))) ?_
      refine Jc.loop (σ := { k : Nat // k ≤ b.kps.length }) (fun s => [(18, .int .i64 (s.1 : Int)), (1, .int .i64 (i : Int)), (3, ptr b3), (7, ptr b7), (8, ptr b8), (10, ptr b10), (12, ptr b12), (13, .int .i64 (if b.kps[i].may = true then 0 else 190)), (15, .int .i64 190)]) (fun _ => [.blk b12 30 (g.cs ((M3, m3), (I3, i3), (K3, k3))), .blk b10 30 (f.cs ((M2, m2), (I2, i2), (K2, k2))), .blk b8 30 (d.cs ((M1, m1), (I1, i1), (K1, k1))), .blk b7 46 b.kps[i].cs, .blk b3 30 (b.cs ((M, cM), (I, cI), (K, cK)))]) (fun s => [.rd K (kpsV b.kps), .rd K1 (kpsV d.kps), .rd K2 (kpsV f.kps), .rd K3 (kpsV g.kps), .lim, .anames]) (fun s => b.kps.length - s.1) ⟨0, Nat.zero_le _⟩ (by repeat (first | exact trivial | refine And.intro rfl ?_)) rfl (by repeat (first | exact trivial | refine And.intro (by repeat (first | exact Mem.here | apply Mem.there)) ?_)) ?_
      rintro ⟨k, hk⟩
      show Jc _ _ _ _ _ _ [(18, Value.int .i64 (k : Int)), (1, .int .i64 (i : Int)), (3, ptr b3), (7, ptr b7), (8, ptr b8), (10, ptr b10), (12, ptr b12), (13, .int .i64 (if b.kps[i].may = true then 0 else 190)), (15, .int .i64 190)] [.blk b12 30 (g.cs ((M3, m3), (I3, i3), (K3, k3))), .blk b10 30 (f.cs ((M2, m2), (I2, i2), (K2, k2))), .blk b8 30 (d.cs ((M1, m1), (I1, i1), (K1, k1))), .blk b7 46 b.kps[i].cs, .blk b3 30 (b.cs ((M, cM), (I, cI), (K, cK)))] [.rd K (kpsV b.kps), .rd K1 (kpsV d.kps), .rd K2 (kpsV f.kps), .rd K3 (kpsV g.kps), .lim, .anames]
      refine Jc.seq ?_
      refine Jc.seq ?_
      refine Jc.region ?_
      refine Jl.pv (PR.move rfl) ?_
      refine Jl.pv (PR.fieldAddr rfl tfl30_5) ?_
      refine Jl.pv (PR.load1 rfl tsh26 (by repeat (first | exact Has.here | apply Has.there)) (by rfl)) ?_
      refine Jl.pv (PR.len rfl tsl26) ?_
      refine Jl.pv (PR.lss _ rfl rfl rfl) ?_
      refine Jl.nil ?_
      refine Jq.thenN ?_
      refine Jc.cond rfl (fun h1 => ?_) (fun h1 => ?_)
      · try replace h1 := of_decide_eq_true h1
        have hlt : k < b.kps.length := by omega
        have hld : k < d.kps.length := by omega
        have hlf : k < f.kps.length := by omega
        have hlg : k < g.kps.length := by omega
        refine Jc.skip ?_
        refine Jq.thenN ?_
        refine Jc.seq ?_
        refine Jc.block ?_
        refine Jc.seq ?_
        refine Jc.drawn [0, 0, 3, 7, 15, 31, 15, 127, 255, 15, 527, 15, 3599, 7695, 16383, 32767, 65535, 131071, 65535, 524287, 1048575, 65535, 2162687, 65535, 14745599, 31522815, 67108863, 134217727, 268435455, 536870911, 1073741823, 536870911, 4294967295, 8589934591, 536870911, 17716740095, 536870911, 120795955199, 258234908671, 549755813887, 1099511627775, 2199023255551] ([(0, false), (1, false), (2, false), (3, false), (4, false), (5, false), (6, false), (7, false), (8, false), (9, false), (10, false), (11, false), (12, false), (13, false), (14, false), (15, false), (16, false), (17, false), (18, false), (19, false), (20, false), (21, false), (22, false), (23, false), (24, false), (25, false), (26, false), (27, false), (28, false), (29, false), (30, false), (31, false), (32, false), (33, false), (34, false), (35, false), (36, false), (37, false), (38, false), (39, false), (40, false), (41, false)], []) [] tmx (by kernel_rfl) ?_
        refine Dh.JH.nil ?_
        refine Dh.JB.pv rfl trivial (fun _ => PR.move rfl) ?_
        refine Dh.JB.pv rfl trivial (fun _ => PR.move rfl) ?_
        refine Dh.JB.pv rfl trivial (fun _ => PR.neq _ rfl rfl rfl) ?_
        refine Dh.JB.pv rfl trivial (fun _ => PR.move rfl) ?_
        refine Dh.JB.bsplit (fun g149 => ?_) (fun g149 => ?_)
        · try replace g149 := of_decide_eq_true g149
          have hne : k ≠ i := fun e => g149 (by rw [e])
          refine Dh.JB.pv rfl ⟨_, rfl, rfl⟩ (fun _ => PR.fieldAddr rfl tfl30_5) ?_
          refine Dh.JB.rd [.blk _ _ _] rfl ⟨_, rfl, rfl⟩ (by repeat (first | exact Take.nil | apply Take.cons (by repeat (first | exact Del.here | apply Del.there)))) (fun _ => PR.load1 rfl tsh26 Has.here (by rfl)) ?_
          refine Dh.JB.pv rfl ⟨_, rfl, rfl⟩ (fun _ => PR.move rfl) ?_
          refine Dh.JB.pv rfl ⟨_, rfl, rfl⟩ (fun _ => PR.idx k rfl rfl tsl26 (by repeat (first | exact Mem.here | apply Mem.there)) (kpsV_len _) (by omega) rfl hld) ?_
          refine Dh.JB.pv rfl ⟨_, rfl, rfl⟩ (fun _ => PR.loadRA rfl tsh46 (by repeat (first | exact Mem.here | apply Mem.there)) (by decide) (kps_at hld)) ?_
          refine Dh.JB.pv rfl ⟨_, rfl, rfl⟩ (fun _ => PR.fieldAddr rfl tfl30_5) ?_
          refine Dh.JB.rd [.blk _ _ _] rfl ⟨_, rfl, rfl⟩ (by repeat (first | exact Take.nil | apply Take.cons (by repeat (first | exact Del.here | apply Del.there)))) (fun _ => PR.load1 rfl tsh26 Has.here (by rfl)) ?_
          refine Dh.JB.pv rfl ⟨_, rfl, rfl⟩ (fun _ => PR.move rfl) ?_
          refine Dh.JB.pv rfl ⟨_, rfl, rfl⟩ (fun _ => PR.idx k rfl rfl tsl26 (by repeat (first | exact Mem.here | apply Mem.there)) (kpsV_len _) (by omega) rfl hlt) ?_
          refine Dh.JB.pv rfl ⟨_, rfl, rfl⟩ (fun _ => PR.loadRA rfl tsh46 (by repeat (first | exact Mem.here | apply Mem.there)) (by decide) (kps_at hlt)) ?_
          refine Dh.JB.pv rfl ⟨_, rfl, rfl⟩ (fun _ => PR.neqA (xs := d.kps[k].cs) (ys := b.kps[k].cs) false rfl rfl teq46 (by rfl) (ne_same (nd.other k hne hlt hld))) ?_
          refine Dh.JB.pv rfl ⟨_, rfl, rfl⟩ (fun _ => PR.move rfl) ?_
          refine Dh.JB.pv rfl ⟨_, rfl, rfl⟩ (fun _ => PR.fieldAddr rfl tfl30_5) ?_
          refine Dh.JB.rd [.blk _ _ _] rfl ⟨_, rfl, rfl⟩ (by repeat (first | exact Take.nil | apply Take.cons (by repeat (first | exact Del.here | apply Del.there)))) (fun _ => PR.load1 rfl tsh26 Has.here (by rfl)) ?_
          refine Dh.JB.pv rfl ⟨_, rfl, rfl⟩ (fun _ => PR.move rfl) ?_
          refine Dh.JB.pv rfl ⟨_, rfl, rfl⟩ (fun _ => PR.idx k rfl rfl tsl26 (by repeat (first | exact Mem.here | apply Mem.there)) (kpsV_len _) (by omega) rfl hlf) ?_
          refine Dh.JB.pv rfl ⟨_, rfl, rfl⟩ (fun _ => PR.loadRA rfl tsh46 (by repeat (first | exact Mem.here | apply Mem.there)) (by decide) (kps_at hlf)) ?_
          refine Dh.JB.pv rfl ⟨_, rfl, rfl⟩ (fun _ => PR.fieldAddr rfl tfl30_5) ?_
          refine Dh.JB.rd [.blk _ _ _] rfl ⟨_, rfl, rfl⟩ (by repeat (first | exact Take.nil | apply Take.cons (by repeat (first | exact Del.here | apply Del.there)))) (fun _ => PR.load1 rfl tsh26 Has.here (by rfl)) ?_
          refine Dh.JB.pv rfl ⟨_, rfl, rfl⟩ (fun _ => PR.move rfl) ?_
          refine Dh.JB.pv rfl ⟨_, rfl, rfl⟩ (fun _ => PR.idx k rfl rfl tsl26 (by repeat (first | exact Mem.here | apply Mem.there)) (kpsV_len _) (by omega) rfl hlt) ?_
          refine Dh.JB.pv rfl ⟨_, rfl, rfl⟩ (fun _ => PR.loadRA rfl tsh46 (by repeat (first | exact Mem.here | apply Mem.there)) (by decide) (kps_at hlt)) ?_
          refine Dh.JB.pv rfl ⟨_, rfl, rfl⟩ (fun _ => PR.neqA (xs := f.kps[k].cs) (ys := b.kps[k].cs) false rfl rfl teq46 (by rfl) (ne_same (nf.other k hne hlt hlf))) ?_
          refine Dh.JB.pv rfl ⟨_, rfl, rfl⟩ (fun _ => PR.pickF rfl rfl) ?_
          refine Dh.JB.pv rfl ⟨_, rfl, rfl⟩ (fun _ => PR.move rfl) ?_
          refine Dh.JB.pv rfl ⟨_, rfl, rfl⟩ (fun _ => PR.fieldAddr rfl tfl30_5) ?_
          refine Dh.JB.rd [.blk _ _ _] rfl ⟨_, rfl, rfl⟩ (by repeat (first | exact Take.nil | apply Take.cons (by repeat (first | exact Del.here | apply Del.there)))) (fun _ => PR.load1 rfl tsh26 Has.here (by rfl)) ?_
          refine Dh.JB.pv rfl ⟨_, rfl, rfl⟩ (fun _ => PR.move rfl) ?_
          refine Dh.JB.pv rfl ⟨_, rfl, rfl⟩ (fun _ => PR.idx k rfl rfl tsl26 (by repeat (first | exact Mem.here | apply Mem.there)) (kpsV_len _) (by omega) rfl hlg) ?_
          refine Dh.JB.pv rfl ⟨_, rfl, rfl⟩ (fun _ => PR.loadRA rfl tsh46 (by repeat (first | exact Mem.here | apply Mem.there)) (by decide) (kps_at hlg)) ?_
          refine Dh.JB.pv rfl ⟨_, rfl, rfl⟩ (fun _ => PR.fieldAddr rfl tfl30_5) ?_
          refine Dh.JB.rd [.blk _ _ _] rfl ⟨_, rfl, rfl⟩ (by repeat (first | exact Take.nil | apply Take.cons (by repeat (first | exact Del.here | apply Del.there)))) (fun _ => PR.load1 rfl tsh26 Has.here (by rfl)) ?_
          refine Dh.JB.pv rfl ⟨_, rfl, rfl⟩ (fun _ => PR.move rfl) ?_
          refine Dh.JB.pv rfl ⟨_, rfl, rfl⟩ (fun _ => PR.idx k rfl rfl tsl26 (by repeat (first | exact Mem.here | apply Mem.there)) (kpsV_len _) (by omega) rfl hlt) ?_
          refine Dh.JB.pv rfl ⟨_, rfl, rfl⟩ (fun _ => PR.loadRA rfl tsh46 (by repeat (first | exact Mem.here | apply Mem.there)) (by decide) (kps_at hlt)) ?_
          refine Dh.JB.pv rfl ⟨_, rfl, rfl⟩ (fun _ => PR.neqA (xs := g.kps[k].cs) (ys := b.kps[k].cs) false rfl rfl teq46 (by rfl) (ne_same (ng.other k hne hlt hlg))) ?_
          refine Dh.JB.pv rfl ⟨_, rfl, rfl⟩ (fun _ => PR.pickF rfl rfl) ?_
          refine Dh.JB.pv rfl trivial (fun _ => PR.pickT rfl rfl) ?_
          refine Dh.JB.nil ?_
          refine Dh.JL.nil ?_
          refine Jq.thenN ?_
          refine Jc.condF rfl ?_
          refine Jc.skip ?_
          refine Jq.blkN ?_
          refine Jq.thenN ?_
          refine Jc.region ?_
          refine Jl.pv (PR.move rfl) ?_
          refine Jl.pv (PR.add ((k + 1 : Nat) : Int) rfl rfl (by rw [w64 (by omega) (by omega)]; rfl)) ?_
          refine Jl.pv (PR.assign rfl) ?_
          refine Jl.nil ?_
          exact Jq.againT ⟨k + 1, hlt⟩ (by simp only; omega) (by repeat (first | exact trivial | refine And.intro rfl ?_)) (by repeat (first | exact Take.nil | apply Take.cons (by repeat (first | exact Del.here | apply Del.there)))) (by repeat (first | exact trivial | refine And.intro (by repeat (first | exact Mem.here | apply Mem.there)) ?_))
        · try replace g149 := of_decide_eq_false g149
          refine Dh.JB.off rfl ⟨_, rfl, .inr rfl⟩ ?_
          refine Dh.JB.off rfl ⟨_, rfl, .inr rfl⟩ ?_
          refine Dh.JB.off rfl ⟨_, rfl, .inr rfl⟩ ?_
          refine Dh.JB.off rfl ⟨_, rfl, .inr rfl⟩ ?_
          refine Dh.JB.off rfl ⟨_, rfl, .inr rfl⟩ ?_
          refine Dh.JB.off rfl ⟨_, rfl, .inr rfl⟩ ?_
          refine Dh.JB.off rfl ⟨_, rfl, .inr rfl⟩ ?_
          refine Dh.JB.off rfl ⟨_, rfl, .inr rfl⟩ ?_
          refine Dh.JB.off rfl ⟨_, rfl, .inr rfl⟩ ?_
          refine Dh.JB.off rfl ⟨_, rfl, .inr rfl⟩ ?_
          refine Dh.JB.off rfl ⟨_, rfl, .inr rfl⟩ ?_
          refine Dh.JB.off rfl ⟨_, rfl, .inr rfl⟩ ?_
          refine Dh.JB.off rfl ⟨_, rfl, .inl rfl⟩ ?_
          refine Dh.JB.off rfl ⟨_, rfl, .inl rfl⟩ ?_
          refine Dh.JB.off rfl ⟨_, rfl, .inl rfl⟩ ?_
          refine Dh.JB.off rfl ⟨_, rfl, .inl rfl⟩ ?_
          refine Dh.JB.off rfl ⟨_, rfl, .inl rfl⟩ ?_
          refine Dh.JB.off rfl ⟨_, rfl, .inl rfl⟩ ?_
          refine Dh.JB.off rfl ⟨_, rfl, .inl rfl⟩ ?_
          refine Dh.JB.off rfl ⟨_, rfl, .inl rfl⟩ ?_
          refine Dh.JB.off rfl ⟨_, rfl, .inl rfl⟩ ?_
          refine Dh.JB.off rfl ⟨_, rfl, .inl rfl⟩ ?_
          refine Dh.JB.off rfl ⟨_, rfl, .inl rfl⟩ ?_
          refine Dh.JB.off rfl ⟨_, rfl, .inr rfl⟩ ?_
          refine Dh.JB.off rfl ⟨_, rfl, .inr rfl⟩ ?_
          refine Dh.JB.off rfl ⟨_, rfl, .inl rfl⟩ ?_
          refine Dh.JB.off rfl ⟨_, rfl, .inl rfl⟩ ?_
          refine Dh.JB.off rfl ⟨_, rfl, .inl rfl⟩ ?_
          refine Dh.JB.off rfl ⟨_, rfl, .inl rfl⟩ ?_
          refine Dh.JB.off rfl ⟨_, rfl, .inl rfl⟩ ?_
          refine Dh.JB.off rfl ⟨_, rfl, .inl rfl⟩ ?_
          refine Dh.JB.off rfl ⟨_, rfl, .inl rfl⟩ ?_
          refine Dh.JB.off rfl ⟨_, rfl, .inl rfl⟩ ?_
          refine Dh.JB.off rfl ⟨_, rfl, .inl rfl⟩ ?_
          refine Dh.JB.off rfl ⟨_, rfl, .inl rfl⟩ ?_
          refine Dh.JB.off rfl ⟨_, rfl, .inl rfl⟩ ?_
          refine Dh.JB.off rfl ⟨_, rfl, .inr rfl⟩ ?_
          refine Dh.JB.pv rfl trivial (fun _ => PR.pickF rfl rfl) ?_
          refine Dh.JB.nil ?_
          refine Dh.JL.nil ?_
          refine Jq.thenN ?_
          refine Jc.condF rfl ?_
          refine Jc.skip ?_
          refine Jq.blkN ?_
          refine Jq.thenN ?_
          refine Jc.region ?_
          refine Jl.pv (PR.move rfl) ?_
          refine Jl.pv (PR.add ((k + 1 : Nat) : Int) rfl rfl (by rw [w64 (by omega) (by omega)]; rfl)) ?_
          refine Jl.pv (PR.assign rfl) ?_
          refine Jl.nil ?_
          exact Jq.againT ⟨k + 1, hlt⟩ (by simp only; omega) (by repeat (first | exact trivial | refine And.intro rfl ?_)) (by repeat (first | exact Take.nil | apply Take.cons (by repeat (first | exact Del.here | apply Del.there)))) (by repeat (first | exact trivial | refine And.intro (by repeat (first | exact Mem.here | apply Mem.there)) ?_))
      · try replace h1 := of_decide_eq_false h1
        refine Jc.exit ?_
        refine Jq.thenX ?_
        refine Jq.thenX ?_
        refine Jq.blkX ?_
        refine Jq.thenN ?_
        refine Jc.mid (σ := Unit) (fun _ => [(19, .bool b.kps[i].may), (1, .int .i64 (i : Int)), (8, ptr b8), (10, ptr b10), (12, ptr b12), (13, .int .i64 (if b.kps[i].may = true then 0 else 190)), (15, .int .i64 190)]) (fun _ => [.blk b12 30 (g.cs ((M3, m3), (I3, i3), (K3, k3))), .blk b10 30 (f.cs ((M2, m2), (I2, i2), (K2, k2))), .blk b8 30 (d.cs ((M1, m1), (I1, i1), (K1, k1)))]) (fun _ => [.rd K1 (kpsV d.kps), .rd K2 (kpsV f.kps), .rd K3 (kpsV g.kps), .lim, .anames]) ?_ ?_
        · refine Jc.region ?_
          refine Jl.pv (PR.fieldAddr rfl tfl46_4) ?_
          refine Jl.pv (PR.load1 rfl tsh5 (by repeat (first | exact Has.here | apply Has.there)) (by rfl)) ?_
          refine Jl.pv (PR.eql (a := (b.kps[i].ph.toNat : Int)) (b := 1) (decide (b.kps[i].ph.toNat = 1)) rfl rfl (by rw [decide_eq_decide]; omega)) ?_
          refine Jl.pv (PR.move rfl) ?_
          refine Jl.bsplit (fun g191 => ?_) (fun g191 => ?_)
          · try replace g191 := of_decide_eq_true g191
            refine Jl.offS rfl rfl rfl ?_
            refine Jl.offS rfl rfl rfl ?_
            refine Jl.offS rfl rfl rfl ?_
            refine Jl.pv (PR.pickT rfl rfl) ?_
            refine Jl.pv (PR.move rfl) ?_
            refine Jl.on rfl rfl ?_
            refine Jl.pv (PR.fieldAddr rfl tfl46_7) ?_
            refine Jl.on rfl rfl ?_
            refine Jl.pv (PR.load1 rfl tsh4 (by repeat (first | exact Has.here | apply Has.there)) (by rfl)) ?_
            refine Jl.on rfl rfl ?_
            refine Jl.pv (PR.not rfl) ?_
            refine Jl.pv (PR.pickT rfl rfl) ?_
            refine Jl.pv (PR.assign rfl) ?_
            refine Jl.nil ?_
            exact Jq.midT () (by exact ⟨congrArg (fun v => some (Value.bool v)) (by simp_all [Kp.may, Kp.held]), rfl, rfl, rfl, rfl, rfl, rfl, trivial⟩) (by repeat (first | exact Take.nil | apply Take.cons (by repeat (first | exact Del.here | apply Del.there)))) (by repeat (first | exact trivial | refine And.intro (by repeat (first | exact Mem.here | apply Mem.there)) ?_))
          · try replace g191 := of_decide_eq_false g191
            refine Jl.on rfl rfl ?_
            refine Jl.pv (PR.fieldAddr rfl tfl46_4) ?_
            refine Jl.on rfl rfl ?_
            refine Jl.pv (PR.load1 rfl tsh5 (by repeat (first | exact Has.here | apply Has.there)) (by rfl)) ?_
            refine Jl.on rfl rfl ?_
            refine Jl.pv (PR.eql (a := (b.kps[i].ph.toNat : Int)) (b := 7) (decide (b.kps[i].ph.toNat = 7)) rfl rfl (by rw [decide_eq_decide]; omega)) ?_
            refine Jl.pv (PR.pickF rfl rfl) ?_
            refine Jl.pv (PR.move rfl) ?_
            refine Jl.bsplit (fun g196 => ?_) (fun g196 => ?_)
            · try replace g196 := of_decide_eq_true g196
              refine Jl.on rfl rfl ?_
              refine Jl.pv (PR.fieldAddr rfl tfl46_7) ?_
              refine Jl.on rfl rfl ?_
              refine Jl.pv (PR.load1 rfl tsh4 (by repeat (first | exact Has.here | apply Has.there)) (by rfl)) ?_
              refine Jl.on rfl rfl ?_
              refine Jl.pv (PR.not rfl) ?_
              refine Jl.pv (PR.pickT rfl rfl) ?_
              refine Jl.pv (PR.assign rfl) ?_
              refine Jl.nil ?_
              exact Jq.midT () (by exact ⟨congrArg (fun v => some (Value.bool v)) (by simp_all [Kp.may, Kp.held]), rfl, rfl, rfl, rfl, rfl, rfl, trivial⟩) (by repeat (first | exact Take.nil | apply Take.cons (by repeat (first | exact Del.here | apply Del.there)))) (by repeat (first | exact trivial | refine And.intro (by repeat (first | exact Mem.here | apply Mem.there)) ?_))
            · try replace g196 := of_decide_eq_false g196
              refine Jl.offS rfl rfl rfl ?_
              refine Jl.offS rfl rfl rfl ?_
              refine Jl.offS rfl rfl rfl ?_
              refine Jl.pv (PR.pickF rfl rfl) ?_
              refine Jl.pv (PR.assign rfl) ?_
              refine Jl.nil ?_
              exact Jq.midT () (by exact ⟨congrArg (fun v => some (Value.bool v)) (by simp_all [Kp.may, Kp.held]), rfl, rfl, rfl, rfl, rfl, rfl, trivial⟩) (by repeat (first | exact Take.nil | apply Take.cons (by repeat (first | exact Del.here | apply Del.there)))) (by repeat (first | exact trivial | refine And.intro (by repeat (first | exact Mem.here | apply Mem.there)) ?_))
        · rintro ⟨⟩
          refine Jc.seq ?_
          refine Jc.region ?_
          refine Jl.pv (PR.fieldAddr rfl tfl30_5) ?_
          refine Jl.pv (PR.load1 rfl tsh26 (by repeat (first | exact Has.here | apply Has.there)) (by rfl)) ?_
          refine Jl.pv (PR.move rfl) ?_
          refine Jl.pv (PR.idx i rfl rfl tsl26 (by repeat (first | exact Mem.here | apply Mem.there)) (kpsV_len _) (by omega) rfl hdi) ?_
          refine Jl.pv (PR.fieldAddrR rfl tfl46_6 (by repeat (first | exact Mem.here | apply Mem.there)) (by omega)) ?_
          refine Jl.pv (PR.loadR rfl tsh4 (by repeat (first | exact Mem.here | apply Mem.there)) (kps_f hdi 6 rfl)) ?_
          refine Jl.as (.bool true) (congrArg Value.bool hdg) ?_
          refine Jl.pv (PR.move rfl) ?_
          refine Jl.on rfl rfl ?_
          refine Jl.pv (PR.fieldAddr rfl tfl30_5) ?_
          refine Jl.on rfl rfl ?_
          refine Jl.pv (PR.load1 rfl tsh26 (by repeat (first | exact Has.here | apply Has.there)) (by rfl)) ?_
          refine Jl.on rfl rfl ?_
          refine Jl.pv (PR.move rfl) ?_
          refine Jl.on rfl rfl ?_
          refine Jl.pv (PR.idx i rfl rfl tsl26 (by repeat (first | exact Mem.here | apply Mem.there)) (kpsV_len _) (by omega) rfl hfi) ?_
          refine Jl.on rfl rfl ?_
          refine Jl.pv (PR.fieldAddrR rfl tfl46_6 (by repeat (first | exact Mem.here | apply Mem.there)) (by omega)) ?_
          refine Jl.on rfl rfl ?_
          refine Jl.pv (PR.loadR rfl tsh4 (by repeat (first | exact Mem.here | apply Mem.there)) (kps_f hfi 6 rfl)) ?_
          refine Jl.as (.bool false) (congrArg Value.bool hfg) ?_
          refine Jl.on rfl rfl ?_
          refine Jl.pv (PR.not rfl) ?_
          refine Jl.pv (PR.pickT rfl rfl) ?_
          refine Jl.pv (PR.move rfl) ?_
          refine Jl.on rfl rfl ?_
          refine Jl.pv (PR.move rfl) ?_
          refine Jl.on rfl rfl ?_
          refine Jl.pv (PR.eql b.kps[i].may rfl rfl (by cases b.kps[i].may <;> rfl)) ?_
          refine Jl.on rfl rfl ?_
          refine Jl.pv (PR.move rfl) ?_
          refine Jl.on rfl rfl ?_
          refine Jl.pv (PR.beql true Tryd.underlying4 rfl rfl (by cases b.kps[i].may <;> rfl)) ?_
          refine Jl.pv (PR.pickT rfl rfl) ?_
          refine Jl.pv (PR.move rfl) ?_
          refine Jl.on rfl rfl ?_
          refine Jl.pv (PR.move rfl) ?_
          refine Jl.on rfl rfl ?_
          refine Jl.pv (PR.eql b.kps[i].may rfl rfl (by cases b.kps[i].may <;> rfl)) ?_
          refine Jl.on rfl rfl ?_
          refine Jl.pv (PR.move rfl) ?_
          refine Jl.bsplit (fun g225 => ?_) (fun g225 => ?_)
          · try replace g225 := of_decide_eq_true g225
            refine Jl.offS rfl rfl rfl ?_
            refine Jl.offS rfl rfl rfl ?_
            refine Jl.on rfl rfl ?_
            refine Jl.pv (PR.pickT rfl rfl) ?_
            refine Jl.pv (PR.pickT rfl rfl) ?_
            refine Jl.pv (PR.move rfl) ?_
            refine Jl.on rfl rfl ?_
            refine Jl.pv (PR.move rfl) ?_
            refine Jl.on rfl rfl ?_
            refine Jl.pv (PR.not rfl) ?_
            refine Jl.on rfl rfl ?_
            refine Jl.pv (PR.move rfl) ?_
            refine Jl.bsplit (fun g233 => ?_) (fun g233 => ?_)
            · try replace g233 := of_decide_eq_true g233
              refine Jl.offS rfl rfl rfl ?_
              refine Jl.offS rfl rfl rfl ?_
              refine Jl.offS rfl rfl rfl ?_
              refine Jl.offS rfl rfl rfl ?_
              refine Jl.offS rfl rfl rfl ?_
              refine Jl.offS rfl rfl rfl ?_
              refine Jl.on rfl rfl ?_
              refine Jl.pv (PR.pickT rfl rfl) ?_
              refine Jl.pv (PR.pickT rfl rfl) ?_
              refine Jl.pv (PR.move rfl) ?_
              refine Jl.on rfl rfl ?_
              refine Jl.pv (PR.move rfl) ?_
              refine Jl.on rfl rfl ?_
              refine Jl.pv (PR.eql true rfl rfl (by decide)) ?_
              refine Jl.pv (PR.pickT rfl rfl) ?_
              refine Jl.pv (PR.move rfl) ?_
              refine Jl.on rfl rfl ?_
              refine Jl.call awakes_ct en8 (by rfl) (by repeat (first | exact Take.nil | apply Take.cons (by repeat (first | exact Del.here | apply Del.there)))) (by repeat (first | exact trivial | refine And.intro (by repeat (first | exact Mem.here | apply Mem.there)) ?_)) ?_
              rintro ⟨⟩
              refine Jl.pv (PR.pickT rfl rfl) ?_
              refine Jl.pv (PR.assign rfl) ?_
              refine Jl.nil ?_
              refine Jq.thenN ?_
              refine Jc.ret ?_
              exact Jq.fin () (.inl rfl) rfl (RetVs.tmp rfl RetVs.nil) rfl (by repeat (first | exact Take.nil | apply Take.cons (by repeat (first | exact Del.here | apply Del.there)))) (by repeat (first | exact trivial | refine And.intro (by repeat (first | exact Mem.here | apply Mem.there)) ?_))
            · try replace g233 := of_decide_eq_false g233
              refine Jl.on rfl rfl ?_
              refine Jl.pv (PR.fieldAddr rfl tfl30_5) ?_
              refine Jl.on rfl rfl ?_
              refine Jl.pv (PR.load1 rfl tsh26 (by repeat (first | exact Has.here | apply Has.there)) (by rfl)) ?_
              refine Jl.on rfl rfl ?_
              refine Jl.pv (PR.move rfl) ?_
              refine Jl.on rfl rfl ?_
              refine Jl.pv (PR.idx i rfl rfl tsl26 (by repeat (first | exact Mem.here | apply Mem.there)) (kpsV_len _) (by omega) rfl hgi) ?_
              refine Jl.on rfl rfl ?_
              refine Jl.pv (PR.fieldAddrR rfl tfl46_7 (by repeat (first | exact Mem.here | apply Mem.there)) (by omega)) ?_
              refine Jl.on rfl rfl ?_
              refine Jl.pv (PR.loadR rfl tsh4 (by repeat (first | exact Mem.here | apply Mem.there)) (kps_f hgi 7 rfl)) ?_
              refine Jl.as (.bool true) (congrArg Value.bool (hgc (by simpa using g233))) ?_
              refine Jl.on rfl rfl ?_
              refine Jl.pv (PR.pickF rfl rfl) ?_
              refine Jl.pv (PR.pickT rfl rfl) ?_
              refine Jl.pv (PR.move rfl) ?_
              refine Jl.on rfl rfl ?_
              refine Jl.pv (PR.move rfl) ?_
              refine Jl.on rfl rfl ?_
              refine Jl.pv (PR.eql true rfl rfl (by decide)) ?_
              refine Jl.pv (PR.pickT rfl rfl) ?_
              refine Jl.pv (PR.move rfl) ?_
              refine Jl.on rfl rfl ?_
              refine Jl.call awakes_ct en8 (by rfl) (by repeat (first | exact Take.nil | apply Take.cons (by repeat (first | exact Del.here | apply Del.there)))) (by repeat (first | exact trivial | refine And.intro (by repeat (first | exact Mem.here | apply Mem.there)) ?_)) ?_
              rintro ⟨⟩
              refine Jl.pv (PR.pickT rfl rfl) ?_
              refine Jl.pv (PR.assign rfl) ?_
              refine Jl.nil ?_
              refine Jq.thenN ?_
              refine Jc.ret ?_
              exact Jq.fin () (.inl rfl) rfl (RetVs.tmp rfl RetVs.nil) rfl (by repeat (first | exact Take.nil | apply Take.cons (by repeat (first | exact Del.here | apply Del.there)))) (by repeat (first | exact trivial | refine And.intro (by repeat (first | exact Mem.here | apply Mem.there)) ?_))
          · try replace g225 := of_decide_eq_false g225
            refine Jl.on rfl rfl ?_
            refine Jl.pv (PR.move rfl) ?_
            refine Jl.on rfl rfl ?_
            refine Jl.pv (PR.eql true rfl rfl (by rw [g225]; rfl)) ?_
            refine Jl.on rfl rfl ?_
            refine Jl.pv (PR.pickF rfl rfl) ?_
            refine Jl.pv (PR.pickT rfl rfl) ?_
            refine Jl.pv (PR.move rfl) ?_
            refine Jl.on rfl rfl ?_
            refine Jl.pv (PR.move rfl) ?_
            refine Jl.on rfl rfl ?_
            refine Jl.pv (PR.not rfl) ?_
            refine Jl.on rfl rfl ?_
            refine Jl.pv (PR.move rfl) ?_
            refine Jl.bsplit (fun g233 => ?_) (fun g233 => ?_)
            · try replace g233 := of_decide_eq_true g233
              refine Jl.offS rfl rfl rfl ?_
              refine Jl.offS rfl rfl rfl ?_
              refine Jl.offS rfl rfl rfl ?_
              refine Jl.offS rfl rfl rfl ?_
              refine Jl.offS rfl rfl rfl ?_
              refine Jl.offS rfl rfl rfl ?_
              refine Jl.on rfl rfl ?_
              refine Jl.pv (PR.pickT rfl rfl) ?_
              refine Jl.pv (PR.pickT rfl rfl) ?_
              refine Jl.pv (PR.move rfl) ?_
              refine Jl.on rfl rfl ?_
              refine Jl.pv (PR.move rfl) ?_
              refine Jl.on rfl rfl ?_
              refine Jl.pv (PR.eql true rfl rfl (by decide)) ?_
              refine Jl.pv (PR.pickT rfl rfl) ?_
              refine Jl.pv (PR.move rfl) ?_
              refine Jl.on rfl rfl ?_
              refine Jl.call awakes_ct en8 (by rfl) (by repeat (first | exact Take.nil | apply Take.cons (by repeat (first | exact Del.here | apply Del.there)))) (by repeat (first | exact trivial | refine And.intro (by repeat (first | exact Mem.here | apply Mem.there)) ?_)) ?_
              rintro ⟨⟩
              refine Jl.pv (PR.pickT rfl rfl) ?_
              refine Jl.pv (PR.assign rfl) ?_
              refine Jl.nil ?_
              refine Jq.thenN ?_
              refine Jc.ret ?_
              exact Jq.fin () (.inl rfl) rfl (RetVs.tmp rfl RetVs.nil) rfl (by repeat (first | exact Take.nil | apply Take.cons (by repeat (first | exact Del.here | apply Del.there)))) (by repeat (first | exact trivial | refine And.intro (by repeat (first | exact Mem.here | apply Mem.there)) ?_))
            · try replace g233 := of_decide_eq_false g233
              refine Jl.on rfl rfl ?_
              refine Jl.pv (PR.fieldAddr rfl tfl30_5) ?_
              refine Jl.on rfl rfl ?_
              refine Jl.pv (PR.load1 rfl tsh26 (by repeat (first | exact Has.here | apply Has.there)) (by rfl)) ?_
              refine Jl.on rfl rfl ?_
              refine Jl.pv (PR.move rfl) ?_
              refine Jl.on rfl rfl ?_
              refine Jl.pv (PR.idx i rfl rfl tsl26 (by repeat (first | exact Mem.here | apply Mem.there)) (kpsV_len _) (by omega) rfl hgi) ?_
              refine Jl.on rfl rfl ?_
              refine Jl.pv (PR.fieldAddrR rfl tfl46_7 (by repeat (first | exact Mem.here | apply Mem.there)) (by omega)) ?_
              refine Jl.on rfl rfl ?_
              refine Jl.pv (PR.loadR rfl tsh4 (by repeat (first | exact Mem.here | apply Mem.there)) (kps_f hgi 7 rfl)) ?_
              refine Jl.as (.bool true) (congrArg Value.bool (hgc (by simpa using g233))) ?_
              refine Jl.on rfl rfl ?_
              refine Jl.pv (PR.pickF rfl rfl) ?_
              refine Jl.pv (PR.pickT rfl rfl) ?_
              refine Jl.pv (PR.move rfl) ?_
              refine Jl.on rfl rfl ?_
              refine Jl.pv (PR.move rfl) ?_
              refine Jl.on rfl rfl ?_
              refine Jl.pv (PR.eql true rfl rfl (by decide)) ?_
              refine Jl.pv (PR.pickT rfl rfl) ?_
              refine Jl.pv (PR.move rfl) ?_
              refine Jl.on rfl rfl ?_
              refine Jl.call awakes_ct en8 (by rfl) (by repeat (first | exact Take.nil | apply Take.cons (by repeat (first | exact Del.here | apply Del.there)))) (by repeat (first | exact trivial | refine And.intro (by repeat (first | exact Mem.here | apply Mem.there)) ?_)) ?_
              rintro ⟨⟩
              refine Jl.pv (PR.pickT rfl rfl) ?_
              refine Jl.pv (PR.assign rfl) ?_
              refine Jl.nil ?_
              refine Jq.thenN ?_
              refine Jc.ret ?_
              exact Jq.fin () (.inl rfl) rfl (RetVs.tmp rfl RetVs.nil) rfl (by repeat (first | exact Take.nil | apply Take.cons (by repeat (first | exact Del.here | apply Del.there)))) (by repeat (first | exact trivial | refine And.intro (by repeat (first | exact Mem.here | apply Mem.there)) ?_))
end Go.Proofs.YtcppphgpbaablaaDoor
