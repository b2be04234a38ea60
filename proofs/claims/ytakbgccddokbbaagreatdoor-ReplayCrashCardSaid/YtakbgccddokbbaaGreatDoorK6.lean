import Derived.OpenShut
import Derived.ChangeSlices
import Derived.ChangeSame
import Derived.Below
import Derived.Deep.Slices
import Derived.Lib.SmallJoins
import Derived.LaidMore
import Derived.Stop.Joined
import Derived.MakeChecks
import Derived.Maps.StringElems
import Derived.Maps.OwnSet
import Derived.Test.YtakbgccddokbbaaGreatDoorRows
import Derived.Test.YtakbgccddokbbaaGreatDoorK5
set_option linter.unusedVariables false
namespace Go.Proofs.YtakbgccddokbbaaGreatDoor
open Go.RowKit
attribute [local irreducible] Res.blk Res.row Fact.rd
theorem manyN_adm {k : Nat} (h : admK k = true) : manyN k = dM k ∧ dT k = true := by
 simp only [admK, Bool.or_eq_true, decide_eq_true_eq] at h
 have ht : dT k = true := by simp only [dT, decide_eq_true_eq]; omega
 exact ⟨if_pos ht, ht⟩
abbrev Br.rws (b : Br) (z : BrA) : List Res := [b.rM z, b.rI z, b.rK z]
theorem rapply_no (b : Br) (z : BrA) (r : Rc) (x : AdC) (hn : b.its.length ≤ 1000000) (hm : b.kps.length ≤ 1000000) (hms : b.cf.ms.length ≤ 1000000) (hl : r.l.length ≤ 1000) (h : numsOk r.l = false ∨ (numsOk r.l = true ∧ r.k.toNat ≠ 2 ∧ manyN r.k.toNat ≠ r.l.length)) : Ct Tryz.prog 22 [b.v z, r.v x] [] (b.rd z ++ [.rd x.1 (i64s r.l)]) (fun y : BrA => b.v y) (fun y => b.rws y) (fun _ => []) := by
 obtain ⟨⟨M, cM⟩, ⟨I, cI⟩, ⟨K, cK⟩⟩ := z
 obtain ⟨L, cL⟩ := x
 rcases h with h | ⟨h, hk, hq⟩
 · skip
   refine Ct.of _ Tryz.func22 Tryz.ntmps22 rfl rfl (fun X W => ?_)
   refine Jc.qs<|Jc.qr ?_
   refine Jl.box rfl (by rfl) ?_
   intro b2
   refine Jl.box rfl (by rfl) ?_
   intro b3
   refine Jl.alloc tze38 ?_
   intro b4
   refine Jl.qn<|Jq.qt<|Jc.qs<|Jc.qr ?_
   refine Jl.pv (PR.loadW rfl tsh38 zH (by rfl)) ?_
   refine Jl.call (brown_ct b ((M, cM), (I, cI), (K, cK)) hn hm hms) en33 (by rfl) zT zF ?_
   rintro ⟨⟨A1, c1⟩, ⟨A2, c2⟩, ⟨A3, c3⟩⟩
   refine Jl.storeW rfl tsh38 rfl (by rfl) (by first | exact Br.cs_one _ _ | simp [Value.oneCell', Rc.cs]) zS (by rfl) ?_
   refine Jl.qn<|Jq.qt<|Jc.qs<|Jc.qs<|Jc.qr<|Jl.pv (PR.qf rfl tfl54_1) ?_
   refine Jl.pv (PR.load1 rfl tsh23 zH (by rfl)) ?_
   refine Jl.call (brnumbers_ct L cL r.l (by omega)) en38 (by rfl) zT zF ?_
   rintro ⟨⟩
   refine Jl.as (.bool false) (congrArg Value.bool h) ?_
   refine Jl.pv (PR.not rfl) ?_
   refine Jl.qn<|Jq.qt<|Jc.condT rfl<|Jc.qs<|Jc.qr ?_
   refine Jl.pv (PR.loadW rfl tsh38 zH (by rfl)) ?_
   refine Jl.storeW rfl tsh38 rfl (by rfl) (by first | exact Br.cs_one _ _ | simp [Value.oneCell', Rc.cs]) zS (by rfl) ?_
   refine Jl.qn<|Jq.qt<|Jc.ret<|Jq.thenR ?_
   exact Jq.fin ((A1, c1), (A2, c2), (A3, c3)) (.inl rfl) rfl (RetVs.cellA rfl zH tsh38 (by rfl) RetVs.nil) rfl zT zF
 · skip
   refine Ct.of _ Tryz.func22 Tryz.ntmps22 rfl rfl (fun X W => ?_)
   refine Jc.qs<|Jc.qr ?_
   refine Jl.box rfl (by rfl) ?_
   intro b2
   refine Jl.box rfl (by rfl) ?_
   intro b3
   refine Jl.alloc tze38 ?_
   intro b4
   refine Jl.qn<|Jq.qt<|Jc.qs<|Jc.qr ?_
   refine Jl.pv (PR.loadW rfl tsh38 zH (by rfl)) ?_
   refine Jl.call (brown_ct b ((M, cM), (I, cI), (K, cK)) hn hm hms) en33 (by rfl) zT zF ?_
   rintro ⟨⟨A1, c1⟩, ⟨A2, c2⟩, ⟨A3, c3⟩⟩
   refine Jl.storeW rfl tsh38 rfl (by rfl) (by first | exact Br.cs_one _ _ | simp [Value.oneCell', Rc.cs]) zS (by rfl) ?_
   refine Jl.qn<|Jq.qt<|Jc.qs<|Jc.qs<|Jc.qr<|Jl.pv (PR.qf rfl tfl54_1) ?_
   refine Jl.pv (PR.load1 rfl tsh23 zH (by rfl)) ?_
   refine Jl.call (brnumbers_ct L cL r.l (by omega)) en38 (by rfl) zT zF ?_
   rintro ⟨⟩
   refine Jl.as (.bool true) (congrArg Value.bool h) ?_
   refine Jl.pv (PR.not rfl) ?_
   refine Jl.qn<|Jq.qt<|Jc.condF rfl<|Jc.skip<|Jq.qt<|Jc.qs<|Jc.qs<|Jc.qr<|Jl.pv (PR.qf rfl tfl54_0) ?_
   refine Jl.pv (PR.load1 rfl tsh5 zH (by rfl)) ?_
   refine Jl.pv (PR.eql false rfl rfl (decide_eq_false (by omega))) ?_
   refine Jl.qn<|Jq.qt<|Jc.condF rfl<|Jc.skip<|Jq.qt<|Jc.qs<|Jc.qs ?_
   refine Jc.drawn [0, 1, 3, 0, 8, 24, 63] ([(6, false)], []) [⟨[(0, false), (1, false), (3, false), (4, false), (5, false)], [], 2⟩] tmx (by kernel_rfl) ?_
   refine Dh.JH.cons<|Dh.JB.pv rfl trivial (fun _ => PR.qf rfl tfl54_0) ?_
   refine Dh.JB.rd [.blk _ _ _] rfl trivial zT (fun _ => PR.load1 rfl tsh5 Has.here (by rfl)) ?_
   refine Dh.JB.pv rfl trivial (fun _ => PR.qf rfl tfl54_1) ?_
   refine Dh.JB.rd [.blk _ _ _] rfl trivial zT (fun _ => PR.load1 rfl tsh23 Has.here (by rfl)) ?_
   refine Dh.JB.pv rfl trivial (fun _ => PR.len rfl tsl23) ?_
   refine Dh.JB.nil<|Dh.JL.nil ?_
   refine Dh.JE.mk rfl (fun _ h => by cases h) (fun C12_2 => ?_)
   refine Jl.call (rbmany_ct r.k.toNat) en40 (by rfl) zT zF ?_
   rintro ⟨⟩
   refine Jl.qn ?_
   refine Dh.Jq.segV zX ?_ zK
   refine Dh.JH.nil ?_
   refine Dh.JB.pv rfl trivial (fun _ => PR.neq (a := (manyN r.k.toNat)) (b := (r.l.length : Int)) true rfl rfl (decide_eq_true hq)) ?_
   refine Dh.JB.nil<|Dh.JL.nil<|Jq.qt<|Jc.condT rfl<|Jc.qs<|Jc.qr ?_
   refine Jl.pv (PR.loadW rfl tsh38 zH (by rfl)) ?_
   refine Jl.storeW rfl tsh38 rfl (by rfl) (by first | exact Br.cs_one _ _ | simp [Value.oneCell', Rc.cs]) zS (by rfl) ?_
   refine Jl.qn<|Jq.qt<|Jc.ret<|Jq.thenR ?_
   exact Jq.fin ((A1, c1), (A2, c2), (A3, c3)) (.inl rfl) rfl (RetVs.cellA rfl zH tsh38 (by rfl) RetVs.nil) rfl zT zF
theorem rapply_group (b : Br) (z : BrA) (r : Rc) (x : AdC) (hn : b.its.length ≤ 1000000) (hm : b.kps.length ≤ 1000000) (hms : b.cf.ms.length ≤ 1000000) (hl : r.l.length ≤ 1000) (hc : r.l.length ≤ x.2) (h : numsOk r.l = true) (hk : r.k.toNat = 2) : Ct Tryz.prog 22 [b.v z, r.v x] [] (b.rd z ++ [.rd x.1 (i64s r.l)]) (fun y : BrA => (b.group r.l).v y) (fun y => (b.group r.l).rws y) (fun _ => []) := by
 obtain ⟨⟨M, cM⟩, ⟨I, cI⟩, ⟨K, cK⟩⟩ := z
 obtain ⟨L, cL⟩ := x
 by_cases he : cfE r.l = 0
 · by_cases hs : b.set = true
   · have e : b.group r.l = { b with cf := { cfOf r.l with ve := b.cf.ve }, set := true } := by rw [Br.group, if_pos he, if_pos hs]
     rw [e]
     refine Ct.of _ Tryz.func22 Tryz.ntmps22 rfl rfl (fun X W => ?_)
     refine Jc.qs<|Jc.qr ?_
     refine Jl.box rfl (by rfl) ?_
     intro b2
     refine Jl.box rfl (by rfl) ?_
     intro b3
     refine Jl.alloc tze38 ?_
     intro b4
     refine Jl.qn<|Jq.qt<|Jc.qs<|Jc.qr ?_
     refine Jl.pv (PR.loadW rfl tsh38 zH (by rfl)) ?_
     refine Jl.call (brown_ct b ((M, cM), (I, cI), (K, cK)) hn hm hms) en33 (by rfl) zT zF ?_
     rintro ⟨⟨A1, c1⟩, ⟨A2, c2⟩, ⟨A3, c3⟩⟩
     refine Jl.storeW rfl tsh38 rfl (by rfl) (by first | exact Br.cs_one _ _ | simp [Value.oneCell', Rc.cs, Cf.cs]) zS (by rfl) ?_
     refine Jl.qn<|Jq.qt<|Jc.qs<|Jc.qs<|Jc.qr<|Jl.pv (PR.qf rfl tfl54_1) ?_
     refine Jl.pv (PR.load1 rfl tsh23 zH (by rfl)) ?_
     refine Jl.call (brnumbers_ct L cL r.l (by omega)) en38 (by rfl) zT zF ?_
     rintro ⟨⟩
     refine Jl.as (.bool true) (congrArg Value.bool h) ?_
     refine Jl.pv (PR.not rfl) ?_
     refine Jl.qn<|Jq.qt<|Jc.condF rfl<|Jc.skip<|Jq.qt<|Jc.qs<|Jc.qs<|Jc.qr<|Jl.pv (PR.qf rfl tfl54_0) ?_
     refine Jl.pv (PR.load1 rfl tsh5 zH (by rfl)) ?_
     refine Jl.pv (PR.eql true rfl rfl (decide_eq_true (by omega))) ?_
     refine Jl.qn<|Jq.qt<|Jc.condT rfl<|Jc.qs<|Jc.qr<|Jl.pv (PR.qf rfl tfl54_1) ?_
     refine Jl.pv (PR.load1 rfl tsh23 zH (by rfl)) ?_
     refine Jl.call (rof_ct L cL r.l hl hc) en39 (by rfl) zT zF ?_
     rintro ⟨A20, c20⟩
     refine Jl.pv (PR.qm rfl) ?_
     refine Jl.pv (PR.extract rfl (by rfl)) ?_
     refine Jl.pv (PR.extract rfl (by rfl)) ?_
     refine Jl.alloc tze32 ?_
     intro b5
     refine Jl.storeW rfl tsh32 rfl (by rfl) (by first | exact Br.cs_one _ _ | simp [Value.oneCell', Rc.cs, Cf.cs]) zS (by rfl) ?_
     refine Jl.pv (PR.qa rfl)<|Jl.qn<|Jq.qt<|Jc.qs<|Jc.qs<|Jc.qr<|Jl.pv (PR.qm rfl) ?_
     refine Jl.pv (PR.eql true rfl rfl (by rw [he]; rfl)) ?_
     refine Jl.qn<|Jq.qt<|Jc.condT rfl<|Jc.qs<|Jc.qs<|Jc.qr<|Jl.pv (PR.qf rfl tfl38_2) ?_
     refine Jl.pv (PR.load1 rfl tsh4 zH (by rfl)) ?_
     refine Jl.as (.bool true) (congrArg Value.bool hs) ?_
     refine Jl.qn<|Jq.qt<|Jc.condT rfl<|Jc.qr<|Jl.pv (PR.qf rfl tfl38_3)<|Jl.pv (PR.qf rfl tfl32_12) ?_
     refine Jl.pv (PR.load1 rfl tsh3 zH (by rfl)) ?_
     refine Jl.pv (PR.qf rfl tfl32_12) ?_
     refine Jl.store1 rfl tsh3 rfl (by rfl) zS (by rfl) ?_
     refine Jl.qn<|Jq.qt<|Jc.qs<|Jc.qr ?_
     refine Jl.pv (PR.loadW rfl tsh32 zH (by rfl)) ?_
     refine Jl.pv (PR.qf rfl tfl38_3) ?_
     refine Jl.storeA rfl tsh32 rfl (by rfl) (by first | exact Br.cs_one _ _ | simp [Value.oneCell', Rc.cs, Cf.cs]) zS (by rfl) ?_
     refine Jl.qn<|Jq.qt<|Jc.qr<|Jl.pv (PR.qf rfl tfl38_2) ?_
     refine Jl.store1 rfl tsh4 rfl (by rfl) zS (by rfl) ?_
     refine Jl.qn<|Jq.qt<|Jc.qs<|Jc.qr ?_
     refine Jl.pv (PR.loadW rfl tsh38 zH (by rfl)) ?_
     refine Jl.storeW rfl tsh38 rfl (by rfl) (by first | exact Br.cs_one _ _ | simp [Value.oneCell', Rc.cs, Cf.cs]) zS (by rfl) ?_
     refine Jl.qn<|Jq.qt<|Jc.ret<|Jq.thenR ?_
     exact Jq.fin ((A20, c20), (A2, c2), (A3, c3)) (.inl rfl) rfl (RetVs.cellA rfl zH tsh38 (by rfl) RetVs.nil) rfl zT zF
   · have e : b.group r.l = { b with cf := cfOf r.l, set := true } := by rw [Br.group, if_pos he, if_neg hs]
     rw [e]
     refine Ct.of _ Tryz.func22 Tryz.ntmps22 rfl rfl (fun X W => ?_)
     refine Jc.qs<|Jc.qr ?_
     refine Jl.box rfl (by rfl) ?_
     intro b2
     refine Jl.box rfl (by rfl) ?_
     intro b3
     refine Jl.alloc tze38 ?_
     intro b4
     refine Jl.qn<|Jq.qt<|Jc.qs<|Jc.qr ?_
     refine Jl.pv (PR.loadW rfl tsh38 zH (by rfl)) ?_
     refine Jl.call (brown_ct b ((M, cM), (I, cI), (K, cK)) hn hm hms) en33 (by rfl) zT zF ?_
     rintro ⟨⟨A1, c1⟩, ⟨A2, c2⟩, ⟨A3, c3⟩⟩
     refine Jl.storeW rfl tsh38 rfl (by rfl) (by first | exact Br.cs_one _ _ | simp [Value.oneCell', Rc.cs, Cf.cs]) zS (by rfl) ?_
     refine Jl.qn<|Jq.qt<|Jc.qs<|Jc.qs<|Jc.qr<|Jl.pv (PR.qf rfl tfl54_1) ?_
     refine Jl.pv (PR.load1 rfl tsh23 zH (by rfl)) ?_
     refine Jl.call (brnumbers_ct L cL r.l (by omega)) en38 (by rfl) zT zF ?_
     rintro ⟨⟩
     refine Jl.as (.bool true) (congrArg Value.bool h) ?_
     refine Jl.pv (PR.not rfl) ?_
     refine Jl.qn<|Jq.qt<|Jc.condF rfl<|Jc.skip<|Jq.qt<|Jc.qs<|Jc.qs<|Jc.qr<|Jl.pv (PR.qf rfl tfl54_0) ?_
     refine Jl.pv (PR.load1 rfl tsh5 zH (by rfl)) ?_
     refine Jl.pv (PR.eql true rfl rfl (decide_eq_true (by omega))) ?_
     refine Jl.qn<|Jq.qt<|Jc.condT rfl<|Jc.qs<|Jc.qr<|Jl.pv (PR.qf rfl tfl54_1) ?_
     refine Jl.pv (PR.load1 rfl tsh23 zH (by rfl)) ?_
     refine Jl.call (rof_ct L cL r.l hl hc) en39 (by rfl) zT zF ?_
     rintro ⟨A20, c20⟩
     refine Jl.pv (PR.qm rfl) ?_
     refine Jl.pv (PR.extract rfl (by rfl)) ?_
     refine Jl.pv (PR.extract rfl (by rfl)) ?_
     refine Jl.alloc tze32 ?_
     intro b5
     refine Jl.storeW rfl tsh32 rfl (by rfl) (by first | exact Br.cs_one _ _ | simp [Value.oneCell', Rc.cs, Cf.cs]) zS (by rfl) ?_
     refine Jl.pv (PR.qa rfl)<|Jl.qn<|Jq.qt<|Jc.qs<|Jc.qs<|Jc.qr<|Jl.pv (PR.qm rfl) ?_
     refine Jl.pv (PR.eql true rfl rfl (by rw [he]; rfl)) ?_
     refine Jl.qn<|Jq.qt<|Jc.condT rfl<|Jc.qs<|Jc.qs<|Jc.qr<|Jl.pv (PR.qf rfl tfl38_2) ?_
     refine Jl.pv (PR.load1 rfl tsh4 zH (by rfl)) ?_
     refine Jl.as (.bool false) (congrArg Value.bool (by simpa using hs)) ?_
     refine Jl.qn<|Jq.qt<|Jc.condF rfl<|Jc.skip<|Jq.qt<|Jc.qs<|Jc.qr ?_
     refine Jl.pv (PR.loadW rfl tsh32 zH (by rfl)) ?_
     refine Jl.pv (PR.qf rfl tfl38_3) ?_
     refine Jl.storeA rfl tsh32 rfl (by rfl) (by first | exact Br.cs_one _ _ | simp [Value.oneCell', Rc.cs, Cf.cs]) zS (by rfl) ?_
     refine Jl.qn<|Jq.qt<|Jc.qr<|Jl.pv (PR.qf rfl tfl38_2) ?_
     refine Jl.store1 rfl tsh4 rfl (by rfl) zS (by rfl) ?_
     refine Jl.qn<|Jq.qt<|Jc.qs<|Jc.qr ?_
     refine Jl.pv (PR.loadW rfl tsh38 zH (by rfl)) ?_
     refine Jl.storeW rfl tsh38 rfl (by rfl) (by first | exact Br.cs_one _ _ | simp [Value.oneCell', Rc.cs, Cf.cs]) zS (by rfl) ?_
     refine Jl.qn<|Jq.qt<|Jc.ret<|Jq.thenR ?_
     exact Jq.fin ((A20, c20), (A2, c2), (A3, c3)) (.inl rfl) rfl (RetVs.cellA rfl zH tsh38 (by rfl) RetVs.nil) rfl zT zF
 · rw [show b.group r.l = b by rw [Br.group, if_neg he]]
   refine Ct.of _ Tryz.func22 Tryz.ntmps22 rfl rfl (fun X W => ?_)
   refine Jc.qs<|Jc.qr ?_
   refine Jl.box rfl (by rfl) ?_
   intro b2
   refine Jl.box rfl (by rfl) ?_
   intro b3
   refine Jl.alloc tze38 ?_
   intro b4
   refine Jl.qn<|Jq.qt<|Jc.qs<|Jc.qr ?_
   refine Jl.pv (PR.loadW rfl tsh38 zH (by rfl)) ?_
   refine Jl.call (brown_ct b ((M, cM), (I, cI), (K, cK)) hn hm hms) en33 (by rfl) zT zF ?_
   rintro ⟨⟨A1, c1⟩, ⟨A2, c2⟩, ⟨A3, c3⟩⟩
   refine Jl.storeW rfl tsh38 rfl (by rfl) (by first | exact Br.cs_one _ _ | simp [Value.oneCell', Rc.cs, Cf.cs]) zS (by rfl) ?_
   refine Jl.qn<|Jq.qt<|Jc.qs<|Jc.qs<|Jc.qr<|Jl.pv (PR.qf rfl tfl54_1) ?_
   refine Jl.pv (PR.load1 rfl tsh23 zH (by rfl)) ?_
   refine Jl.call (brnumbers_ct L cL r.l (by omega)) en38 (by rfl) zT zF ?_
   rintro ⟨⟩
   refine Jl.as (.bool true) (congrArg Value.bool h) ?_
   refine Jl.pv (PR.not rfl) ?_
   refine Jl.qn<|Jq.qt<|Jc.condF rfl<|Jc.skip<|Jq.qt<|Jc.qs<|Jc.qs<|Jc.qr<|Jl.pv (PR.qf rfl tfl54_0) ?_
   refine Jl.pv (PR.load1 rfl tsh5 zH (by rfl)) ?_
   refine Jl.pv (PR.eql true rfl rfl (decide_eq_true (by omega))) ?_
   refine Jl.qn<|Jq.qt<|Jc.condT rfl<|Jc.qs<|Jc.qr<|Jl.pv (PR.qf rfl tfl54_1) ?_
   refine Jl.pv (PR.load1 rfl tsh23 zH (by rfl)) ?_
   refine Jl.call (rof_ct L cL r.l hl hc) en39 (by rfl) zT zF ?_
   rintro ⟨A20, c20⟩
   refine Jl.pv (PR.qm rfl) ?_
   refine Jl.pv (PR.extract rfl (by rfl)) ?_
   refine Jl.pv (PR.extract rfl (by rfl)) ?_
   refine Jl.alloc tze32 ?_
   intro b5
   refine Jl.storeW rfl tsh32 rfl (by rfl) (by first | exact Br.cs_one _ _ | simp [Value.oneCell', Rc.cs, Cf.cs]) zS (by rfl) ?_
   refine Jl.pv (PR.qa rfl)<|Jl.qn<|Jq.qt<|Jc.qs<|Jc.qs<|Jc.qr<|Jl.pv (PR.qm rfl) ?_
   refine Jl.pv (PR.eql false rfl rfl (decide_eq_false he)) ?_
   refine Jl.qn<|Jq.qt<|Jc.condF rfl<|Jc.skip<|Jq.qt<|Jc.qs<|Jc.qr ?_
   refine Jl.pv (PR.loadW rfl tsh38 zH (by rfl)) ?_
   refine Jl.storeW rfl tsh38 rfl (by rfl) (by first | exact Br.cs_one _ _ | simp [Value.oneCell', Rc.cs, Cf.cs]) zS (by rfl) ?_
   refine Jl.qn<|Jq.qt<|Jc.ret<|Jq.thenR ?_
   exact Jq.fin ((A1, c1), (A2, c2), (A3, c3)) (.inl rfl) rfl (RetVs.cellA rfl zH tsh38 (by rfl) RetVs.nil) rfl zT zF
theorem rapply_inst (b T : Br) (z : BrA) (r : Rc) (x : AdC) (hn : b.its.length ≤ 1000000) (hm : b.kps.length ≤ 1000000) (hms : b.cf.ms.length ≤ 1000000) (hl : r.l.length ≤ 1000) (h : numsOk r.l = true) (hk : r.k.toNat = 9 ∨ r.k.toNat = 10) (hq : manyN r.k.toNat = r.l.length)
 (hct : ∀ z, Ct Tryz.prog 42 [b.v z, .int .u8 r.k.toNat, .slice x.1 r.l.length x.2] (b.rws z) [.rd x.1 (i64s r.l)] (fun _ : Unit => T.v z) (fun _ => T.rws z) (fun _ => [])) :
 Ct Tryz.prog 22 [b.v z, r.v x] [] (b.rd z ++ [.rd x.1 (i64s r.l)]) (fun y : BrA => T.v y) (fun y => T.rws y) (fun _ => []) := by
 obtain ⟨⟨M, cM⟩, ⟨I, cI⟩, ⟨K, cK⟩⟩ := z
 obtain ⟨L, cL⟩ := x
 rcases hk with hk | hk
 · skip
   refine Ct.of _ Tryz.func22 Tryz.ntmps22 rfl rfl (fun X W => ?_)
   refine Jc.qs<|Jc.qr ?_
   refine Jl.box rfl (by rfl) ?_
   intro b2
   refine Jl.box rfl (by rfl) ?_
   intro b3
   refine Jl.alloc tze38 ?_
   intro b4
   refine Jl.qn<|Jq.qt<|Jc.qs<|Jc.qr ?_
   refine Jl.pv (PR.loadW rfl tsh38 zH (by rfl)) ?_
   refine Jl.call (brown_ct b ((M, cM), (I, cI), (K, cK)) hn hm hms) en33 (by rfl) zT zF ?_
   rintro ⟨⟨A1, c1⟩, ⟨A2, c2⟩, ⟨A3, c3⟩⟩
   refine Jl.storeW rfl tsh38 rfl (by rfl) (by first | exact Br.cs_one _ _ | simp [Value.oneCell', Rc.cs]) zS (by rfl) ?_
   refine Jl.qn<|Jq.qt<|Jc.qs<|Jc.qs<|Jc.qr<|Jl.pv (PR.qf rfl tfl54_1) ?_
   refine Jl.pv (PR.load1 rfl tsh23 zH (by rfl)) ?_
   refine Jl.call (brnumbers_ct L cL r.l (by omega)) en38 (by rfl) zT zF ?_
   rintro ⟨⟩
   refine Jl.as (.bool true) (congrArg Value.bool h) ?_
   refine Jl.pv (PR.not rfl) ?_
   refine Jl.qn<|Jq.qt<|Jc.condF rfl<|Jc.skip<|Jq.qt<|Jc.qs<|Jc.qs<|Jc.qr<|Jl.pv (PR.qf rfl tfl54_0) ?_
   refine Jl.pv (PR.load1 rfl tsh5 zH (by rfl)) ?_
   refine Jl.pv (PR.eql false rfl rfl (decide_eq_false (by omega))) ?_
   refine Jl.qn<|Jq.qt<|Jc.condF rfl<|Jc.skip<|Jq.qt<|Jc.qs<|Jc.qs ?_
   refine Jc.drawn [0, 1, 3, 0, 8, 24, 63] ([(6, false)], []) [⟨[(0, false), (1, false), (3, false), (4, false), (5, false)], [], 2⟩] tmx (by kernel_rfl) ?_
   refine Dh.JH.cons<|Dh.JB.pv rfl trivial (fun _ => PR.qf rfl tfl54_0) ?_
   refine Dh.JB.rd [.blk _ _ _] rfl trivial zT (fun _ => PR.load1 rfl tsh5 Has.here (by rfl)) ?_
   refine Dh.JB.pv rfl trivial (fun _ => PR.qf rfl tfl54_1) ?_
   refine Dh.JB.rd [.blk _ _ _] rfl trivial zT (fun _ => PR.load1 rfl tsh23 Has.here (by rfl)) ?_
   refine Dh.JB.pv rfl trivial (fun _ => PR.len rfl tsl23) ?_
   refine Dh.JB.nil<|Dh.JL.nil ?_
   refine Dh.JE.mk rfl (fun _ h => by cases h) (fun C12_2 => ?_)
   refine Jl.call (rbmany_ct r.k.toNat) en40 (by rfl) zT zF ?_
   rintro ⟨⟩
   refine Jl.qn ?_
   refine Dh.Jq.segV zX ?_ zK
   refine Dh.JH.nil ?_
   refine Dh.JB.pv rfl trivial (fun _ => PR.neq (a := (manyN r.k.toNat)) (b := (r.l.length : Int)) false rfl rfl (decide_eq_false (fun h => h hq))) ?_
   refine Dh.JB.nil<|Dh.JL.nil<|Jq.qt<|Jc.condF rfl<|Jc.skip<|Jq.qt<|Jc.qs<|Jc.qs<|Jc.qr<|Jl.pv (PR.qf rfl tfl54_0) ?_
   refine Jl.pv (PR.load1 rfl tsh5 zH (by rfl)) ?_
   refine Jl.qn<|Jq.qt ?_
   refine Jc.block ?_
   refine Jc.qs<|Jc.qr ?_
   refine Jl.pv (PR.eql false rfl rfl (decide_eq_false (by omega))) ?_
   refine Jl.pv (PR.qa rfl)<|Jl.qn<|Jq.qt<|Jc.condF rfl<|Jc.qs<|Jc.qr ?_
   refine Jl.pv (PR.eql false rfl rfl (decide_eq_false (by omega))) ?_
   refine Jl.pv (PR.qa rfl)<|Jl.qn<|Jq.qt<|Jc.condF rfl<|Jc.qs<|Jc.qr ?_
   refine Jl.pv (PR.eql false rfl rfl (decide_eq_false (by omega))) ?_
   refine Jl.pv (PR.qa rfl)<|Jl.qn<|Jq.qt<|Jc.condF rfl<|Jc.qs<|Jc.qs<|Jc.qr ?_
   refine Jl.pv (PR.eql false rfl rfl (decide_eq_false (by omega))) ?_
   refine Jl.pv (PR.qa rfl)<|Jl.qn<|Jq.qt<|Jc.condF rfl<|Jc.qs<|Jc.qr ?_
   refine Jl.pv (PR.eql false rfl rfl (decide_eq_false (by omega))) ?_
   refine Jl.pv (PR.qa rfl)<|Jl.qn<|Jq.qt<|Jc.condF rfl<|Jc.qs<|Jc.qr ?_
   refine Jl.pv (PR.eql false rfl rfl (decide_eq_false (by omega))) ?_
   refine Jl.pv (PR.qa rfl)<|Jl.qn<|Jq.qt<|Jc.condF rfl<|Jc.qs<|Jc.qr ?_
   refine Jl.pv (PR.eql true rfl rfl (decide_eq_true (by omega))) ?_
   refine Jl.pv (PR.qa rfl)<|Jl.qn<|Jq.qt<|Jc.condT rfl<|Jc.skip<|Jq.qt<|Jc.condT rfl<|Jc.qs<|Jc.qr ?_
   refine Jl.pv (PR.loadW rfl tsh38 zH (by rfl)) ?_
   refine Jl.pv (PR.qf rfl tfl54_0) ?_
   refine Jl.pv (PR.load1 rfl tsh5 zH (by rfl)) ?_
   refine Jl.pv (PR.qf rfl tfl54_1) ?_
   refine Jl.pv (PR.load1 rfl tsh23 zH (by rfl)) ?_
   refine Jl.call (hct ((A1, c1), (A2, c2), (A3, c3))) en42 (by rfl) zT zF ?_
   rintro ⟨⟩
   refine Jl.storeW rfl tsh38 rfl (by rfl) (by first | exact Br.cs_one _ _ | simp [Value.oneCell', Rc.cs]) zS (by rfl) ?_
   refine Jl.qn<|Jq.qt<|Jc.ret ?_
   refine Jq.blkR ?_
   refine Jq.thenR ?_
   exact Jq.fin ((A1, c1), (A2, c2), (A3, c3)) (.inl rfl) rfl (RetVs.cellA rfl zH tsh38 (by rfl) RetVs.nil) rfl zT zF
 · skip
   refine Ct.of _ Tryz.func22 Tryz.ntmps22 rfl rfl (fun X W => ?_)
   refine Jc.qs<|Jc.qr ?_
   refine Jl.box rfl (by rfl) ?_
   intro b2
   refine Jl.box rfl (by rfl) ?_
   intro b3
   refine Jl.alloc tze38 ?_
   intro b4
   refine Jl.qn<|Jq.qt<|Jc.qs<|Jc.qr ?_
   refine Jl.pv (PR.loadW rfl tsh38 zH (by rfl)) ?_
   refine Jl.call (brown_ct b ((M, cM), (I, cI), (K, cK)) hn hm hms) en33 (by rfl) zT zF ?_
   rintro ⟨⟨A1, c1⟩, ⟨A2, c2⟩, ⟨A3, c3⟩⟩
   refine Jl.storeW rfl tsh38 rfl (by rfl) (by first | exact Br.cs_one _ _ | simp [Value.oneCell', Rc.cs]) zS (by rfl) ?_
   refine Jl.qn<|Jq.qt<|Jc.qs<|Jc.qs<|Jc.qr<|Jl.pv (PR.qf rfl tfl54_1) ?_
   refine Jl.pv (PR.load1 rfl tsh23 zH (by rfl)) ?_
   refine Jl.call (brnumbers_ct L cL r.l (by omega)) en38 (by rfl) zT zF ?_
   rintro ⟨⟩
   refine Jl.as (.bool true) (congrArg Value.bool h) ?_
   refine Jl.pv (PR.not rfl) ?_
   refine Jl.qn<|Jq.qt<|Jc.condF rfl<|Jc.skip<|Jq.qt<|Jc.qs<|Jc.qs<|Jc.qr<|Jl.pv (PR.qf rfl tfl54_0) ?_
   refine Jl.pv (PR.load1 rfl tsh5 zH (by rfl)) ?_
   refine Jl.pv (PR.eql false rfl rfl (decide_eq_false (by omega))) ?_
   refine Jl.qn<|Jq.qt<|Jc.condF rfl<|Jc.skip<|Jq.qt<|Jc.qs<|Jc.qs ?_
   refine Jc.drawn [0, 1, 3, 0, 8, 24, 63] ([(6, false)], []) [⟨[(0, false), (1, false), (3, false), (4, false), (5, false)], [], 2⟩] tmx (by kernel_rfl) ?_
   refine Dh.JH.cons<|Dh.JB.pv rfl trivial (fun _ => PR.qf rfl tfl54_0) ?_
   refine Dh.JB.rd [.blk _ _ _] rfl trivial zT (fun _ => PR.load1 rfl tsh5 Has.here (by rfl)) ?_
   refine Dh.JB.pv rfl trivial (fun _ => PR.qf rfl tfl54_1) ?_
   refine Dh.JB.rd [.blk _ _ _] rfl trivial zT (fun _ => PR.load1 rfl tsh23 Has.here (by rfl)) ?_
   refine Dh.JB.pv rfl trivial (fun _ => PR.len rfl tsl23) ?_
   refine Dh.JB.nil<|Dh.JL.nil ?_
   refine Dh.JE.mk rfl (fun _ h => by cases h) (fun C12_2 => ?_)
   refine Jl.call (rbmany_ct r.k.toNat) en40 (by rfl) zT zF ?_
   rintro ⟨⟩
   refine Jl.qn ?_
   refine Dh.Jq.segV zX ?_ zK
   refine Dh.JH.nil ?_
   refine Dh.JB.pv rfl trivial (fun _ => PR.neq (a := (manyN r.k.toNat)) (b := (r.l.length : Int)) false rfl rfl (decide_eq_false (fun h => h hq))) ?_
   refine Dh.JB.nil<|Dh.JL.nil<|Jq.qt<|Jc.condF rfl<|Jc.skip<|Jq.qt<|Jc.qs<|Jc.qs<|Jc.qr<|Jl.pv (PR.qf rfl tfl54_0) ?_
   refine Jl.pv (PR.load1 rfl tsh5 zH (by rfl)) ?_
   refine Jl.qn<|Jq.qt ?_
   refine Jc.block ?_
   refine Jc.qs<|Jc.qr ?_
   refine Jl.pv (PR.eql false rfl rfl (decide_eq_false (by omega))) ?_
   refine Jl.pv (PR.qa rfl)<|Jl.qn<|Jq.qt<|Jc.condF rfl<|Jc.qs<|Jc.qr ?_
   refine Jl.pv (PR.eql false rfl rfl (decide_eq_false (by omega))) ?_
   refine Jl.pv (PR.qa rfl)<|Jl.qn<|Jq.qt<|Jc.condF rfl<|Jc.qs<|Jc.qr ?_
   refine Jl.pv (PR.eql false rfl rfl (decide_eq_false (by omega))) ?_
   refine Jl.pv (PR.qa rfl)<|Jl.qn<|Jq.qt<|Jc.condF rfl<|Jc.qs<|Jc.qs<|Jc.qr ?_
   refine Jl.pv (PR.eql false rfl rfl (decide_eq_false (by omega))) ?_
   refine Jl.pv (PR.qa rfl)<|Jl.qn<|Jq.qt<|Jc.condF rfl<|Jc.qs<|Jc.qr ?_
   refine Jl.pv (PR.eql false rfl rfl (decide_eq_false (by omega))) ?_
   refine Jl.pv (PR.qa rfl)<|Jl.qn<|Jq.qt<|Jc.condF rfl<|Jc.qs<|Jc.qr ?_
   refine Jl.pv (PR.eql false rfl rfl (decide_eq_false (by omega))) ?_
   refine Jl.pv (PR.qa rfl)<|Jl.qn<|Jq.qt<|Jc.condF rfl<|Jc.qs<|Jc.qr ?_
   refine Jl.pv (PR.eql false rfl rfl (decide_eq_false (by omega))) ?_
   refine Jl.pv (PR.qa rfl)<|Jl.qn<|Jq.qt<|Jc.condF rfl<|Jc.qr ?_
   refine Jl.pv (PR.eql true rfl rfl (decide_eq_true (by omega))) ?_
   refine Jl.pv (PR.qa rfl)<|Jl.qn<|Jq.qt<|Jc.condT rfl<|Jc.qs<|Jc.qr ?_
   refine Jl.pv (PR.loadW rfl tsh38 zH (by rfl)) ?_
   refine Jl.pv (PR.qf rfl tfl54_0) ?_
   refine Jl.pv (PR.load1 rfl tsh5 zH (by rfl)) ?_
   refine Jl.pv (PR.qf rfl tfl54_1) ?_
   refine Jl.pv (PR.load1 rfl tsh23 zH (by rfl)) ?_
   refine Jl.call (hct ((A1, c1), (A2, c2), (A3, c3))) en42 (by rfl) zT zF ?_
   rintro ⟨⟩
   refine Jl.storeW rfl tsh38 rfl (by rfl) (by first | exact Br.cs_one _ _ | simp [Value.oneCell', Rc.cs]) zS (by rfl) ?_
   refine Jl.qn<|Jq.qt<|Jc.ret ?_
   refine Jq.blkR ?_
   refine Jq.thenR ?_
   exact Jq.fin ((A1, c1), (A2, c2), (A3, c3)) (.inl rfl) rfl (RetVs.cellA rfl zH tsh38 (by rfl) RetVs.nil) rfl zT zF
theorem rapply_ref (b T : Br) (z : BrA) (r : Rc) (x : AdC) (hn : b.its.length ≤ 1000000) (hm : b.kps.length ≤ 1000000) (hms : b.cf.ms.length ≤ 1000000) (hl : r.l.length ≤ 1000) (h : numsOk r.l = true) (hk : r.k.toNat = 5 ∨ 11 ≤ r.k.toNat) (hq : manyN r.k.toNat = r.l.length)
 (hT : T.its = b.its ∧ T.kps = b.kps ∧ T.cf.ms = b.cf.ms)
 (hct : ∀ z, Ct Tryz.prog 43 [b.v z, .int .u8 r.k.toNat, .slice x.1 r.l.length x.2] [] [.rd x.1 (i64s r.l)] (fun _ : Unit => T.v z) (fun _ => []) (fun _ => [])) :
 Ct Tryz.prog 22 [b.v z, r.v x] [] (b.rd z ++ [.rd x.1 (i64s r.l)]) (fun y : BrA => T.v y) (fun y => T.rws y) (fun _ => []) := by
 obtain ⟨⟨M, cM⟩, ⟨I, cI⟩, ⟨K, cK⟩⟩ := z
 obtain ⟨L, cL⟩ := x
 refine Ct.of _ Tryz.func22 Tryz.ntmps22 rfl rfl (fun X W => ?_)
 refine Jc.qs<|Jc.qr ?_
 refine Jl.box rfl (by rfl) ?_
 intro b2
 refine Jl.box rfl (by rfl) ?_
 intro b3
 refine Jl.alloc tze38 ?_
 intro b4
 refine Jl.qn<|Jq.qt<|Jc.qs<|Jc.qr ?_
 refine Jl.pv (PR.loadW rfl tsh38 zH (by rfl)) ?_
 refine Jl.call (brown_ct b ((M, cM), (I, cI), (K, cK)) hn hm hms) en33 (by rfl) zT zF ?_
 rintro ⟨⟨A1, c1⟩, ⟨A2, c2⟩, ⟨A3, c3⟩⟩
 refine Jl.storeW rfl tsh38 rfl (by rfl) (by first | exact Br.cs_one _ _ | simp [Value.oneCell', Rc.cs]) zS (by rfl) ?_
 refine Jl.qn<|Jq.qt<|Jc.qs<|Jc.qs<|Jc.qr<|Jl.pv (PR.qf rfl tfl54_1) ?_
 refine Jl.pv (PR.load1 rfl tsh23 zH (by rfl)) ?_
 refine Jl.call (brnumbers_ct L cL r.l (by omega)) en38 (by rfl) zT zF ?_
 rintro ⟨⟩
 refine Jl.as (.bool true) (congrArg Value.bool h) ?_
 refine Jl.pv (PR.not rfl) ?_
 refine Jl.qn<|Jq.qt<|Jc.condF rfl<|Jc.skip<|Jq.qt<|Jc.qs<|Jc.qs<|Jc.qr<|Jl.pv (PR.qf rfl tfl54_0) ?_
 refine Jl.pv (PR.load1 rfl tsh5 zH (by rfl)) ?_
 refine Jl.pv (PR.eql false rfl rfl (decide_eq_false (by omega))) ?_
 refine Jl.qn<|Jq.qt<|Jc.condF rfl<|Jc.skip<|Jq.qt<|Jc.qs<|Jc.qs ?_
 refine Jc.drawn [0, 1, 3, 0, 8, 24, 63] ([(6, false)], []) [⟨[(0, false), (1, false), (3, false), (4, false), (5, false)], [], 2⟩] tmx (by kernel_rfl) ?_
 refine Dh.JH.cons<|Dh.JB.pv rfl trivial (fun _ => PR.qf rfl tfl54_0) ?_
 refine Dh.JB.rd [.blk _ _ _] rfl trivial zT (fun _ => PR.load1 rfl tsh5 Has.here (by rfl)) ?_
 refine Dh.JB.pv rfl trivial (fun _ => PR.qf rfl tfl54_1) ?_
 refine Dh.JB.rd [.blk _ _ _] rfl trivial zT (fun _ => PR.load1 rfl tsh23 Has.here (by rfl)) ?_
 refine Dh.JB.pv rfl trivial (fun _ => PR.len rfl tsl23) ?_
 refine Dh.JB.nil<|Dh.JL.nil ?_
 refine Dh.JE.mk rfl (fun _ h => by cases h) (fun C12_2 => ?_)
 refine Jl.call (rbmany_ct r.k.toNat) en40 (by rfl) zT zF ?_
 rintro ⟨⟩
 refine Jl.qn ?_
 refine Dh.Jq.segV zX ?_ zK
 refine Dh.JH.nil ?_
 refine Dh.JB.pv rfl trivial (fun _ => PR.neq (a := (manyN r.k.toNat)) (b := (r.l.length : Int)) false rfl rfl (decide_eq_false (fun h => h hq))) ?_
 refine Dh.JB.nil<|Dh.JL.nil<|Jq.qt<|Jc.condF rfl<|Jc.skip<|Jq.qt<|Jc.qs<|Jc.qs<|Jc.qr<|Jl.pv (PR.qf rfl tfl54_0) ?_
 refine Jl.pv (PR.load1 rfl tsh5 zH (by rfl)) ?_
 refine Jl.qn<|Jq.qt ?_
 refine Jc.block ?_
 refine Jc.qs<|Jc.qr ?_
 refine Jl.pv (PR.eql false rfl rfl (decide_eq_false (by omega))) ?_
 refine Jl.pv (PR.qa rfl)<|Jl.qn<|Jq.qt<|Jc.condF rfl<|Jc.qs<|Jc.qr ?_
 refine Jl.pv (PR.eql false rfl rfl (decide_eq_false (by omega))) ?_
 refine Jl.pv (PR.qa rfl)<|Jl.qn<|Jq.qt<|Jc.condF rfl<|Jc.qs<|Jc.qr ?_
 refine Jl.pv (PR.eql false rfl rfl (decide_eq_false (by omega))) ?_
 refine Jl.pv (PR.qa rfl)<|Jl.qn<|Jq.qt<|Jc.condF rfl<|Jc.qs<|Jc.qs<|Jc.qr ?_
 refine Jl.pv (PR.eql false rfl rfl (decide_eq_false (by omega))) ?_
 refine Jl.pv (PR.qa rfl)<|Jl.qn<|Jq.qt<|Jc.condF rfl<|Jc.qs<|Jc.qr ?_
 refine Jl.pv (PR.eql false rfl rfl (decide_eq_false (by omega))) ?_
 refine Jl.pv (PR.qa rfl)<|Jl.qn<|Jq.qt<|Jc.condF rfl<|Jc.qs<|Jc.qr ?_
 refine Jl.pv (PR.eql false rfl rfl (decide_eq_false (by omega))) ?_
 refine Jl.pv (PR.qa rfl)<|Jl.qn<|Jq.qt<|Jc.condF rfl<|Jc.qs<|Jc.qr ?_
 refine Jl.pv (PR.eql false rfl rfl (decide_eq_false (by omega))) ?_
 refine Jl.pv (PR.qa rfl)<|Jl.qn<|Jq.qt<|Jc.condF rfl<|Jc.qr ?_
 refine Jl.pv (PR.eql false rfl rfl (decide_eq_false (by omega))) ?_
 refine Jl.pv (PR.qa rfl)<|Jl.qn<|Jq.qt<|Jc.condF rfl<|Jc.qs<|Jc.qr ?_
 refine Jl.pv (PR.loadW rfl tsh38 zH (by rfl)) ?_
 refine Jl.pv (PR.qf rfl tfl54_0) ?_
 refine Jl.pv (PR.load1 rfl tsh5 zH (by rfl)) ?_
 refine Jl.pv (PR.qf rfl tfl54_1) ?_
 refine Jl.pv (PR.load1 rfl tsh23 zH (by rfl)) ?_
 refine Jl.call (hct ((A1, c1), (A2, c2), (A3, c3))) en43 (by rfl) zT zF ?_
 rintro ⟨⟩
 refine Jl.storeW rfl tsh38 rfl (by rfl) (by first | exact Br.cs_one _ _ | simp [Value.oneCell', Rc.cs]) zS (by rfl) ?_
 refine Jl.qn<|Jq.qt<|Jc.ret ?_
 refine Jq.blkR ?_
 refine Jq.thenR ?_
 rw [show (fun y : BrA => T.rws y) = fun y => b.rws y by funext y; simp [Br.rws, Br.rM, Br.rI, Br.rK, hT.1, hT.2.1, hT.2.2]]
 exact Jq.fin ((A1, c1), (A2, c2), (A3, c3)) (.inl rfl) rfl (RetVs.cellA rfl zH tsh38 (by rfl) RetVs.nil) rfl zT zF
theorem rapply_adm (b : Br) (z : BrA) (r : Rc) (x : AdC) (hn : b.its.length ≤ 1000000) (hm : b.kps.length ≤ 1000000) (hms : b.cf.ms.length ≤ 1000000) (hl : r.l.length ≤ 1000) (hc : r.l.length ≤ x.2) (hk : r.k.toNat = 2 ∨ admK r.k.toNat = true) :
 Ct Tryz.prog 22 [b.v z, r.v x] [] (b.rd z ++ [.rd x.1 (i64s r.l)]) (fun y : BrA => (b.apply r).v y) (fun y => (b.apply r).rws y) (fun _ => []) := by
 by_cases hnum : numsOk r.l = true
 · rcases hk with hk | hk
   · rw [show b.apply r = b.group r.l by rw [Br.apply, if_pos hnum, if_pos hk]]
     exact rapply_group b z r x hn hm hms hl hc hnum hk
   · have hk0 := hk
     have hmn := manyN_adm hk
     simp only [admK, Bool.or_eq_true, decide_eq_true_eq] at hk
     rw [show b.apply r = b.deed r.k.toNat r.l by rw [Br.apply, if_pos hnum, if_neg (by omega)]]
     by_cases hq : (r.l.length : Int) = dM r.k.toNat
     · have hq' : manyN r.k.toNat = r.l.length := by rw [hmn.1, hq]
       obtain ⟨k, l⟩ := r
       obtain ⟨L, cL⟩ := x
       simp only at hk hq hq' hnum hl hc hmn ⊢
       have hk' : k.toNat = 9 ∨ k.toNat = 10 ∨ k.toNat = 11 ∨ k.toNat = 12 ∨ k.toNat = 13 ∨ k.toNat = 15 := by omega
       rcases hk' with h | h | h | h | h | h
       · rw [h] at hq
         obtain ⟨a, c, rfl⟩ := len2 hq
         rw [show b.deed k.toNat [a, c] = b.guard a c by rw [h]; rfl]
         exact rapply_inst b _ z ⟨k, [a, c]⟩ (L, cL) hn hm hms hl hnum (.inl h) hq' fun z => rguard_ct b z k h L cL a c hm
       · rw [h] at hq
         obtain ⟨a, rfl⟩ := len1 hq
         rw [show b.deed k.toNat [a] = b.compl a by rw [h]; rfl]
         exact rapply_inst b _ z ⟨k, [a]⟩ (L, cL) hn hm hms hl hnum (.inr h) hq' fun z => rcompl_ct b z k h L cL a hm
       · rw [h] at hq
         obtain ⟨a, c, rfl⟩ := len2 hq
         rw [show b.deed k.toNat [a, c] = b.begin1 a c by rw [h]; rfl]
         exact rapply_ref b _ z ⟨k, [a, c]⟩ (L, cL) hn hm hms hl hnum (.inr (show 11 ≤ k.toNat by omega)) hq' (by unfold Br.begin1; split <;> exact ⟨rfl, rfl, rfl⟩) fun z => rstart_ct b z k h L cL a c
       · rw [h] at hq
         obtain rfl := len0 hq
         rw [show b.deed k.toNat [] = b.canc by rw [h]; rfl]
         exact rapply_ref b _ z ⟨k, []⟩ (L, cL) hn hm hms hl hnum (.inr (show 11 ≤ k.toNat by omega)) hq' (by unfold Br.canc; split <;> exact ⟨rfl, rfl, rfl⟩) fun z => Ct.facts (pre := []) trivial (rcanc_ct b z k h L cL)
       · rw [h] at hq
         obtain rfl := len0 hq
         rw [show b.deed k.toNat [] = b.roll by rw [h]; rfl]
         exact rapply_ref b _ z ⟨k, []⟩ (L, cL) hn hm hms hl hnum (.inr (show 11 ≤ k.toNat by omega)) hq' (by unfold Br.roll; split <;> exact ⟨rfl, rfl, rfl⟩) fun z => Ct.facts (pre := []) trivial (rroll_ct b z k h L cL)
       · rw [h] at hq
         obtain rfl := len0 hq
         rw [show b.deed k.toNat [] = b.go1 by rw [h]; rfl]
         exact rapply_ref b _ z ⟨k, []⟩ (L, cL) hn hm hms hl hnum (.inr (show 11 ≤ k.toNat by omega)) hq' (by unfold Br.go1; split <;> (try split) <;> exact ⟨rfl, rfl, rfl⟩) fun z => Ct.facts (pre := []) trivial (rgo_ct b z k h L cL)
     · rw [deed_no (by omega) (fun h => hq h.2)]
       exact rapply_no b z r x hn hm hms hl (.inr ⟨hnum, by omega, by rw [hmn.1]; exact fun h => hq h.symm⟩)
 · rw [show b.apply r = b by rw [Br.apply, if_neg hnum]]
   exact rapply_no b z r x hn hm hms hl (.inl (by simpa using hnum))
end Go.Proofs.YtakbgccddokbbaaGreatDoor
namespace Go.Proofs.YtakbgccddokbbaaGreatDoor
open Go.RowKit
attribute [local irreducible] Res.blk Res.row Fact.rd
theorem rapply_boot (b : Br) (z : BrA) (k : UInt8) (hk : k.toNat = 1) (x : AdC) (hb : b.Fit) (hms : b.cf.ms.length ≤ 1000000) (h : numsOk [] = true) :
 Ct Tryz.prog 22 [b.v z, (⟨k, []⟩ : Rc).v x] [] (b.rd z ++ [.rd x.1 (i64s [])]) (fun y : BrA => (b.boot).v y) (fun y => (b.boot).rws y) (fun _ => []) := by
 obtain ⟨⟨M, cM⟩, ⟨I, cI⟩, ⟨K, cK⟩⟩ := z
 obtain ⟨L, cL⟩ := x
 obtain ⟨f1, f2, f3, f4⟩ := hb
 have hq : manyN k.toNat = (([] : List Int).length : Int) := by rw [hk]; rfl
 have hk2 : (Rc.mk k []).k.toNat = 1 := hk
 have hl0 : ([] : List Int).length = 0 := rfl
 refine Ct.of _ Tryz.func22 Tryz.ntmps22 rfl rfl (fun X W => ?_)
 refine Jc.qs<|Jc.qr ?_
 refine Jl.box rfl (by rfl) ?_
 intro b2
 refine Jl.box rfl (by rfl) ?_
 intro b3
 refine Jl.alloc tze38 ?_
 intro b4
 refine Jl.qn<|Jq.qt<|Jc.qs<|Jc.qr ?_
 refine Jl.pv (PR.loadW rfl tsh38 zH (by rfl)) ?_
 refine Jl.call (brown_ct b ((M, cM), (I, cI), (K, cK)) (by omega) (by omega) hms) en33 (by rfl) zT zF ?_
 rintro ⟨⟨A1, c1⟩, ⟨A2, c2⟩, ⟨A3, c3⟩⟩
 refine Jl.storeW rfl tsh38 rfl (by rfl) (by first | exact Br.cs_one _ _ | simp [Value.oneCell', Rc.cs, Br.cs]) zS (by rfl) ?_
 refine Jl.qn<|Jq.qt<|Jc.qs<|Jc.qs<|Jc.qr<|Jl.pv (PR.qf rfl tfl54_1) ?_
 refine Jl.pv (PR.load1 rfl tsh23 zH (by rfl)) ?_
 refine Jl.call (brnumbers_ct L cL ([] : List Int) (by omega)) en38 (by rfl) zT zF ?_
 rintro ⟨⟩
 refine Jl.as (.bool true) (congrArg Value.bool h) ?_
 refine Jl.pv (PR.not rfl) ?_
 refine Jl.qn<|Jq.qt<|Jc.condF rfl<|Jc.skip<|Jq.qt<|Jc.qs<|Jc.qs<|Jc.qr<|Jl.pv (PR.qf rfl tfl54_0) ?_
 refine Jl.pv (PR.load1 rfl tsh5 zH (by rfl)) ?_
 refine Jl.pv (PR.eql false rfl rfl (decide_eq_false (by omega))) ?_
 refine Jl.qn<|Jq.qt<|Jc.condF rfl<|Jc.skip<|Jq.qt<|Jc.qs<|Jc.qs ?_
 refine Jc.drawn [0, 1, 3, 0, 8, 24, 63] ([(6, false)], []) [⟨[(0, false), (1, false), (3, false), (4, false), (5, false)], [], 2⟩] tmx (by kernel_rfl) ?_
 refine Dh.JH.cons<|Dh.JB.pv rfl trivial (fun _ => PR.qf rfl tfl54_0) ?_
 refine Dh.JB.rd [.blk _ _ _] rfl trivial zT (fun _ => PR.load1 rfl tsh5 Has.here (by rfl)) ?_
 refine Dh.JB.pv rfl trivial (fun _ => PR.qf rfl tfl54_1) ?_
 refine Dh.JB.rd [.blk _ _ _] rfl trivial zT (fun _ => PR.load1 rfl tsh23 Has.here (by rfl)) ?_
 refine Dh.JB.pv rfl trivial (fun _ => PR.len rfl tsl23) ?_
 refine Dh.JB.nil<|Dh.JL.nil ?_
 refine Dh.JE.mk rfl (fun _ h => by cases h) (fun C12_2 => ?_)
 refine Jl.call (rbmany_ct k.toNat) en40 (by rfl) zT zF ?_
 rintro ⟨⟩
 refine Jl.qn ?_
 refine Dh.Jq.segV zX ?_ zK
 refine Dh.JH.nil ?_
 refine Dh.JB.pv rfl trivial (fun _ => PR.neq (a := (manyN k.toNat)) (b := (([] : List Int).length : Int)) false rfl rfl (decide_eq_false (fun h => h hq))) ?_
 refine Dh.JB.nil<|Dh.JL.nil<|Jq.qt<|Jc.condF rfl<|Jc.skip<|Jq.qt<|Jc.qs<|Jc.qs<|Jc.qr<|Jl.pv (PR.qf rfl tfl54_0) ?_
 refine Jl.pv (PR.load1 rfl tsh5 zH (by rfl)) ?_
 refine Jl.qn<|Jq.qt ?_
 refine Jc.block ?_
 refine Jc.qs<|Jc.qr ?_
 refine Jl.pv (PR.eql true rfl rfl (decide_eq_true (by omega))) ?_
 refine Jl.pv (PR.qa rfl)<|Jl.qn<|Jq.qt<|Jc.condT rfl<|Jc.qs<|Jc.qr<|Jl.pv (PR.qf rfl tfl38_0) ?_
 refine Jl.pv (PR.load1 rfl tsh3 zH (by rfl)) ?_
 refine Jl.pv (PR.lss _ rfl rfl rfl) ?_
 refine Jl.qn<|Jq.qt ?_
 refine Jc.cond rfl (fun h0 => ?_) (fun h0 => ?_)
 · try replace h0 := zV h0
   refine Jc.qr<|Jl.pv (PR.qf rfl tfl38_0) ?_
   refine Jl.pv (PR.load1 rfl tsh3 zH (by rfl)) ?_
   refine Jl.pv (PR.add _ rfl rfl (w64 (by omega) (by omega))) ?_
   refine Jl.pv (PR.qf rfl tfl38_0) ?_
   refine Jl.store1 rfl tsh3 rfl (by rfl) zS (by rfl) ?_
   refine Jl.qn ?_
   refine Jq.blkN ?_
   refine Jq.qt<|Jc.qs<|Jc.qr ?_
   refine Jl.pv (PR.loadW rfl tsh38 zH (by rfl)) ?_
   refine Jl.storeW rfl tsh38 rfl (by rfl) (by first | exact Br.cs_one _ _ | simp [Value.oneCell', Rc.cs, Br.cs]) zS (by rfl) ?_
   refine Jl.qn<|Jq.qt<|Jc.ret ?_
   rw [show b.boot = { b with ep := b.ep + 1 } from if_pos h0]
   exact Jq.fin ((A1, c1), (A2, c2), (A3, c3)) (.inl rfl) rfl (RetVs.cellA rfl zH tsh38 (by rfl) RetVs.nil) rfl zT zF
 try replace h0 := zW h0
 refine Jc.skip ?_
 refine Jq.blkN ?_
 refine Jq.qt<|Jc.qs<|Jc.qr ?_
 refine Jl.pv (PR.loadW rfl tsh38 zH (by rfl)) ?_
 refine Jl.storeW rfl tsh38 rfl (by rfl) (by first | exact Br.cs_one _ _ | simp [Value.oneCell', Rc.cs, Br.cs]) zS (by rfl) ?_
 refine Jl.qn<|Jq.qt<|Jc.ret ?_
 rw [show b.boot = b from if_neg h0]
 exact Jq.fin ((A1, c1), (A2, c2), (A3, c3)) (.inl rfl) rfl (RetVs.cellA rfl zH tsh38 (by rfl) RetVs.nil) rfl zT zF
theorem rapply_intent (b : Br) (z : BrA) (k : UInt8) (hk : k.toNat = 3) (v zo w : Int) (x : AdC) (hb : b.Fit) (hms : b.cf.ms.length ≤ 1000000) (h : numsOk [v, zo, w] = true) :
 Ct Tryz.prog 22 [b.v z, (⟨k, [v, zo, w]⟩ : Rc).v x] [] (b.rd z ++ [.rd x.1 (i64s [v, zo, w])]) (fun y : BrA => (b.intent v zo w).v y) (fun y => (b.intent v zo w).rws y) (fun _ => []) := by
 obtain ⟨⟨M, cM⟩, ⟨I, cI⟩, ⟨K, cK⟩⟩ := z
 obtain ⟨L, cL⟩ := x
 obtain ⟨f1, f2, f3, f4⟩ := hb
 have hq : manyN k.toNat = (([v, zo, w] : List Int).length : Int) := by rw [hk]; rfl
 have hk2 : (Rc.mk k [v, zo, w]).k.toNat = 3 := hk
 have hl0 : ([v, zo, w] : List Int).length = 3 := rfl
 refine Ct.of _ Tryz.func22 Tryz.ntmps22 rfl rfl (fun X W => ?_)
 refine Jc.qs<|Jc.qr ?_
 refine Jl.box rfl (by rfl) ?_
 intro b2
 refine Jl.box rfl (by rfl) ?_
 intro b3
 refine Jl.alloc tze38 ?_
 intro b4
 refine Jl.qn<|Jq.qt<|Jc.qs<|Jc.qr ?_
 refine Jl.pv (PR.loadW rfl tsh38 zH (by rfl)) ?_
 refine Jl.call (brown_ct b ((M, cM), (I, cI), (K, cK)) (by omega) (by omega) hms) en33 (by rfl) zT zF ?_
 rintro ⟨⟨A1, c1⟩, ⟨A2, c2⟩, ⟨A3, c3⟩⟩
 refine Jl.storeW rfl tsh38 rfl (by rfl) (by first | exact Br.cs_one _ _ | simp [Value.oneCell', Rc.cs, Br.cs]) zS (by rfl) ?_
 refine Jl.qn<|Jq.qt<|Jc.qs<|Jc.qs<|Jc.qr<|Jl.pv (PR.qf rfl tfl54_1) ?_
 refine Jl.pv (PR.load1 rfl tsh23 zH (by rfl)) ?_
 refine Jl.call (brnumbers_ct L cL [v, zo, w] (by omega)) en38 (by rfl) zT zF ?_
 rintro ⟨⟩
 refine Jl.as (.bool true) (congrArg Value.bool h) ?_
 refine Jl.pv (PR.not rfl) ?_
 refine Jl.qn<|Jq.qt<|Jc.condF rfl<|Jc.skip<|Jq.qt<|Jc.qs<|Jc.qs<|Jc.qr<|Jl.pv (PR.qf rfl tfl54_0) ?_
 refine Jl.pv (PR.load1 rfl tsh5 zH (by rfl)) ?_
 refine Jl.pv (PR.eql false rfl rfl (decide_eq_false (by omega))) ?_
 refine Jl.qn<|Jq.qt<|Jc.condF rfl<|Jc.skip<|Jq.qt<|Jc.qs<|Jc.qs ?_
 refine Jc.drawn [0, 1, 3, 0, 8, 24, 63] ([(6, false)], []) [⟨[(0, false), (1, false), (3, false), (4, false), (5, false)], [], 2⟩] tmx (by kernel_rfl) ?_
 refine Dh.JH.cons<|Dh.JB.pv rfl trivial (fun _ => PR.qf rfl tfl54_0) ?_
 refine Dh.JB.rd [.blk _ _ _] rfl trivial zT (fun _ => PR.load1 rfl tsh5 Has.here (by rfl)) ?_
 refine Dh.JB.pv rfl trivial (fun _ => PR.qf rfl tfl54_1) ?_
 refine Dh.JB.rd [.blk _ _ _] rfl trivial zT (fun _ => PR.load1 rfl tsh23 Has.here (by rfl)) ?_
 refine Dh.JB.pv rfl trivial (fun _ => PR.len rfl tsl23) ?_
 refine Dh.JB.nil<|Dh.JL.nil ?_
 refine Dh.JE.mk rfl (fun _ h => by cases h) (fun C12_2 => ?_)
 refine Jl.call (rbmany_ct k.toNat) en40 (by rfl) zT zF ?_
 rintro ⟨⟩
 refine Jl.qn ?_
 refine Dh.Jq.segV zX ?_ zK
 refine Dh.JH.nil ?_
 refine Dh.JB.pv rfl trivial (fun _ => PR.neq (a := (manyN k.toNat)) (b := ([v, zo, w].length : Int)) false rfl rfl (decide_eq_false (fun h => h hq))) ?_
 refine Dh.JB.nil<|Dh.JL.nil<|Jq.qt<|Jc.condF rfl<|Jc.skip<|Jq.qt<|Jc.qs<|Jc.qs<|Jc.qr<|Jl.pv (PR.qf rfl tfl54_0) ?_
 refine Jl.pv (PR.load1 rfl tsh5 zH (by rfl)) ?_
 refine Jl.qn<|Jq.qt ?_
 refine Jc.block ?_
 refine Jc.qs<|Jc.qr ?_
 refine Jl.pv (PR.eql false rfl rfl (decide_eq_false (by omega))) ?_
 refine Jl.pv (PR.qa rfl)<|Jl.qn<|Jq.qt<|Jc.condF rfl<|Jc.qs<|Jc.qr ?_
 refine Jl.pv (PR.eql true rfl rfl (decide_eq_true (by omega))) ?_
 refine Jl.pv (PR.qa rfl)<|Jl.qn<|Jq.qt<|Jc.condT rfl<|Jc.qs<|Jc.qr<|Jl.pv (PR.qf rfl tfl38_2) ?_
 refine Jl.pv (PR.load1 rfl tsh4 zH (by rfl)) ?_
 refine Jl.pv (PR.qm rfl) ?_
 refine Jl.bsplit (fun g64 => ?_) (fun g64 => ?_)
 · try replace g64 := zV g64
   refine Jl.on rfl rfl<|Jl.pv (PR.qf rfl tfl54_1)<|Jl.on rfl rfl ?_
   refine Jl.pv (PR.load1 rfl tsh23 zH (by rfl)) ?_
   refine Jl.on rfl rfl ?_
   refine Jl.pv (PR.idx1 0 rfl rfl tsl23 zM rfl rfl (by simp)) ?_
   refine Jl.on rfl rfl ?_
   refine Jl.pv (PR.loadR rfl tsh3 zM rfl) ?_
   refine Jl.on rfl rfl ?_
   refine Jl.pv (PR.geq _ rfl rfl rfl) ?_
   refine Jl.pv (PR.pickT rfl rfl)<|Jl.pv (PR.qm rfl) ?_
   refine Jl.bsplit (fun g71 => ?_) (fun g71 => ?_)
   · try replace g71 := zV g71
     refine Jl.on rfl rfl<|Jl.pv (PR.qf rfl tfl54_1)<|Jl.on rfl rfl ?_
     refine Jl.pv (PR.load1 rfl tsh23 zH (by rfl)) ?_
     refine Jl.on rfl rfl ?_
     refine Jl.pv (PR.idx1 1 rfl rfl tsl23 zM rfl rfl (by simp)) ?_
     refine Jl.on rfl rfl ?_
     refine Jl.pv (PR.loadR rfl tsh3 zM rfl) ?_
     refine Jl.on rfl rfl ?_
     refine Jl.pv (PR.lss _ rfl rfl rfl) ?_
     refine Jl.pv (PR.pickT rfl rfl)<|Jl.pv (PR.qm rfl) ?_
     refine Jl.bsplit (fun g78 => ?_) (fun g78 => ?_)
     · try replace g78 := zV g78
       refine Jl.on rfl rfl<|Jl.pv (PR.qf rfl tfl54_1)<|Jl.on rfl rfl ?_
       refine Jl.pv (PR.load1 rfl tsh23 zH (by rfl)) ?_
       refine Jl.on rfl rfl ?_
       refine Jl.pv (PR.idx1 2 rfl rfl tsl23 zM rfl rfl (by simp)) ?_
       refine Jl.on rfl rfl ?_
       refine Jl.pv (PR.loadR rfl tsh3 zM rfl) ?_
       refine Jl.on rfl rfl ?_
       refine Jl.pv (PR.lss _ rfl rfl rfl) ?_
       refine Jl.pv (PR.pickT rfl rfl)<|Jl.pv (PR.qm rfl) ?_
       refine Jl.bsplit (fun g85 => ?_) (fun g85 => ?_)
       · try replace g85 := zV g85
         refine Jl.on rfl rfl<|Jl.pv (PR.qf rfl tfl38_1)<|Jl.on rfl rfl ?_
         refine Jl.pv (PR.load1 rfl tsh3 zH (by rfl)) ?_
         refine Jl.on rfl rfl ?_
         refine Jl.pv (PR.lss _ rfl rfl rfl) ?_
         refine Jl.pv (PR.pickT rfl rfl)<|Jl.qn<|Jq.qt ?_
         refine Jc.cond rfl (fun h0 => ?_) (fun h0 => ?_)
         · try replace h0 := zV h0
           refine Jc.qs<|Jc.qr<|Jl.pv (PR.qf rfl tfl38_1) ?_
           refine Jl.pv (PR.load1 rfl tsh3 zH (by rfl)) ?_
           refine Jl.pv (PR.add _ rfl rfl (w64 (by omega) (by omega))) ?_
           refine Jl.pv (PR.qf rfl tfl38_1) ?_
           refine Jl.store1 rfl tsh3 rfl (by rfl) zS (by rfl) ?_
           refine Jl.qn<|Jq.qt ?_
           refine Jc.drawn [0, 1, 0, 4, 0, 16, 48, 112, 0, 256, 768, 1792, 0, 4096, 12288, 28672, 61440, 131068, 262140, 524287, 1048575, 2097151] ([], []) [⟨[(0, false), (1, false), (2, false), (3, false), (4, false), (5, false), (6, false), (7, false), (8, false), (9, false), (10, false), (11, false), (12, false), (13, false), (14, false), (15, false), (16, false), (17, false), (18, true)], [18], 19⟩, ⟨[(20, false)], [], 21⟩] tmx (by kernel_rfl) ?_
           refine Dh.JH.cons<|Dh.JB.pv rfl trivial (fun _ => PR.qf rfl tfl38_4) ?_
           refine Dh.JB.rd [.blk _ _ _] rfl trivial zT (fun _ => PR.load1 rfl tsh33 Has.here (by rfl)) ?_
           refine Dh.JB.pv rfl trivial (fun _ => PR.qf rfl tfl38_1) ?_
           refine Dh.JB.rd [.blk _ _ _] rfl trivial zT (fun _ => PR.load1 rfl tsh3 Has.here (by rfl)) ?_
           refine Dh.JB.pv rfl trivial (fun _ => PR.qf rfl tfl54_1) ?_
           refine Dh.JB.rd [.blk _ _ _] rfl trivial zT (fun _ => PR.load1 rfl tsh23 Has.here (by rfl)) ?_
           refine Dh.JB.pv rfl trivial (fun _ => PR.idx1 0 rfl rfl tsl23 zM rfl rfl (by simp)) ?_
           refine Dh.JB.pv rfl trivial (fun _ => PR.loadR rfl tsh3 zM rfl) ?_
           refine Dh.JB.pv rfl trivial (fun _ => PR.qf rfl tfl54_1) ?_
           refine Dh.JB.rd [.blk _ _ _] rfl trivial zT (fun _ => PR.load1 rfl tsh23 Has.here (by rfl)) ?_
           refine Dh.JB.pv rfl trivial (fun _ => PR.idx1 1 rfl rfl tsl23 zM rfl rfl (by simp)) ?_
           refine Dh.JB.pv rfl trivial (fun _ => PR.loadR rfl tsh3 zM rfl) ?_
           refine Dh.JB.pv rfl trivial (fun _ => PR.qf rfl tfl54_1) ?_
           refine Dh.JB.rd [.blk _ _ _] rfl trivial zT (fun _ => PR.load1 rfl tsh23 Has.here (by rfl)) ?_
           refine Dh.JB.pv rfl trivial (fun _ => PR.idx1 2 rfl rfl tsl23 zM rfl rfl (by simp)) ?_
           refine Dh.JB.pv rfl trivial (fun _ => PR.loadR rfl tsh3 zM rfl) ?_
           refine Dh.JB.pv rfl trivial (fun _ => PR.eql _ rfl rfl rfl) ?_
           refine Dh.JB.pv rfl trivial (fun _ => PR.build (by rfl) tze70 tpl70_0_1_2_3 (by rfl)) ?_
           refine Dh.JB.buildSlice rfl trivial (by rfl) tsl33 tzr33_1 (by rfl) (by rfl) ?_
           refine Dh.JB.nil ?_
           refine Dh.JL.sl rfl (by repeat (first | exact Dh.es_here | apply Dh.es_there)) (fun b112 => ?_)
           refine Dh.JL.nil ?_
           refine Dh.JE.mk rfl (fun _ h => by cases h) (fun C22_19 => ?_)
           refine Jl.seal zD ?_
           refine Jl.append (b.its ++ [(⟨b.sq + 1, v, zo, decide (w = 1)⟩ : It1)]).length (itsV (b.its ++ [(⟨b.sq + 1, v, zo, decide (w = 1)⟩ : It1)])) rfl rfl rfl tsl33 tze70 (by rfl) (by decide) tby70 (fun _ _ => zS) zM (by simp) (by rw [itsV_app]) rfl (its_one [(⟨b.sq + 1, v, zo, decide (w = 1)⟩ : It1)]) (by omega) (by decide) ?_
           intro A113 c113
           refine Jl.qn ?_
           refine Dh.Jq.segV zX ?_ zK
           refine Dh.JH.cons<|Dh.JB.pv rfl trivial (fun _ => PR.qf rfl tfl38_4)<|Dh.JB.nil<|Dh.JL.nil ?_
           refine Dh.JE.mk rfl (fun _ h => by cases h) (fun C22_21 => ?_)
           refine Jl.store1 rfl tsh33 rfl (by rfl) zS (by rfl) ?_
           refine Jl.qn ?_
           refine Dh.Jq.segN zX ?_ zK
           refine Dh.JH.nil ?_
           refine Dh.JB.nil<|Dh.JL.nil ?_
           refine Jq.blkN ?_
           refine Jq.qt<|Jc.qs<|Jc.qr ?_
           refine Jl.pv (PR.loadW rfl tsh38 zH (by rfl)) ?_
           refine Jl.storeW rfl tsh38 rfl (by rfl) (by first | exact Br.cs_one _ _ | simp [Value.oneCell', Rc.cs, Br.cs]) zS (by rfl) ?_
           refine Jl.qn<|Jq.qt<|Jc.ret ?_
           rw [intent_yes (by simpa using g64) (by omega) (by omega) (by omega) (by omega)]
           exact Jq.fin ((A1, c1), (A113, c113), (A3, c3)) (.inl rfl) rfl (RetVs.cellA rfl zH tsh38 (by rfl) RetVs.nil) rfl zT zF
         try replace h0 := zW h0
         refine Jc.skip ?_
         refine Jq.blkN ?_
         refine Jq.qt<|Jc.qs<|Jc.qr ?_
         refine Jl.pv (PR.loadW rfl tsh38 zH (by rfl)) ?_
         refine Jl.storeW rfl tsh38 rfl (by rfl) (by first | exact Br.cs_one _ _ | simp [Value.oneCell', Rc.cs, Br.cs]) zS (by rfl) ?_
         refine Jl.qn<|Jq.qt<|Jc.ret ?_
         rw [intent_no (.inr (.inr (.inr (.inr (by omega)))))]
         exact Jq.fin ((A1, c1), (A2, c2), (A3, c3)) (.inl rfl) rfl (RetVs.cellA rfl zH tsh38 (by rfl) RetVs.nil) rfl zT zF
       try replace g85 := zW g85
       refine Jl.qo rfl rfl rfl<|Jl.qo rfl rfl rfl<|Jl.qo rfl rfl rfl<|Jl.pv (PR.pickF rfl rfl)<|Jl.qn<|Jq.qt<|Jc.condF rfl<|Jc.skip ?_
       refine Jq.blkN ?_
       refine Jq.qt<|Jc.qs<|Jc.qr ?_
       refine Jl.pv (PR.loadW rfl tsh38 zH (by rfl)) ?_
       refine Jl.storeW rfl tsh38 rfl (by rfl) (by first | exact Br.cs_one _ _ | simp [Value.oneCell', Rc.cs, Br.cs]) zS (by rfl) ?_
       refine Jl.qn<|Jq.qt<|Jc.ret ?_
       rw [intent_no (.inr (.inr (.inr (.inl (by omega)))))]
       exact Jq.fin ((A1, c1), (A2, c2), (A3, c3)) (.inl rfl) rfl (RetVs.cellA rfl zH tsh38 (by rfl) RetVs.nil) rfl zT zF
     try replace g78 := zW g78
     refine Jl.qo rfl rfl rfl<|Jl.qo rfl rfl rfl<|Jl.qo rfl rfl rfl<|Jl.qo rfl rfl rfl<|Jl.qo rfl rfl rfl<|Jl.pv (PR.pickF rfl rfl)<|Jl.pv (PR.qm rfl)<|Jl.qo rfl rfl rfl<|Jl.qo rfl rfl rfl<|Jl.qo rfl rfl rfl<|Jl.pv (PR.pickF rfl rfl)<|Jl.qn<|Jq.qt<|Jc.condF rfl<|Jc.skip ?_
     refine Jq.blkN ?_
     refine Jq.qt<|Jc.qs<|Jc.qr ?_
     refine Jl.pv (PR.loadW rfl tsh38 zH (by rfl)) ?_
     refine Jl.storeW rfl tsh38 rfl (by rfl) (by first | exact Br.cs_one _ _ | simp [Value.oneCell', Rc.cs, Br.cs]) zS (by rfl) ?_
     refine Jl.qn<|Jq.qt<|Jc.ret ?_
     rw [intent_no (.inr (.inr (.inl (by omega))))]
     exact Jq.fin ((A1, c1), (A2, c2), (A3, c3)) (.inl rfl) rfl (RetVs.cellA rfl zH tsh38 (by rfl) RetVs.nil) rfl zT zF
   try replace g71 := zW g71
   refine Jl.qo rfl rfl rfl<|Jl.qo rfl rfl rfl<|Jl.qo rfl rfl rfl<|Jl.qo rfl rfl rfl<|Jl.qo rfl rfl rfl<|Jl.pv (PR.pickF rfl rfl)<|Jl.pv (PR.qm rfl)<|Jl.qo rfl rfl rfl<|Jl.qo rfl rfl rfl<|Jl.qo rfl rfl rfl<|Jl.qo rfl rfl rfl<|Jl.qo rfl rfl rfl<|Jl.pv (PR.pickF rfl rfl)<|Jl.pv (PR.qm rfl)<|Jl.qo rfl rfl rfl<|Jl.qo rfl rfl rfl<|Jl.qo rfl rfl rfl<|Jl.pv (PR.pickF rfl rfl)<|Jl.qn<|Jq.qt<|Jc.condF rfl<|Jc.skip ?_
   refine Jq.blkN ?_
   refine Jq.qt<|Jc.qs<|Jc.qr ?_
   refine Jl.pv (PR.loadW rfl tsh38 zH (by rfl)) ?_
   refine Jl.storeW rfl tsh38 rfl (by rfl) (by first | exact Br.cs_one _ _ | simp [Value.oneCell', Rc.cs, Br.cs]) zS (by rfl) ?_
   refine Jl.qn<|Jq.qt<|Jc.ret ?_
   rw [intent_no (.inr (.inl (by simpa using g71)))]
   exact Jq.fin ((A1, c1), (A2, c2), (A3, c3)) (.inl rfl) rfl (RetVs.cellA rfl zH tsh38 (by rfl) RetVs.nil) rfl zT zF
 try replace g64 := zW g64
 refine Jl.qo rfl rfl rfl<|Jl.qo rfl rfl rfl<|Jl.qo rfl rfl rfl<|Jl.qo rfl rfl rfl<|Jl.qo rfl rfl rfl<|Jl.pv (PR.pickF rfl rfl)<|Jl.pv (PR.qm rfl)<|Jl.qo rfl rfl rfl<|Jl.qo rfl rfl rfl<|Jl.qo rfl rfl rfl<|Jl.qo rfl rfl rfl<|Jl.qo rfl rfl rfl<|Jl.pv (PR.pickF rfl rfl)<|Jl.pv (PR.qm rfl)<|Jl.qo rfl rfl rfl<|Jl.qo rfl rfl rfl<|Jl.qo rfl rfl rfl<|Jl.qo rfl rfl rfl<|Jl.qo rfl rfl rfl<|Jl.pv (PR.pickF rfl rfl)<|Jl.pv (PR.qm rfl)<|Jl.qo rfl rfl rfl<|Jl.qo rfl rfl rfl<|Jl.qo rfl rfl rfl<|Jl.pv (PR.pickF rfl rfl)<|Jl.qn<|Jq.qt<|Jc.condF rfl<|Jc.skip ?_
 refine Jq.blkN ?_
 refine Jq.qt<|Jc.qs<|Jc.qr ?_
 refine Jl.pv (PR.loadW rfl tsh38 zH (by rfl)) ?_
 refine Jl.storeW rfl tsh38 rfl (by rfl) (by first | exact Br.cs_one _ _ | simp [Value.oneCell', Rc.cs, Br.cs]) zS (by rfl) ?_
 refine Jl.qn<|Jq.qt<|Jc.ret ?_
 rw [intent_no (.inl (by simpa using g64))]
 exact Jq.fin ((A1, c1), (A2, c2), (A3, c3)) (.inl rfl) rfl (RetVs.cellA rfl zH tsh38 (by rfl) RetVs.nil) rfl zT zF
theorem rapply_made (b : Br) (z : BrA) (k : UInt8) (hk : k.toNat = 4) (t id now : Int) (x : AdC) (hb : b.Fit) (hms : b.cf.ms.length ≤ 1000000) (h : numsOk [t, id, now] = true) :
 Ct Tryz.prog 22 [b.v z, (⟨k, [t, id, now]⟩ : Rc).v x] [] (b.rd z ++ [.rd x.1 (i64s [t, id, now])]) (fun y : BrA => (b.mk1 t id now).v y) (fun y => (b.mk1 t id now).rws y) (fun _ => []) := by
 obtain ⟨⟨M, cM⟩, ⟨I, cI⟩, ⟨K, cK⟩⟩ := z
 obtain ⟨L, cL⟩ := x
 obtain ⟨f1, f2, f3, f4⟩ := hb
 have hq : manyN k.toNat = (([t, id, now] : List Int).length : Int) := by rw [hk]; rfl
 have hk2 : (Rc.mk k [t, id, now]).k.toNat = 4 := hk
 have hl0 : ([t, id, now] : List Int).length = 3 := rfl
 refine Ct.of _ Tryz.func22 Tryz.ntmps22 rfl rfl (fun X W => ?_)
 refine Jc.qs<|Jc.qr ?_
 refine Jl.box rfl (by rfl) ?_
 intro b2
 refine Jl.box rfl (by rfl) ?_
 intro b3
 refine Jl.alloc tze38 ?_
 intro b4
 refine Jl.qn<|Jq.qt<|Jc.qs<|Jc.qr ?_
 refine Jl.pv (PR.loadW rfl tsh38 zH (by rfl)) ?_
 refine Jl.call (brown_ct b ((M, cM), (I, cI), (K, cK)) (by omega) (by omega) hms) en33 (by rfl) zT zF ?_
 rintro ⟨⟨A1, c1⟩, ⟨A2, c2⟩, ⟨A3, c3⟩⟩
 refine Jl.storeW rfl tsh38 rfl (by rfl) (by first | exact Br.cs_one _ _ | simp [Value.oneCell', Rc.cs, Br.cs]) zS (by rfl) ?_
 refine Jl.qn<|Jq.qt<|Jc.qs<|Jc.qs<|Jc.qr<|Jl.pv (PR.qf rfl tfl54_1) ?_
 refine Jl.pv (PR.load1 rfl tsh23 zH (by rfl)) ?_
 refine Jl.call (brnumbers_ct L cL [t, id, now] (by omega)) en38 (by rfl) zT zF ?_
 rintro ⟨⟩
 refine Jl.as (.bool true) (congrArg Value.bool h) ?_
 refine Jl.pv (PR.not rfl) ?_
 refine Jl.qn<|Jq.qt<|Jc.condF rfl<|Jc.skip<|Jq.qt<|Jc.qs<|Jc.qs<|Jc.qr<|Jl.pv (PR.qf rfl tfl54_0) ?_
 refine Jl.pv (PR.load1 rfl tsh5 zH (by rfl)) ?_
 refine Jl.pv (PR.eql false rfl rfl (decide_eq_false (by omega))) ?_
 refine Jl.qn<|Jq.qt<|Jc.condF rfl<|Jc.skip<|Jq.qt<|Jc.qs<|Jc.qs ?_
 refine Jc.drawn [0, 1, 3, 0, 8, 24, 63] ([(6, false)], []) [⟨[(0, false), (1, false), (3, false), (4, false), (5, false)], [], 2⟩] tmx (by kernel_rfl) ?_
 refine Dh.JH.cons<|Dh.JB.pv rfl trivial (fun _ => PR.qf rfl tfl54_0) ?_
 refine Dh.JB.rd [.blk _ _ _] rfl trivial zT (fun _ => PR.load1 rfl tsh5 Has.here (by rfl)) ?_
 refine Dh.JB.pv rfl trivial (fun _ => PR.qf rfl tfl54_1) ?_
 refine Dh.JB.rd [.blk _ _ _] rfl trivial zT (fun _ => PR.load1 rfl tsh23 Has.here (by rfl)) ?_
 refine Dh.JB.pv rfl trivial (fun _ => PR.len rfl tsl23) ?_
 refine Dh.JB.nil<|Dh.JL.nil ?_
 refine Dh.JE.mk rfl (fun _ h => by cases h) (fun C12_2 => ?_)
 refine Jl.call (rbmany_ct k.toNat) en40 (by rfl) zT zF ?_
 rintro ⟨⟩
 refine Jl.qn ?_
 refine Dh.Jq.segV zX ?_ zK
 refine Dh.JH.nil ?_
 refine Dh.JB.pv rfl trivial (fun _ => PR.neq (a := (manyN k.toNat)) (b := ([t, id, now].length : Int)) false rfl rfl (decide_eq_false (fun h => h hq))) ?_
 refine Dh.JB.nil<|Dh.JL.nil<|Jq.qt<|Jc.condF rfl<|Jc.skip<|Jq.qt<|Jc.qs<|Jc.qs<|Jc.qr<|Jl.pv (PR.qf rfl tfl54_0) ?_
 refine Jl.pv (PR.load1 rfl tsh5 zH (by rfl)) ?_
 refine Jl.qn<|Jq.qt ?_
 refine Jc.block ?_
 refine Jc.qs<|Jc.qr ?_
 refine Jl.pv (PR.eql false rfl rfl (decide_eq_false (by omega))) ?_
 refine Jl.pv (PR.qa rfl)<|Jl.qn<|Jq.qt<|Jc.condF rfl<|Jc.qs<|Jc.qr ?_
 refine Jl.pv (PR.eql false rfl rfl (decide_eq_false (by omega))) ?_
 refine Jl.pv (PR.qa rfl)<|Jl.qn<|Jq.qt<|Jc.condF rfl<|Jc.qs<|Jc.qr ?_
 refine Jl.pv (PR.eql true rfl rfl (decide_eq_true (by omega))) ?_
 refine Jl.pv (PR.qa rfl)<|Jl.qn<|Jq.qt<|Jc.condT rfl<|Jc.qs<|Jc.qr ?_
 refine Jl.pv (PR.loadW rfl tsh38 zH (by rfl)) ?_
 refine Jl.pv (PR.qf rfl tfl54_1) ?_
 refine Jl.pv (PR.load1 rfl tsh23 zH (by rfl)) ?_
 refine Jl.call (rmade_ct b ((A1, c1), (A2, c2), (A3, c3)) L cL t id now f3 f4) en41 (by rfl) zT zF ?_
 rintro z'
 refine Jl.storeW rfl tsh38 rfl (by rfl) (by first | exact Br.cs_one _ _ | simp [Value.oneCell', Rc.cs, Br.cs]) zS (by rfl) ?_
 refine Jl.qn<|Jq.qt<|Jc.ret ?_
 refine Jq.blkR ?_
 refine Jq.thenR ?_
 exact Jq.fin z' (.inl rfl) rfl (RetVs.cellA rfl zH tsh38 (by rfl) RetVs.nil) rfl zT zF
theorem rapply_i6 (b T : Br) (z : BrA) (k : UInt8) (hk : k.toNat = 6) (l : List Int) (x : AdC) (hb : b.Fit) (hms : b.cf.ms.length ≤ 1000000) (hl : l.length ≤ 1000) (h : numsOk l = true) (hq : manyN k.toNat = (l.length : Int))
 (hct : ∀ z, Ct Tryz.prog 42 [b.v z, .int .u8 k.toNat, .slice x.1 l.length x.2] (b.rws z) [.rd x.1 (i64s l)] (fun z' : BrA => T.v z') (fun z' => T.rws z') (fun _ => [])) :
 Ct Tryz.prog 22 [b.v z, (⟨k, l⟩ : Rc).v x] [] (b.rd z ++ [.rd x.1 (i64s l)]) (fun y : BrA => T.v y) (fun y => T.rws y) (fun _ => []) := by
 obtain ⟨⟨M, cM⟩, ⟨I, cI⟩, ⟨K, cK⟩⟩ := z
 obtain ⟨L, cL⟩ := x
 obtain ⟨f1, f2, f3, f4⟩ := hb
 have hk2 : (Rc.mk k l).k.toNat = 6 := hk
 refine Ct.of _ Tryz.func22 Tryz.ntmps22 rfl rfl (fun X W => ?_)
 refine Jc.qs<|Jc.qr ?_
 refine Jl.box rfl (by rfl) ?_
 intro b2
 refine Jl.box rfl (by rfl) ?_
 intro b3
 refine Jl.alloc tze38 ?_
 intro b4
 refine Jl.qn<|Jq.qt<|Jc.qs<|Jc.qr ?_
 refine Jl.pv (PR.loadW rfl tsh38 zH (by rfl)) ?_
 refine Jl.call (brown_ct b ((M, cM), (I, cI), (K, cK)) (by omega) (by omega) hms) en33 (by rfl) zT zF ?_
 rintro ⟨⟨A1, c1⟩, ⟨A2, c2⟩, ⟨A3, c3⟩⟩
 refine Jl.storeW rfl tsh38 rfl (by rfl) (by first | exact Br.cs_one _ _ | simp [Value.oneCell', Rc.cs, Br.cs]) zS (by rfl) ?_
 refine Jl.qn<|Jq.qt<|Jc.qs<|Jc.qs<|Jc.qr<|Jl.pv (PR.qf rfl tfl54_1) ?_
 refine Jl.pv (PR.load1 rfl tsh23 zH (by rfl)) ?_
 refine Jl.call (brnumbers_ct L cL l (by omega)) en38 (by rfl) zT zF ?_
 rintro ⟨⟩
 refine Jl.as (.bool true) (congrArg Value.bool h) ?_
 refine Jl.pv (PR.not rfl) ?_
 refine Jl.qn<|Jq.qt<|Jc.condF rfl<|Jc.skip<|Jq.qt<|Jc.qs<|Jc.qs<|Jc.qr<|Jl.pv (PR.qf rfl tfl54_0) ?_
 refine Jl.pv (PR.load1 rfl tsh5 zH (by rfl)) ?_
 refine Jl.pv (PR.eql false rfl rfl (decide_eq_false (by omega))) ?_
 refine Jl.qn<|Jq.qt<|Jc.condF rfl<|Jc.skip<|Jq.qt<|Jc.qs<|Jc.qs ?_
 refine Jc.drawn [0, 1, 3, 0, 8, 24, 63] ([(6, false)], []) [⟨[(0, false), (1, false), (3, false), (4, false), (5, false)], [], 2⟩] tmx (by kernel_rfl) ?_
 refine Dh.JH.cons<|Dh.JB.pv rfl trivial (fun _ => PR.qf rfl tfl54_0) ?_
 refine Dh.JB.rd [.blk _ _ _] rfl trivial zT (fun _ => PR.load1 rfl tsh5 Has.here (by rfl)) ?_
 refine Dh.JB.pv rfl trivial (fun _ => PR.qf rfl tfl54_1) ?_
 refine Dh.JB.rd [.blk _ _ _] rfl trivial zT (fun _ => PR.load1 rfl tsh23 Has.here (by rfl)) ?_
 refine Dh.JB.pv rfl trivial (fun _ => PR.len rfl tsl23) ?_
 refine Dh.JB.nil<|Dh.JL.nil ?_
 refine Dh.JE.mk rfl (fun _ h => by cases h) (fun C12_2 => ?_)
 refine Jl.call (rbmany_ct k.toNat) en40 (by rfl) zT zF ?_
 rintro ⟨⟩
 refine Jl.qn ?_
 refine Dh.Jq.segV zX ?_ zK
 refine Dh.JH.nil ?_
 refine Dh.JB.pv rfl trivial (fun _ => PR.neq (a := (manyN k.toNat)) (b := (l.length : Int)) false rfl rfl (decide_eq_false (fun h => h hq))) ?_
 refine Dh.JB.nil<|Dh.JL.nil<|Jq.qt<|Jc.condF rfl<|Jc.skip<|Jq.qt<|Jc.qs<|Jc.qs<|Jc.qr<|Jl.pv (PR.qf rfl tfl54_0) ?_
 refine Jl.pv (PR.load1 rfl tsh5 zH (by rfl)) ?_
 refine Jl.qn<|Jq.qt ?_
 refine Jc.block ?_
 refine Jc.qs<|Jc.qr ?_
 refine Jl.pv (PR.eql false rfl rfl (decide_eq_false (by omega))) ?_
 refine Jl.pv (PR.qa rfl)<|Jl.qn<|Jq.qt<|Jc.condF rfl<|Jc.qs<|Jc.qr ?_
 refine Jl.pv (PR.eql false rfl rfl (decide_eq_false (by omega))) ?_
 refine Jl.pv (PR.qa rfl)<|Jl.qn<|Jq.qt<|Jc.condF rfl<|Jc.qs<|Jc.qr ?_
 refine Jl.pv (PR.eql false rfl rfl (decide_eq_false (by omega))) ?_
 refine Jl.pv (PR.qa rfl)<|Jl.qn<|Jq.qt<|Jc.condF rfl<|Jc.qs<|Jc.qs<|Jc.qr ?_
 refine Jl.pv (PR.eql true rfl rfl (decide_eq_true (by omega))) ?_
 refine Jl.pv (PR.qa rfl)<|Jl.qn<|Jq.qt<|Jc.condT rfl<|Jc.skip<|Jq.qt<|Jc.condT rfl<|Jc.qs<|Jc.qr ?_
 refine Jl.pv (PR.loadW rfl tsh38 zH (by rfl)) ?_
 refine Jl.pv (PR.qf rfl tfl54_0) ?_
 refine Jl.pv (PR.load1 rfl tsh5 zH (by rfl)) ?_
 refine Jl.pv (PR.qf rfl tfl54_1) ?_
 refine Jl.pv (PR.load1 rfl tsh23 zH (by rfl)) ?_
 refine Jl.call (hct ((A1, c1), (A2, c2), (A3, c3))) en42 (by rfl) zT zF ?_
 rintro z'
 refine Jl.storeW rfl tsh38 rfl (by rfl) (by first | exact Br.cs_one _ _ | simp [Value.oneCell', Rc.cs, Br.cs]) zS (by rfl) ?_
 refine Jl.qn<|Jq.qt<|Jc.ret ?_
 refine Jq.blkR ?_
 refine Jq.thenR ?_
 exact Jq.fin z' (.inl rfl) rfl (RetVs.cellA rfl zH tsh38 (by rfl) RetVs.nil) rfl zT zF
theorem rapply_i7 (b T : Br) (z : BrA) (k : UInt8) (hk : k.toNat = 7) (l : List Int) (x : AdC) (hb : b.Fit) (hms : b.cf.ms.length ≤ 1000000) (hl : l.length ≤ 1000) (h : numsOk l = true) (hq : manyN k.toNat = (l.length : Int))
 (hct : ∀ z, Ct Tryz.prog 42 [b.v z, .int .u8 k.toNat, .slice x.1 l.length x.2] (b.rws z) [.rd x.1 (i64s l)] (fun z' : BrA => T.v z') (fun z' => T.rws z') (fun _ => [])) :
 Ct Tryz.prog 22 [b.v z, (⟨k, l⟩ : Rc).v x] [] (b.rd z ++ [.rd x.1 (i64s l)]) (fun y : BrA => T.v y) (fun y => T.rws y) (fun _ => []) := by
 obtain ⟨⟨M, cM⟩, ⟨I, cI⟩, ⟨K, cK⟩⟩ := z
 obtain ⟨L, cL⟩ := x
 obtain ⟨f1, f2, f3, f4⟩ := hb
 have hk2 : (Rc.mk k l).k.toNat = 7 := hk
 refine Ct.of _ Tryz.func22 Tryz.ntmps22 rfl rfl (fun X W => ?_)
 refine Jc.qs<|Jc.qr ?_
 refine Jl.box rfl (by rfl) ?_
 intro b2
 refine Jl.box rfl (by rfl) ?_
 intro b3
 refine Jl.alloc tze38 ?_
 intro b4
 refine Jl.qn<|Jq.qt<|Jc.qs<|Jc.qr ?_
 refine Jl.pv (PR.loadW rfl tsh38 zH (by rfl)) ?_
 refine Jl.call (brown_ct b ((M, cM), (I, cI), (K, cK)) (by omega) (by omega) hms) en33 (by rfl) zT zF ?_
 rintro ⟨⟨A1, c1⟩, ⟨A2, c2⟩, ⟨A3, c3⟩⟩
 refine Jl.storeW rfl tsh38 rfl (by rfl) (by first | exact Br.cs_one _ _ | simp [Value.oneCell', Rc.cs, Br.cs]) zS (by rfl) ?_
 refine Jl.qn<|Jq.qt<|Jc.qs<|Jc.qs<|Jc.qr<|Jl.pv (PR.qf rfl tfl54_1) ?_
 refine Jl.pv (PR.load1 rfl tsh23 zH (by rfl)) ?_
 refine Jl.call (brnumbers_ct L cL l (by omega)) en38 (by rfl) zT zF ?_
 rintro ⟨⟩
 refine Jl.as (.bool true) (congrArg Value.bool h) ?_
 refine Jl.pv (PR.not rfl) ?_
 refine Jl.qn<|Jq.qt<|Jc.condF rfl<|Jc.skip<|Jq.qt<|Jc.qs<|Jc.qs<|Jc.qr<|Jl.pv (PR.qf rfl tfl54_0) ?_
 refine Jl.pv (PR.load1 rfl tsh5 zH (by rfl)) ?_
 refine Jl.pv (PR.eql false rfl rfl (decide_eq_false (by omega))) ?_
 refine Jl.qn<|Jq.qt<|Jc.condF rfl<|Jc.skip<|Jq.qt<|Jc.qs<|Jc.qs ?_
 refine Jc.drawn [0, 1, 3, 0, 8, 24, 63] ([(6, false)], []) [⟨[(0, false), (1, false), (3, false), (4, false), (5, false)], [], 2⟩] tmx (by kernel_rfl) ?_
 refine Dh.JH.cons<|Dh.JB.pv rfl trivial (fun _ => PR.qf rfl tfl54_0) ?_
 refine Dh.JB.rd [.blk _ _ _] rfl trivial zT (fun _ => PR.load1 rfl tsh5 Has.here (by rfl)) ?_
 refine Dh.JB.pv rfl trivial (fun _ => PR.qf rfl tfl54_1) ?_
 refine Dh.JB.rd [.blk _ _ _] rfl trivial zT (fun _ => PR.load1 rfl tsh23 Has.here (by rfl)) ?_
 refine Dh.JB.pv rfl trivial (fun _ => PR.len rfl tsl23) ?_
 refine Dh.JB.nil<|Dh.JL.nil ?_
 refine Dh.JE.mk rfl (fun _ h => by cases h) (fun C12_2 => ?_)
 refine Jl.call (rbmany_ct k.toNat) en40 (by rfl) zT zF ?_
 rintro ⟨⟩
 refine Jl.qn ?_
 refine Dh.Jq.segV zX ?_ zK
 refine Dh.JH.nil ?_
 refine Dh.JB.pv rfl trivial (fun _ => PR.neq (a := (manyN k.toNat)) (b := (l.length : Int)) false rfl rfl (decide_eq_false (fun h => h hq))) ?_
 refine Dh.JB.nil<|Dh.JL.nil<|Jq.qt<|Jc.condF rfl<|Jc.skip<|Jq.qt<|Jc.qs<|Jc.qs<|Jc.qr<|Jl.pv (PR.qf rfl tfl54_0) ?_
 refine Jl.pv (PR.load1 rfl tsh5 zH (by rfl)) ?_
 refine Jl.qn<|Jq.qt ?_
 refine Jc.block ?_
 refine Jc.qs<|Jc.qr ?_
 refine Jl.pv (PR.eql false rfl rfl (decide_eq_false (by omega))) ?_
 refine Jl.pv (PR.qa rfl)<|Jl.qn<|Jq.qt<|Jc.condF rfl<|Jc.qs<|Jc.qr ?_
 refine Jl.pv (PR.eql false rfl rfl (decide_eq_false (by omega))) ?_
 refine Jl.pv (PR.qa rfl)<|Jl.qn<|Jq.qt<|Jc.condF rfl<|Jc.qs<|Jc.qr ?_
 refine Jl.pv (PR.eql false rfl rfl (decide_eq_false (by omega))) ?_
 refine Jl.pv (PR.qa rfl)<|Jl.qn<|Jq.qt<|Jc.condF rfl<|Jc.qs<|Jc.qs<|Jc.qr ?_
 refine Jl.pv (PR.eql false rfl rfl (decide_eq_false (by omega))) ?_
 refine Jl.pv (PR.qa rfl)<|Jl.qn<|Jq.qt<|Jc.condF rfl<|Jc.qs<|Jc.qr ?_
 refine Jl.pv (PR.eql true rfl rfl (decide_eq_true (by omega))) ?_
 refine Jl.pv (PR.qa rfl)<|Jl.qn<|Jq.qt<|Jc.condT rfl<|Jc.skip<|Jq.qt<|Jc.condT rfl<|Jc.qs<|Jc.qr ?_
 refine Jl.pv (PR.loadW rfl tsh38 zH (by rfl)) ?_
 refine Jl.pv (PR.qf rfl tfl54_0) ?_
 refine Jl.pv (PR.load1 rfl tsh5 zH (by rfl)) ?_
 refine Jl.pv (PR.qf rfl tfl54_1) ?_
 refine Jl.pv (PR.load1 rfl tsh23 zH (by rfl)) ?_
 refine Jl.call (hct ((A1, c1), (A2, c2), (A3, c3))) en42 (by rfl) zT zF ?_
 rintro z'
 refine Jl.storeW rfl tsh38 rfl (by rfl) (by first | exact Br.cs_one _ _ | simp [Value.oneCell', Rc.cs, Br.cs]) zS (by rfl) ?_
 refine Jl.qn<|Jq.qt<|Jc.ret ?_
 refine Jq.blkR ?_
 refine Jq.thenR ?_
 exact Jq.fin z' (.inl rfl) rfl (RetVs.cellA rfl zH tsh38 (by rfl) RetVs.nil) rfl zT zF
theorem rapply_i8 (b T : Br) (z : BrA) (k : UInt8) (hk : k.toNat = 8) (l : List Int) (x : AdC) (hb : b.Fit) (hms : b.cf.ms.length ≤ 1000000) (hl : l.length ≤ 1000) (h : numsOk l = true) (hq : manyN k.toNat = (l.length : Int))
 (hct : ∀ z, Ct Tryz.prog 42 [b.v z, .int .u8 k.toNat, .slice x.1 l.length x.2] (b.rws z) [.rd x.1 (i64s l)] (fun z' : BrA => T.v z') (fun z' => T.rws z') (fun _ => [])) :
 Ct Tryz.prog 22 [b.v z, (⟨k, l⟩ : Rc).v x] [] (b.rd z ++ [.rd x.1 (i64s l)]) (fun y : BrA => T.v y) (fun y => T.rws y) (fun _ => []) := by
 obtain ⟨⟨M, cM⟩, ⟨I, cI⟩, ⟨K, cK⟩⟩ := z
 obtain ⟨L, cL⟩ := x
 obtain ⟨f1, f2, f3, f4⟩ := hb
 have hk2 : (Rc.mk k l).k.toNat = 8 := hk
 refine Ct.of _ Tryz.func22 Tryz.ntmps22 rfl rfl (fun X W => ?_)
 refine Jc.qs<|Jc.qr ?_
 refine Jl.box rfl (by rfl) ?_
 intro b2
 refine Jl.box rfl (by rfl) ?_
 intro b3
 refine Jl.alloc tze38 ?_
 intro b4
 refine Jl.qn<|Jq.qt<|Jc.qs<|Jc.qr ?_
 refine Jl.pv (PR.loadW rfl tsh38 zH (by rfl)) ?_
 refine Jl.call (brown_ct b ((M, cM), (I, cI), (K, cK)) (by omega) (by omega) hms) en33 (by rfl) zT zF ?_
 rintro ⟨⟨A1, c1⟩, ⟨A2, c2⟩, ⟨A3, c3⟩⟩
 refine Jl.storeW rfl tsh38 rfl (by rfl) (by first | exact Br.cs_one _ _ | simp [Value.oneCell', Rc.cs, Br.cs]) zS (by rfl) ?_
 refine Jl.qn<|Jq.qt<|Jc.qs<|Jc.qs<|Jc.qr<|Jl.pv (PR.qf rfl tfl54_1) ?_
 refine Jl.pv (PR.load1 rfl tsh23 zH (by rfl)) ?_
 refine Jl.call (brnumbers_ct L cL l (by omega)) en38 (by rfl) zT zF ?_
 rintro ⟨⟩
 refine Jl.as (.bool true) (congrArg Value.bool h) ?_
 refine Jl.pv (PR.not rfl) ?_
 refine Jl.qn<|Jq.qt<|Jc.condF rfl<|Jc.skip<|Jq.qt<|Jc.qs<|Jc.qs<|Jc.qr<|Jl.pv (PR.qf rfl tfl54_0) ?_
 refine Jl.pv (PR.load1 rfl tsh5 zH (by rfl)) ?_
 refine Jl.pv (PR.eql false rfl rfl (decide_eq_false (by omega))) ?_
 refine Jl.qn<|Jq.qt<|Jc.condF rfl<|Jc.skip<|Jq.qt<|Jc.qs<|Jc.qs ?_
 refine Jc.drawn [0, 1, 3, 0, 8, 24, 63] ([(6, false)], []) [⟨[(0, false), (1, false), (3, false), (4, false), (5, false)], [], 2⟩] tmx (by kernel_rfl) ?_
 refine Dh.JH.cons<|Dh.JB.pv rfl trivial (fun _ => PR.qf rfl tfl54_0) ?_
 refine Dh.JB.rd [.blk _ _ _] rfl trivial zT (fun _ => PR.load1 rfl tsh5 Has.here (by rfl)) ?_
 refine Dh.JB.pv rfl trivial (fun _ => PR.qf rfl tfl54_1) ?_
 refine Dh.JB.rd [.blk _ _ _] rfl trivial zT (fun _ => PR.load1 rfl tsh23 Has.here (by rfl)) ?_
 refine Dh.JB.pv rfl trivial (fun _ => PR.len rfl tsl23) ?_
 refine Dh.JB.nil<|Dh.JL.nil ?_
 refine Dh.JE.mk rfl (fun _ h => by cases h) (fun C12_2 => ?_)
 refine Jl.call (rbmany_ct k.toNat) en40 (by rfl) zT zF ?_
 rintro ⟨⟩
 refine Jl.qn ?_
 refine Dh.Jq.segV zX ?_ zK
 refine Dh.JH.nil ?_
 refine Dh.JB.pv rfl trivial (fun _ => PR.neq (a := (manyN k.toNat)) (b := (l.length : Int)) false rfl rfl (decide_eq_false (fun h => h hq))) ?_
 refine Dh.JB.nil<|Dh.JL.nil<|Jq.qt<|Jc.condF rfl<|Jc.skip<|Jq.qt<|Jc.qs<|Jc.qs<|Jc.qr<|Jl.pv (PR.qf rfl tfl54_0) ?_
 refine Jl.pv (PR.load1 rfl tsh5 zH (by rfl)) ?_
 refine Jl.qn<|Jq.qt ?_
 refine Jc.block ?_
 refine Jc.qs<|Jc.qr ?_
 refine Jl.pv (PR.eql false rfl rfl (decide_eq_false (by omega))) ?_
 refine Jl.pv (PR.qa rfl)<|Jl.qn<|Jq.qt<|Jc.condF rfl<|Jc.qs<|Jc.qr ?_
 refine Jl.pv (PR.eql false rfl rfl (decide_eq_false (by omega))) ?_
 refine Jl.pv (PR.qa rfl)<|Jl.qn<|Jq.qt<|Jc.condF rfl<|Jc.qs<|Jc.qr ?_
 refine Jl.pv (PR.eql false rfl rfl (decide_eq_false (by omega))) ?_
 refine Jl.pv (PR.qa rfl)<|Jl.qn<|Jq.qt<|Jc.condF rfl<|Jc.qs<|Jc.qs<|Jc.qr ?_
 refine Jl.pv (PR.eql false rfl rfl (decide_eq_false (by omega))) ?_
 refine Jl.pv (PR.qa rfl)<|Jl.qn<|Jq.qt<|Jc.condF rfl<|Jc.qs<|Jc.qr ?_
 refine Jl.pv (PR.eql false rfl rfl (decide_eq_false (by omega))) ?_
 refine Jl.pv (PR.qa rfl)<|Jl.qn<|Jq.qt<|Jc.condF rfl<|Jc.qs<|Jc.qr ?_
 refine Jl.pv (PR.eql true rfl rfl (decide_eq_true (by omega))) ?_
 refine Jl.pv (PR.qa rfl)<|Jl.qn<|Jq.qt<|Jc.condT rfl<|Jc.skip<|Jq.qt<|Jc.condT rfl<|Jc.qs<|Jc.qr ?_
 refine Jl.pv (PR.loadW rfl tsh38 zH (by rfl)) ?_
 refine Jl.pv (PR.qf rfl tfl54_0) ?_
 refine Jl.pv (PR.load1 rfl tsh5 zH (by rfl)) ?_
 refine Jl.pv (PR.qf rfl tfl54_1) ?_
 refine Jl.pv (PR.load1 rfl tsh23 zH (by rfl)) ?_
 refine Jl.call (hct ((A1, c1), (A2, c2), (A3, c3))) en42 (by rfl) zT zF ?_
 rintro z'
 refine Jl.storeW rfl tsh38 rfl (by rfl) (by first | exact Br.cs_one _ _ | simp [Value.oneCell', Rc.cs, Br.cs]) zS (by rfl) ?_
 refine Jl.qn<|Jq.qt<|Jc.ret ?_
 refine Jq.blkR ?_
 refine Jq.thenR ?_
 exact Jq.fin z' (.inl rfl) rfl (RetVs.cellA rfl zH tsh38 (by rfl) RetVs.nil) rfl zT zF
theorem rapply_all (b : Br) (z : BrA) (r : Rc) (x : AdC) (hb : b.Fit) (hms : b.cf.ms.length ≤ 1000000) (hl : r.l.length ≤ 1000) (hc : r.l.length ≤ x.2) :
 Ct Tryz.prog 22 [b.v z, r.v x] [] (b.rd z ++ [.rd x.1 (i64s r.l)]) (fun y : BrA => (b.apply r).v y) (fun y => (b.apply r).rws y) (fun _ => []) := by
 have hn : b.its.length ≤ 1000000 := Nat.le_trans hb.its (by decide)
 have hm : b.kps.length ≤ 1000000 := Nat.le_trans hb.kps (by decide)
 by_cases ha : r.k.toNat = 2 ∨ admK r.k.toNat = true
 · exact rapply_adm b z r x hn hm hms hl hc ha
 by_cases hnum : numsOk r.l = true
 · have hk2 : r.k.toNat ≠ 2 := fun h => ha (.inl h)
   rw [show b.apply r = b.deed r.k.toNat r.l by rw [Br.apply, if_pos hnum, if_neg hk2]]
   by_cases hq : dT r.k.toNat = true ∧ (r.l.length : Int) = dM r.k.toNat
   · obtain ⟨ht, hq⟩ := hq
     have hmn : manyN r.k.toNat = r.l.length := by rw [manyN, if_pos ht, hq]
     have ha2 : ¬ admK r.k.toNat = true := fun h => ha (.inr h)
     obtain ⟨k, l⟩ := r
     obtain ⟨L, cL⟩ := x
     simp only [dT, decide_eq_true_eq] at ht
     simp only [admK, Bool.or_eq_true, decide_eq_true_eq] at ha2
     simp only at hq hk2 hnum hl hc hmn ⊢
     have hk' : k.toNat = 1 ∨ k.toNat = 3 ∨ k.toNat = 4 ∨ k.toNat = 5 ∨ k.toNat = 6 ∨ k.toNat = 7 ∨ k.toNat = 8 ∨ k.toNat = 14 ∨ k.toNat = 16 := by omega
     rcases hk' with h | h | h | h | h | h | h | h | h <;> rw [h] at hq
     · obtain rfl := len0 hq
       rw [show b.deed k.toNat [] = b.boot by rw [h]; rfl]
       exact rapply_boot b z k h (L, cL) hb hms hnum
     · obtain ⟨v, zo, w, rfl⟩ := len3 hq
       rw [show b.deed k.toNat [v, zo, w] = b.intent v zo w by rw [h]; rfl]
       exact rapply_intent b z k h v zo w (L, cL) hb hms hnum
     · obtain ⟨t, id, now, rfl⟩ := len3 hq
       rw [show b.deed k.toNat [t, id, now] = b.mk1 t id now by rw [h]; rfl]
       exact rapply_made b z k h t id now (L, cL) hb hms hnum
     · obtain ⟨n, rfl⟩ := len1 hq
       rw [show b.deed k.toNat [n] = b.fail by rw [h]; rfl]
       exact rapply_ref b _ z ⟨k, [n]⟩ (L, cL) hn hm hms hl hnum (.inl h) hmn (by unfold Br.fail; split <;> (try split) <;> exact ⟨rfl, rfl, rfl⟩) fun z => rfail_ct b z k h L cL n
     · obtain ⟨id, p, now, rfl⟩ := len3 hq
       rw [show b.deed k.toNat [id, p, now] = b.phase id p now by rw [h]; rfl]
       exact rapply_i6 b _ z k h _ (L, cL) hb hms hl hnum hmn fun z => rphase_ct b z k h L cL id p now hb.kps (by simp [numsOk] at hnum; omega)
     · obtain ⟨id, rfl⟩ := len1 hq
       rw [show b.deed k.toNat [id] = b.goneK id by rw [h]; rfl]
       exact rapply_i7 b _ z k h _ (L, cL) hb hms hl hnum hmn fun z => rgone_ct b z k h L cL id hb.kps
     · obtain ⟨id, t, v, zo, now, rfl⟩ := len5 hq
       rw [show b.deed k.toNat [id, t, v, zo, now] = b.take1 id t v zo now by rw [h]; rfl]
       exact rapply_i8 b _ z k h _ (L, cL) hb hms hl hnum hmn fun z => rtake_ct b z k h L cL id t v zo now hb.kps
     · obtain ⟨now, rfl⟩ := len1 hq
       rw [show b.deed k.toNat [now] = b.pause now by rw [h]; rfl]
       exact rapply_ref b _ z ⟨k, [now]⟩ (L, cL) hn hm hms hl hnum (.inr (show 11 ≤ k.toNat by omega)) hmn (by unfold Br.pause; split <;> (try split) <;> exact ⟨rfl, rfl, rfl⟩) fun z => rpause_ct b z k h L cL now
     · obtain rfl := len0 hq
       rw [show b.deed k.toNat [] = b.done1 by rw [h]; rfl]
       exact rapply_ref b _ z ⟨k, []⟩ (L, cL) hn hm hms hl hnum (.inr (show 11 ≤ k.toNat by omega)) hmn (by unfold Br.done1; split <;> exact ⟨rfl, rfl, rfl⟩) fun z => Ct.facts (pre := []) trivial (rdone_ct b z k h L cL)
   · rw [deed_no hk2 hq]
     refine rapply_no b z r x hn hm hms hl (.inr ⟨hnum, hk2, fun h => hq ?_⟩)
     by_cases ht : dT r.k.toNat = true
     · rw [manyN, if_pos ht] at h; exact ⟨ht, h.symm⟩
     · rw [manyN, if_neg ht] at h; omega
 · rw [show b.apply r = b by rw [Br.apply, if_neg hnum]]
   exact rapply_no b z r x hn hm hms hl (.inl (by simpa using hnum))
end Go.Proofs.YtakbgccddokbbaaGreatDoor
namespace Go.Proofs.YtakbgccddokbbaaGreatDoor
open Go.RowKit
def TL (sq : Int) (l : List It1) : Prop := l.Pairwise (fun a c => a.tok < c.tok) ∧ ∀ x ∈ l, 1 ≤ x.tok ∧ x.tok ≤ sq
def KL (l : List Kp) : Prop := l.Pairwise (fun a c => a.id < c.id) ∧ ∀ x ∈ l, (1 ≤ x.id ∧ x.id ≤ 1099511627776) ∧ 1 ≤ x.ph.toNat ∧ x.ph.toNat ≤ 10
theorem tk_lt {b : Br} (h : ∀ k, k < b.its.length → b.TokOk k) {j : Nat} : ∀ {i : Nat}, j < i → i < b.its.length → b.tk j < b.tk i
  | 0, h1, _ => by omega
  | i + 1, h1, h2 => by
    have h3 : b.tk i < b.tk (i + 1) := (h (i + 1) h2).lo
    rcases Nat.lt_succ_iff_lt_or_eq.1 h1 with h4 | rfl
    · have := tk_lt h h4 (by omega); omega
    · exact h3
theorem tl_of {b : Br} (h : ∀ k, k < b.its.length → b.TokOk k) : TL b.sq b.its := by
 refine ⟨List.pairwise_iff_getElem.2 fun i j hi hj hij => ?_, fun x hx => ?_⟩
 · have := tk_lt h hij hj
   rw [tk_at hi, tk_at hj] at this
   exact this
 · obtain ⟨k, hk, rfl⟩ := List.mem_iff_getElem.1 hx
   have h1 := (h k hk).hi
   have h0 : (0 : Int) < b.tk 0 := (h 0 (by omega)).lo
   rw [tk_at hk] at h1
   refine ⟨?_, h1⟩
   rw [← tk_at hk]
   rcases Nat.eq_zero_or_pos k with rfl | hp
   · omega
   · have := tk_lt h hp hk; omega
theorem of_tl {b : Br} (h : TL b.sq b.its) : ∀ k, k < b.its.length → b.TokOk k := fun k hk => by
  have h2 := h.2 _ (List.getElem_mem hk)
  refine ⟨?_, by rw [tk_at hk]; exact h2.2⟩
  rw [tk_at hk]
  cases k with
  | zero => show (0 : Int) < _; omega
  | succ k =>
    show b.tk k < _
    rw [tk_at (show k < b.its.length by omega)]
    exact List.pairwise_iff_getElem.1 h.1 k (k + 1) (by omega) hk (by omega)
theorem idn_lt' {b : Br} (h : ∀ k, k < b.kps.length → b.KpOk k) {j : Nat} : ∀ {i : Nat}, j < i → i < b.kps.length → b.idn j < b.idn i
  | 0, h1, _ => by omega
  | i + 1, h1, h2 => by
    have h3 : b.idn i < b.idn (i + 1) := (h (i + 1) h2).lo
    rcases Nat.lt_succ_iff_lt_or_eq.1 h1 with h4 | rfl
    · have := idn_lt' h h4 (by omega); omega
    · exact h3
theorem kl_of {b : Br} (h : ∀ k, k < b.kps.length → b.KpOk k) : KL b.kps := by
 refine ⟨List.pairwise_iff_getElem.2 fun i j hi hj hij => ?_, fun x hx => ?_⟩
 · have := idn_lt' h hij hj
   rw [idn_at hi, idn_at hj] at this
   exact this
 · obtain ⟨k, hk, rfl⟩ := List.mem_iff_getElem.1 hx
   have h1 := h k hk
   have h0 : (0 : Int) < b.idn 0 := (h 0 (by omega)).lo
   have h2 := h1.hi
   have h3 := h1.p1
   have h4 := h1.p2
   rw [phn_at hk] at h3 h4
   rw [idn_at hk] at h2
   refine ⟨⟨?_, h2⟩, h3, h4⟩
   rw [← idn_at hk]
   rcases Nat.eq_zero_or_pos k with rfl | hp
   · omega
   · have := idn_lt' h hp hk; omega
theorem of_kl {b : Br} (h : KL b.kps) : ∀ k, k < b.kps.length → b.KpOk k := fun k hk => by
  obtain ⟨h2, h3, h4⟩ := h.2 _ (List.getElem_mem hk)
  refine ⟨?_, by rw [idn_at hk]; exact h2.2, by rw [phn_at hk]; exact h3, by rw [phn_at hk]; exact h4⟩
  rw [idn_at hk]
  cases k with
  | zero => show (0 : Int) < _; omega
  | succ k =>
    show b.idn k < _
    rw [idn_at (show k < b.kps.length by omega)]
    exact List.pairwise_iff_getElem.1 h.1 k (k + 1) (by omega) hk (by omega)
theorem Br.Ok.mkL {b : Br} (he : 0 ≤ b.ep ∧ b.ep ≤ 1099511627776) (hs : 0 ≤ b.sq ∧ b.sq ≤ 1099511627776) (ht : TL b.sq b.its) (hk : KL b.kps) (hr : b.rf.st.toNat = 1 → (1 ≤ b.rf.fr ∧ b.rf.fr ≤ 1099511627776) ∧ 1 ≤ b.rf.ta ∧ b.rf.ta ≤ 1099511627776)
 (hu : b.set = false → b.its.length = 0 ∧ b.rf.st.toNat = 0) (hc : b.set = true → b.cf.ok = true) : b.Ok := ⟨he, hs, of_tl ht, of_kl hk, hr, hu, hc⟩
theorem kl_set {l : List Kp} (h : KL l) {i : Nat} (hi : i < l.length) {x : Kp} (hx : x.id = l[i].id) (hp : 1 ≤ x.ph.toNat ∧ x.ph.toNat ≤ 10) : KL (l.set i x) := by
 refine ⟨List.pairwise_iff_getElem.2 fun a c ha hc hac => ?_, fun y hy => ?_⟩
 · rw [List.length_set] at ha hc
   have := List.pairwise_iff_getElem.1 h.1 a c ha hc hac
   rw [List.getElem_set, List.getElem_set]
   split <;> split
   · omega
   · rename_i e _; subst e; rw [hx]; exact this
   · rename_i _ e; subst e; rw [hx]; exact this
   · exact this
 · rcases List.mem_or_eq_of_mem_set hy with hy | rfl
   · exact h.2 y hy
   · have := (h.2 _ (List.getElem_mem hi)).1
     rw [← hx] at this
     exact ⟨this, hp⟩
theorem kl_era {l : List Kp} (h : KL l) (i : Nat) : KL (l.take i ++ l.drop (i + 1)) := by
 rw [← List.eraseIdx_eq_take_drop_succ]
 exact ⟨h.1.sublist (List.eraseIdx_sublist ..), fun y hy => h.2 y ((List.eraseIdx_sublist ..).subset hy)⟩
theorem tl_era {sq : Int} {l : List It1} (h : TL sq l) (i : Nat) : TL sq (eraL l i) := by
 rw [eraL, ← List.eraseIdx_eq_take_drop_succ]
 exact ⟨h.1.sublist (List.eraseIdx_sublist ..), fun y hy => h.2 y ((List.eraseIdx_sublist ..).subset hy)⟩
theorem tl_add {sq : Int} {l : List It1} (h : TL sq l) (hs : 0 ≤ sq) {x : It1} (hx : x.tok = sq + 1) : TL (sq + 1) (l ++ [x]) := by
 refine ⟨List.pairwise_append.2 ⟨h.1, List.pairwise_singleton .., fun a ha c hc => ?_⟩, fun y hy => ?_⟩
 · rw [List.mem_singleton] at hc; subst hc
   have := (h.2 a ha).2; omega
 · rcases List.mem_append.1 hy with hy | hy
   · have := h.2 y hy; omega
   · rw [List.mem_singleton] at hy; subst hy; omega
theorem insAt_le (l : List Kp) (id : Int) : insAt l id ≤ l.length := List.findIdx_le_length
theorem kl_ins {l : List Kp} (h : KL l) {x : Kp} (hno : ∀ y ∈ l, y.id ≠ x.id) (hx : (1 ≤ x.id ∧ x.id ≤ 1099511627776) ∧ 1 ≤ x.ph.toNat ∧ x.ph.toNat ≤ 10) : KL (insL l (insAt l x.id) x) := by
 have hle := insAt_le l x.id
 have hlo : ∀ y ∈ l.take (insAt l x.id), y.id < x.id := fun y hy => by
  obtain ⟨j, hj, rfl⟩ := List.mem_iff_getElem.1 hy
  rw [List.length_take] at hj
  rw [List.getElem_take]
  have h1 := List.not_of_lt_findIdx (show j < l.findIdx fun k => decide (x.id < k.id) from by have : insAt l x.id = l.findIdx fun k => decide (x.id < k.id) := rfl; omega)
  simp only [Bool.not_eq_true, decide_eq_false_iff_not] at h1
  have h2 := hno _ (List.getElem_mem (show j < l.length by omega))
  omega
 have hhi : ∀ y ∈ l.drop (insAt l x.id), x.id < y.id := fun y hy => by
  obtain ⟨j, hj, rfl⟩ := List.mem_iff_getElem.1 hy
  rw [List.length_drop] at hj
  rw [List.getElem_drop]
  have ha : insAt l x.id < l.length := by omega
  have h1 : decide (x.id < (l[insAt l x.id]'ha).id) = true := List.findIdx_getElem (p := fun k : Kp => decide (x.id < k.id)) (xs := l) (w := ha)
  have h1 := of_decide_eq_true h1
  rcases Nat.eq_zero_or_pos j with rfl | hp
  · exact h1
  · have := List.pairwise_iff_getElem.1 h.1 (insAt l x.id) (insAt l x.id + j) ha (by omega) (by omega)
    omega
 refine ⟨List.pairwise_append.2 ⟨List.pairwise_append.2 ⟨h.1.sublist (List.take_sublist ..), List.pairwise_singleton .., fun a ha c hc => ?_⟩, h.1.sublist (List.drop_sublist ..), fun a ha c hc => ?_⟩, fun y hy => ?_⟩
 · rw [List.mem_singleton] at hc; subst hc; exact hlo a ha
 · rcases List.mem_append.1 ha with ha | ha
   · have := hlo a ha; have := hhi c hc; omega
   · rw [List.mem_singleton] at ha; subst ha; exact hhi c hc
 · rcases List.mem_append.1 hy with hy | hy
   · rcases List.mem_append.1 hy with hy | hy
     · exact h.2 y (List.mem_of_mem_take hy)
     · rw [List.mem_singleton] at hy; subst hy; exact hx
   · exact h.2 y (List.mem_of_mem_drop hy)
theorem findK_none {b : Br} {id : Int} (h : b.findK id = none) : ∀ y ∈ b.kps, y.id ≠ id := fun y hy => by
 have := List.findIdx?_eq_none_iff.1 h y hy
 simpa using this
theorem legal_in {f : Nat} {p : Int} (hp : 0 ≤ p) (h : legal f p = true) : 1 ≤ (UInt8.ofNat p.toNat).toNat ∧ (UInt8.ofNat p.toNat).toNat ≤ 10 := by
 rw [legal, Bool.and_eq_true, decide_eq_true_eq] at h
 obtain ⟨h1, h2⟩ := h
 have h3 : p.toNat ≠ 0 := fun e => by
  rw [e] at h2
  have hf : f < 11 ∨ 11 ≤ f := Nat.lt_or_ge ..
  rcases hf with hf | hf
  · have : f = 0 ∨ f = 1 ∨ f = 2 ∨ f = 3 ∨ f = 4 ∨ f = 5 ∨ f = 6 ∨ f = 7 ∨ f = 8 ∨ f = 9 ∨ f = 10 := by omega
    rcases this with rfl | rfl | rfl | rfl | rfl | rfl | rfl | rfl | rfl | rfl | rfl <;> exact absurd h2 (by decide)
  · rw [List.getD_eq_getElem?_getD, List.getElem?_eq_none (show legalL.length ≤ _ from hf)] at h2
    exact absurd h2 (by simp)
 rw [show (UInt8.ofNat p.toNat).toNat = p.toNat by simp; omega]
 omega
section
variable {b : Br}
theorem ok_boot (h : b.Ok) : b.boot.Ok := by
 unfold Br.boot
 split
 · have := h.ep
   exact Br.Ok.mkL ⟨by show 0 ≤ b.ep + 1; omega, by show b.ep + 1 ≤ _; omega⟩ h.sq (tl_of (b := b) h.its) (kl_of (b := b) h.kps) h.rf h.un h.cf
 · exact h
theorem ok_intent (h : b.Ok) (v z w : Int) : (b.intent v z w).Ok := by
 unfold Br.intent
 split
 · rename_i hc
   simp only [Bool.and_eq_true, decide_eq_true_eq] at hc
   have := h.sq
   refine Br.Ok.mkL h.ep ⟨by show 0 ≤ b.sq + 1; omega, by show b.sq + 1 ≤ _; omega⟩ (tl_add (tl_of (b := b) h.its) h.sq.1 rfl) (kl_of (b := b) h.kps) h.rf (fun hs => ?_) h.cf
   have hs : b.set = false := hs
   rw [hc.1.1] at hs; cases hs
 · exact h
theorem ok_mk1 (h : b.Ok) (t id now : Int) (hid : id ≤ 1099511627776) : (b.mk1 t id now).Ok := by
  cases ht : b.findT t with
  | none => rw [Br.mk1, ht]; exact h
  | some i =>
    rw [Br.mk1, ht]
    dsimp only
    split
    · exact h
    · rename_i hc
      simp only [Bool.or_eq_true, decide_eq_true_eq, not_or, Option.not_isSome_iff_eq_none] at hc
      obtain ⟨hi, _⟩ := findT_some ht
      have hset : b.set = true := by
        cases hs : b.set
        · have := (h.un hs).1; omega
        · rfl
      refine Br.Ok.mkL h.ep h.sq (tl_era (tl_of (b := b) h.its) i) (kl_ins (x := madeK (b.its.getD i ⟨0, 0, 0, false⟩) id now) (kl_of (b := b) h.kps) (findK_none hc.2) ⟨⟨by show 1 ≤ id; omega, hid⟩, ?_⟩) ?_ (fun hs => ?_) h.cf
      · show 1 ≤ (if _ then (9 : UInt8) else 1).toNat ∧ (if _ then (9 : UInt8) else 1).toNat ≤ 10
        split <;> decide
      · have e3 : b.rf0.st = b.rf.st ∧ b.rf0.fr = b.rf.fr ∧ b.rf0.ta = b.rf.ta := by unfold Br.rf0; split <;> exact ⟨rfl, rfl, rfl⟩
        show b.rf0.st.toNat = 1 → (1 ≤ b.rf0.fr ∧ b.rf0.fr ≤ 1099511627776) ∧ 1 ≤ b.rf0.ta ∧ b.rf0.ta ≤ 1099511627776
        rw [e3.1, e3.2.1, e3.2.2]
        exact h.rf
      · have hs : b.set = false := hs
        rw [hset] at hs; cases hs
theorem ok_fail (h : b.Ok) : b.fail.Ok := by
 unfold Br.fail
 split
 · rename_i ha
   split
   · exact h.of rfl rfl rfl rfl (fun _ => ⟨(act_rf h ha).1, (act_rf h ha).1⟩) (fun hs => by have hs' : b.set = false := hs; rw [set_of_act h ha] at hs'; cases hs') h.cf
   · exact h.of rfl rfl rfl rfl (fun _ => act_rf (b := b) h ha) (fun hs => by have hs' : b.set = false := hs; rw [set_of_act h ha] at hs'; cases hs') h.cf
 · exact h
theorem ok_kps (h : b.Ok) {l : List Kp} (hl : KL l) : ({ b with kps := l } : Br).Ok := Br.Ok.mkL h.ep h.sq (tl_of (b := b) h.its) hl h.rf h.un h.cf
theorem ok_phase (h : b.Ok) (id p now : Int) (hp : 0 ≤ p) : (b.phase id p now).Ok := by
 unfold Br.phase
 split
 · exact h
 · rename_i i hf
   obtain ⟨hi, _⟩ := findK_some hf
   split
   · rename_i hl
     exact ok_kps h (kl_set (kl_of (b := b) h.kps) hi (by rw [kAt_eq hi]) (legal_in hp hl))
   · exact h
theorem ok_goneK (h : b.Ok) (id : Int) : (b.goneK id).Ok := by
 unfold Br.goneK
 split
 · exact h
 · exact ok_kps h (kl_era (kl_of (b := b) h.kps) _)
theorem ok_take1 (h : b.Ok) (id t v z now : Int) (hid : id ≤ 1099511627776) : (b.take1 id t v z now).Ok := by
 unfold Br.take1
 split
 · rename_i hc
   simp only [Bool.and_eq_true, decide_eq_true_eq, Option.isNone_iff_eq_none] at hc
   exact ok_kps h (kl_ins (x := ⟨id, t, v, z, 8, now, false, false⟩) (kl_of (b := b) h.kps) (findK_none hc.2) ⟨⟨hc.1, hid⟩, by show 1 ≤ (8 : UInt8).toNat ∧ (8 : UInt8).toNat ≤ 10; decide⟩)
 · exact h
theorem ok_pause (h : b.Ok) (now : Int) : (b.pause now).Ok := by
 unfold Br.pause
 split
 · rename_i ha
   split
   · exact h
   · exact h.of rfl rfl rfl rfl (fun _ => act_rf (b := b) h ha) (fun hs => by have hs' : b.set = false := hs; rw [set_of_act h ha] at hs'; cases hs') h.cf
 · exact h
theorem ok_done1 (h : b.Ok) : b.done1.Ok := by
 unfold Br.done1
 split
 · rename_i ha
   exact h.of rfl rfl rfl rfl (fun hx => absurd (show (2 : Nat) = 1 from hx) (by decide)) (fun hs => by have hs' : b.set = false := hs; rw [set_of_act h ha] at hs'; cases hs') (fun hs => okc_ve (h.cf hs) (act_rf h ha).2)
 · exact h
theorem ok_apply (h : b.Ok) (r : Rc) : (b.apply r).Ok := by
 unfold Br.apply
 split
 · rename_i hn
   have hin := numsOk_iff.1 hn
   split
   · exact ok_group h r.l
   · unfold Br.deed
     split <;> (try simp only [*] at hin) <;> first
      | exact h
      | exact ok_boot h
      | exact ok_intent h ..
      | exact ok_fail h
      | exact ok_goneK h ..
      | exact ok_guard h ..
      | exact ok_compl h ..
      | exact ok_canc h
      | exact ok_roll h
      | exact ok_pause h ..
      | exact ok_go1 h
      | exact ok_done1 h
      | exact ok_mk1 h _ _ _ (hin 1 (by simp)).2
      | exact ok_phase h _ _ _ (hin 1 (by simp)).1
      | exact ok_take1 h _ _ _ _ _ (hin 0 (by simp)).2
      | exact ok_begin h (hin 0 (by simp)).2
 · exact h
end
end Go.Proofs.YtakbgccddokbbaaGreatDoor
namespace Go.Proofs.YtakbgccddokbbaaGreatDoor
open Go.RowKit
attribute [local irreducible] Res.blk Res.row Fact.rd Fact.chg
structure Br.In (b : Br) (n : Nat) : Prop where
 ok : b.Ok
 its : b.its.length ≤ n
 kps : b.kps.length ≤ n
 ms : b.cf.ms.length ≤ 1000
 ep : b.ep ≤ n
theorem Br.In.fit {b : Br} {n : Nat} (h : b.In n) (hn : n ≤ 900000) : b.Fit := ⟨by have := h.ok.ep; omega, by have := h.ok.sq; omega, by have := h.its; omega, by have := h.kps; omega⟩
theorem bz0_in : bz0.In 0 := ⟨Br.Ok.mkL (by decide) (by decide) ⟨List.Pairwise.nil, fun x hx => absurd hx List.not_mem_nil⟩ ⟨List.Pairwise.nil, fun x hx => absurd hx List.not_mem_nil⟩ (fun h => absurd h (by decide)) (fun _ => ⟨rfl, rfl⟩) (fun h => by cases h), Nat.le_refl _, Nat.le_refl _, by decide, by decide⟩
def Br.Gr (b c : Br) (l : List Int) : Prop := c.its.length ≤ b.its.length + 1 ∧ c.kps.length ≤ b.kps.length + 1 ∧ c.cf.ms.length ≤ max b.cf.ms.length l.length ∧ c.ep ≤ b.ep + 1
theorem gr_self (b : Br) (l : List Int) : b.Gr b l := ⟨by omega, by omega, by omega, by omega⟩
theorem gr_apply (b : Br) (r : Rc) : b.Gr (b.apply r) r.l := by
 unfold Br.apply
 split
 · split
   · unfold Br.group
     split
     · refine ⟨by show b.its.length ≤ _; omega, by show b.kps.length ≤ _; omega, ?_, by show b.ep ≤ _; omega⟩
       have := cfOf_ms r.l
       show (if b.set = true then { cfOf r.l with ve := b.cf.ve } else cfOf r.l).ms.length ≤ _
       split
       · show (cfOf r.l).ms.length ≤ _; omega
       · omega
     · exact gr_self b _
   · generalize r.l = l
     have hset : ∀ (i : Nat) (x : Kp), b.Gr (b.onK1 i x) l := fun i x => ⟨by show b.its.length ≤ _; omega, by show (b.kps.set i x).length ≤ _; rw [List.length_set]; omega, by show b.cf.ms.length ≤ _; omega, by show b.ep ≤ _; omega⟩
     have hrf : ∀ (x : Rf) (v : Int), b.Gr { b with rf := x, cf := { b.cf with ve := v } } l := fun x v => ⟨by show b.its.length ≤ _; omega, by show b.kps.length ≤ _; omega, by show b.cf.ms.length ≤ _; omega, by show b.ep ≤ _; omega⟩
     have hrf' : ∀ (x : Rf), b.Gr { b with rf := x } l := fun x => ⟨by show b.its.length ≤ _; omega, by show b.kps.length ≤ _; omega, by show b.cf.ms.length ≤ _; omega, by show b.ep ≤ _; omega⟩
     unfold Br.deed
     split
     · unfold Br.boot; split
       · exact ⟨by show b.its.length ≤ _; omega, by show b.kps.length ≤ _; omega, by show b.cf.ms.length ≤ _; omega, by show b.ep + 1 ≤ _; omega⟩
       · exact gr_self ..
     · unfold Br.intent; split
       · exact ⟨by show (b.its ++ [_]).length ≤ _; rw [List.length_append]; exact Nat.le_refl _, by show b.kps.length ≤ _; omega, by show b.cf.ms.length ≤ _; omega, by show b.ep ≤ _; omega⟩
       · exact gr_self ..
     · unfold Br.mk1; split
       · exact gr_self ..
       · split
         · exact gr_self ..
         · rename_i i hi _
           obtain ⟨hi, _⟩ := findT_some hi
           exact ⟨by show (eraL b.its i).length ≤ _; rw [eraL_len hi]; omega, by show (insL b.kps _ _).length ≤ _; rw [insL_len _ (insAt_le ..)]; omega, by show b.cf.ms.length ≤ _; omega, by show b.ep ≤ _; omega⟩
     · unfold Br.fail; split <;> (try split) <;> first | exact hrf' _ | exact gr_self ..
     · unfold Br.phase; split <;> (try split) <;> first | exact hset _ _ | exact gr_self ..
     · unfold Br.goneK; split
       · exact gr_self ..
       · exact ⟨by show b.its.length ≤ _; omega, by show (b.kps.take _ ++ b.kps.drop _).length ≤ _; rw [List.length_append, List.length_take, List.length_drop]; omega, by show b.cf.ms.length ≤ _; omega, by show b.ep ≤ _; omega⟩
     · unfold Br.take1; split
       · exact ⟨by show b.its.length ≤ _; omega, by show (insL b.kps _ _).length ≤ _; rw [insL_len _ (insAt_le ..)]; omega, by show b.cf.ms.length ≤ _; omega, by show b.ep ≤ _; omega⟩
       · exact gr_self ..
     · unfold Br.guard; split <;> (try split) <;> first | exact hset _ _ | exact gr_self ..
     · unfold Br.compl; split <;> first | exact hset _ _ | exact gr_self ..
     · unfold Br.begin1; split <;> first | exact hrf' _ | exact gr_self ..
     · unfold Br.canc; split <;> first | exact hrf' _ | exact gr_self ..
     · unfold Br.roll; split <;> first | exact hrf' _ | exact gr_self ..
     · unfold Br.pause; split <;> (try split) <;> first | exact hrf' _ | exact gr_self ..
     · unfold Br.go1; split <;> (try split) <;> first | exact hrf' _ | exact gr_self ..
     · unfold Br.done1; split <;> first | exact hrf _ _ | exact gr_self ..
     · exact gr_self ..
 · exact gr_self ..
theorem Br.In.step {b : Br} {n : Nat} (h : b.In n) {r : Rc} (hr : r.l.length ≤ 1000) : (b.apply r).In (n + 1) := by
 obtain ⟨g1, g2, g3, g4⟩ := gr_apply b r
 have h1 := h.its
 have h2 := h.kps
 have h3 := h.ms
 have h4 := h.ep
 exact ⟨ok_apply h.ok r, by omega, by omega, by omega, by omega⟩
theorem allK_in {b : Br} {n : Nat} (h : b.In n) {zs : Rcs} (hz : ∀ k (h : k < zs.length), zs[k].2.l.length ≤ 1000) : ∀ k, k ≤ zs.length → (allK b zs k).In (n + k)
  | 0, _ => by rw [allK, List.take_zero]; exact h
  | k + 1, hk => by
    rw [allK_succ b (show k < zs.length by omega), ← Nat.add_assoc]
    exact (allK_in h hz k (by omega)).step (hz k (by omega))
theorem step_any {b : Br} {n : Nat} (h : b.In n) (hn : n ≤ 900000) {r : Rc} {x : AdC} (h1 : r.l.length ≤ 1000) (h2 : r.l.length ≤ x.2) : StepOk .chg b r x :=
 ⟨h1, h2, fun z h3 h4 h5 h6 => deed_all b z r x (h.fit hn) h3 h4 h5 h6, fun h3 h4 => deed_no h3 h4⟩
def RcsSm (zs : Rcs) : Prop := ∀ k (h : k < zs.length), zs[k].2.l.length ≤ 1000 ∧ zs[k].2.l.length ≤ zs[k].1.2
theorem ball_any (b : Br) (n : Nat) (z : BrA) (L : Option Addr) (cL : Nat) (zs : Rcs) (h : b.In n) (hn : n + zs.length ≤ 900000) (hz : RcsSm zs) :
 Ct Tryz.prog 29 [b.v z, .slice L zs.length cL] [] (b.rd z ++ [.rd L (rcsV zs), .rcs zs, .lim, .chg]) (fun x : BrA => (allK b zs zs.length).v x) (fun x => (allK b zs zs.length).rows x) (fun _ => []) := by
 have h1 := h.its
 have h2 := h.kps
 have h3 := h.ms
 exact ball_ct .chg b z L cL zs (by omega) (by omega) (by omega) (by omega) fun k hk => step_any (allK_in h (fun k hk => (hz k hk).1) k (by omega)) (by omega) (hz k hk).1 (hz k hk).2
theorem bapply_any (b : Br) (n : Nat) (z : BrA) (r : Rc) (x : AdC) (h : b.In n) (hn : n ≤ 900000) (hl : r.l.length ≤ 1000) (hc : r.l.length ≤ x.2) :
 Ct Tryz.prog 61 [b.v z, r.v x] [] (b.rd z ++ [.rd x.1 (i64s r.l), .lim, .chg]) (fun y : BrA => (b.apply r).v y) (fun y => (b.apply r).rows y) (fun _ => []) := by
 have h1 := h.its
 have h2 := h.kps
 have h3 := h.ms
 exact bapply_ct .chg b z r x (by omega) (by omega) (by omega) (step_any h hn hl hc)
theorem rall13_ct (b : Br) (n : Nat) (z : BrA) (L : Option Addr) (cL : Nat) (zs : Rcs) (h : b.In n) (hn : n + zs.length ≤ 900000) (hz : RcsSm zs) :
 Ct Tryz.prog 15 [b.v z, .slice L zs.length cL] [] (b.rd z ++ [.rd L (rcsV zs), .rcs zs]) (fun x : BrA => (allK b zs zs.length).v x) (fun x => (allK b zs zs.length).rws x) (fun _ => []) := by
 obtain ⟨⟨M, cM⟩, ⟨I, cI⟩, ⟨K, cK⟩⟩ := z
 have h1 := h.its
 have h2 := h.kps
 have h3 := h.ms
 have hrl := rcsV_len zs
 refine Ct.of _ Tryz.func15 Tryz.ntmps15 rfl rfl (fun X W => ?_)
 refine Jc.qs<|Jc.qr ?_
 refine Jl.box rfl (by rfl) ?_
 intro b2
 refine Jl.alloc tze38 ?_
 intro b4
 refine Jl.qn<|Jq.qt<|Jc.qs<|Jc.qr ?_
 refine Jl.pv (PR.loadW rfl tsh38 zH (by rfl)) ?_
 refine Jl.call (brown_ct b ((M, cM), (I, cI), (K, cK)) (by omega) (by omega) (by omega)) en33 (by rfl) zT zF ?_
 rintro ⟨⟨A1, c1⟩, ⟨A2, c2⟩, ⟨A3, c3⟩⟩
 refine Jl.storeW rfl tsh38 rfl (by rfl) (by first | exact Br.cs_one _ _ | simp [Value.oneCell', Rc.cs]) zS (by rfl) ?_
 refine Jl.qn<|Jq.qt<|Jc.qs<|Jc.qs<|Jc.qr<|Jl.pv (PR.qa rfl)<|Jl.qn<|Jq.qt ?_
 refine Jc.block ?_
 refine Jc.lessR (rs := .blk b4 38 (bz0.cs nilZ) :: .blk b2 38 ((allK b zs 0).cs ((A1, c1), (A2, c2), (A3, c3))) :: (allK b zs 0).rws ((A1, c1), (A2, c2), (A3, c3))) zT ?_
 refine Jc.loop (σ := { k : Nat // k ≤ zs.length } × BrA) (fun s => [(5, .int .i64 (s.1.1 : Int)), (1, .slice L zs.length cL), (2, ptr b2), (4, ptr b4)]) (fun s => .blk b4 38 (bz0.cs nilZ) :: .blk b2 38 ((allK b zs s.1.1).cs s.2) :: (allK b zs s.1.1).rws s.2) (fun s => [.rd L (rcsV zs), .rcs zs]) (fun s => zs.length - s.1.1) (⟨0, Nat.zero_le _⟩, ((A1, c1), (A2, c2), (A3, c3))) (by repeat (first | exact trivial | refine And.intro rfl ?_)) rfl zF ?_
 rintro ⟨⟨k, hk⟩, ⟨M2, m2⟩, ⟨I2, i2⟩, ⟨K2, k2⟩⟩
 show Jc _ _ _ _ _ _ [(5, Value.int .i64 (k : Int)), (1, .slice L zs.length cL), (2, ptr b2), (4, ptr b4)] (.blk b4 38 (bz0.cs nilZ) :: .blk b2 38 ((allK b zs k).cs ((M2, m2), (I2, i2), (K2, k2))) :: (allK b zs k).rws ((M2, m2), (I2, i2), (K2, k2))) [.rd L (rcsV zs), .rcs zs]
 have hin := allK_in h (fun k hk => (hz k hk).1) k hk
 have h4 := hin.ms
 refine Jc.qs<|Jc.qs<|Jc.qr<|Jl.pv (PR.qm rfl)<|Jl.pv (PR.qm rfl) ?_
 refine Jl.pv (PR.len rfl tsl22) ?_
 refine Jl.pv (PR.lss _ rfl rfl rfl) ?_
 refine Jl.qn<|Jq.qt ?_
 refine Jc.cond rfl (fun h0 => ?_) (fun h0 => ?_)
 · try replace h0 := zV h0
   have hlt : k < zs.length := by omega
   refine Jc.fact (.rd zs[k].1.1 (i64s zs[k].2.l)) (φ := .rcs zs) zM (fun X W h => h _ (List.getElem_mem hlt)) ?_
   refine Jc.skip<|Jq.qt<|Jc.qs ?_
   refine Jc.block ?_
   refine Jc.drawn [0, 0, 0, 6, 14, 31, 63] ([], []) [⟨[(0, false), (1, false), (2, false), (3, false), (4, false)], [], 5⟩, ⟨[], [], 6⟩] tmx (by kernel_rfl) ?_
   refine Dh.JH.cons ?_
   refine Dh.JB.rd [.blk _ _ _] rfl trivial zT (fun _ => PR.loadW rfl tsh38 Has.here (by rfl)) ?_
   refine Dh.JB.pv rfl trivial (fun _ => PR.qm rfl)<|Dh.JB.pv rfl trivial (fun _ => PR.qm rfl) ?_
   refine Dh.JB.pv rfl trivial (fun _ => PR.idx k rfl rfl tsl22 zM (rcsV_len _) (by omega) rfl hlt) ?_
   refine Dh.JB.pv rfl trivial (fun _ => PR.loadRA rfl tsh54 zM (by decide) (rcs_at hlt)) ?_
   refine Dh.JB.nil<|Dh.JL.nil ?_
   refine Dh.JE.mk rfl (fun _ h => by cases h) (fun C5_5 => ?_)
   refine Jl.calll (fs := []) (cs := []) (rapply_all (allK b zs k) ((M2, m2), (I2, i2), (K2, k2)) zs[k].2 zs[k].1 (hin.fit (by omega)) (by omega) (hz k hlt).1 (hz k hlt).2) en22 rfl (by rfl) (by rfl) zT (ls := [(allK b zs k).rM ((M2, m2), (I2, i2), (K2, k2)), (allK b zs k).rI ((M2, m2), (I2, i2), (K2, k2)), (allK b zs k).rK ((M2, m2), (I2, i2), (K2, k2))]) zT zL zF ?_
   rintro z'
   refine Jl.qn ?_
   refine Dh.Jq.segV zX ?_ zK
   refine Dh.JH.cons<|Dh.JB.nil<|Dh.JL.nil ?_
   refine Dh.JE.mk rfl (fun _ h => by cases h) (fun C5_6 => ?_)
   refine Jl.storeW rfl tsh38 rfl (by rfl) (by first | exact Br.cs_one _ _ | simp [Value.oneCell', Rc.cs]) zS (by rfl) ?_
   refine Jl.qn ?_
   refine Dh.Jq.segN zX ?_ zK
   refine Dh.JH.nil ?_
   refine Dh.JB.nil<|Dh.JL.nil ?_
   refine Jq.blkN ?_
   refine Jq.qt<|Jc.qr<|Jl.pv (PR.qm rfl) ?_
   refine Jl.pv (PR.add ((k + 1 : Nat) : Int) rfl rfl (by rw [w64 (by omega) (by omega)]; rfl)) ?_
   refine Jl.pv (PR.qa rfl)<|Jl.qn ?_
   rw [← allK_succ b hlt]
   exact Jq.againT (⟨k + 1, hlt⟩, z') (by simp only; omega) (by repeat (first | exact trivial | refine And.intro rfl ?_)) zT zF
 try replace h0 := zW h0
 obtain rfl : k = zs.length := by omega
 refine Jc.exit ?_
 refine Jq.thenX ?_
 refine Jq.thenX ?_
 refine Jq.blkX ?_
 refine Jq.qt<|Jc.qs<|Jc.qr ?_
 refine Jl.pv (PR.loadW rfl tsh38 zH (by rfl)) ?_
 refine Jl.storeW rfl tsh38 rfl (by rfl) (by first | exact Br.cs_one _ _ | simp [Value.oneCell', Rc.cs]) zS (by rfl) ?_
 refine Jl.qn<|Jq.qt<|Jc.ret ?_
 exact Jq.fin ((M2, m2), (I2, i2), (K2, k2)) (.inl rfl) rfl (RetVs.cellA rfl zH tsh38 (by rfl) RetVs.nil) rfl zT zF
end Go.Proofs.YtakbgccddokbbaaGreatDoor
namespace Go.Proofs.YtakbgccddokbbaaGreatDoor
open Go.RowKit
attribute [local irreducible] Res.blk Res.row Fact.rd Fact.chg
def Br.all (b : Br) (l : List Rc) : Br := l.foldl Br.apply b
theorem allK_all (b : Br) (zs : Rcs) : allK b zs zs.length = b.all (rcsN zs) := by
 rw [allK_end, Br.all, rcsN, List.foldl_map]
theorem rcsSm_of {b : List UInt8} (x : RcsOf (logN b)) : RcsSm x.1 := by
 obtain ⟨zs, hz, hc⟩ := x
 intro k hk
 have hm : zs[k] ∈ zs := List.getElem_mem hk
 have hr : zs[k].2 ∈ logN b := by rw [← hz]; exact List.mem_map.2 ⟨_, hm, rfl⟩
 have := (Rc.ok_len (log_ok b _ hr)).2.2
 exact ⟨by show zs[k].2.l.length ≤ 1000; omega, hc _ hm⟩
theorem rcsOf_n {b : List UInt8} (x : RcsOf (logN b)) : x.1.length = (scanN b).length := by rw [x.len, logN, List.length_map]
def ofB (d : Dk) : Br := bz0.all (logN d.own.b)
def safeB (d : Dk) : Br := bz0.all (logN (d.own.b.take d.own.s.toNat))
theorem ball_log {b : List UInt8} (x : RcsOf (logN b)) (A : Option Addr) (c : Nat) (hb : b.length ≤ 500000) :
 Ct Tryz.prog 29 [bz0.v nilZ, .slice A (scanN b).length c] [] (bz0.rd nilZ ++ [.rd A (rcsV x.1), .rcs x.1, .lim, .chg]) (fun y : BrA => (bz0.all (logN b)).v y) (fun y => (bz0.all (logN b)).rows y) (fun _ => []) := by
 have hn := rcsOf_n x
 have hl := scanN_len b
 have h := ball_any bz0 0 nilZ A c x.1 bz0_in (by omega) (rcsSm_of x)
 rw [allK_all, x.2.1, hn] at h
 exact h
abbrev OfR (d : Dk) := { x : AdC // (openD d).b.length ≤ x.2 } × BrA
theorem of_ctR (d : Dk) (x : AdC) (mm : Nat → AdC) (hd : d.b.length ≤ 500000) (hc : d.b.length ≤ x.2) :
 Ct Tryz.prog 12 [d.v x] [] [.rd x.1 (u8s d.b), .many mm, .lim, .chg] (fun y : OfR d => .tuple #[(openD d).v y.1.1, (ofB d).v y.2]) (fun y => (ofB d).rows y.2) (fun y => [.rd y.1.1.1 (u8s (openD d).b)]) := by
 obtain ⟨A, c⟩ := x
 have hol := d.own_len
 refine Ct.of _ Tryz.func12 Tryz.ntmps12 rfl rfl (fun X W => ?_)
 refine Jc.qs<|Jc.qr ?_
 refine Jl.box rfl (by rfl) ?_
 intro b1
 refine Jl.alloc tze27 ?_
 intro b2
 refine Jl.alloc tze38 ?_
 intro b3
 refine Jl.qn<|Jq.qt<|Jc.qs<|Jc.qr ?_
 refine Jl.pv (PR.loadW rfl tsh27 zH (by rfl)) ?_
 refine Jl.call (open_ct d (A, c) mm hd hc) en30 (by rfl) zT zF ?_
 rintro ⟨⟨⟨A7, c7⟩, hA7⟩, zs, ⟨B7, d7⟩⟩
 refine Jl.sealR zD ?_
 refine Jl.fact0 (.rd none []) (fun X W => Fact.rd_nil none X W) ?_
 refine Jl.pv (PR.qm rfl) ?_
 refine Jl.pv (PR.extract rfl (by rfl)) ?_
 refine Jl.pv (PR.extract rfl (by rfl)) ?_
 refine Jl.storeW rfl tsh27 rfl (by rfl) (by first | exact Br.cs_one _ _ | simp [Value.oneCell', Dk.cs]) zS (by rfl) ?_
 refine Jl.pv (PR.qa rfl)<|Jl.qn<|Jq.qt<|Jc.qs ?_
 refine Jc.drawn [0, 0, 0, 6, 15, 31] ([], []) [⟨[(0, false), (1, false), (2, false)], [], 3⟩, ⟨[], [], 4⟩, ⟨[], [], 5⟩] tmx (by kernel_rfl) ?_
 refine Dh.JH.cons ?_
 refine Dh.JB.rd [.blk _ _ _] rfl trivial zT (fun _ => PR.loadW rfl tsh27 Has.here (by rfl)) ?_
 refine Dh.JB.pv rfl trivial (fun _ => PR.build (by rfl) tze38 tpl38_ (by rfl)) ?_
 refine Dh.JB.pv rfl trivial (fun _ => PR.qm rfl)<|Dh.JB.nil<|Dh.JL.nil ?_
 refine Dh.JE.mk rfl (fun _ h => by cases h) (fun C2_3 => ?_)
 refine Jl.call (ball_log zs B7 d7 (by omega)) en29 (by rfl) zT zF ?_
 rintro z
 refine Jl.qn ?_
 refine Dh.Jq.segV zX ?_ zK
 refine Dh.JH.cons<|Dh.JB.nil<|Dh.JL.nil ?_
 refine Dh.JE.mk rfl (fun _ h => by cases h) (fun C2_4 => ?_)
 refine Jl.storeW rfl tsh27 rfl (by rfl) (by first | exact Br.cs_one _ _ | simp [Value.oneCell', Dk.cs]) zS (by rfl) ?_
 refine Jl.qn ?_
 refine Dh.Jq.segN zX ?_ zK
 refine Dh.JH.cons<|Dh.JB.nil<|Dh.JL.nil ?_
 refine Dh.JE.mk rfl (fun _ h => by cases h) (fun C2_5 => ?_)
 refine Jl.storeW rfl tsh38 rfl (by rfl) (by first | exact Br.cs_one _ _ | simp [Value.oneCell', Dk.cs]) zS (by rfl) ?_
 refine Jl.qn ?_
 refine Dh.Jq.segN zX ?_ zK
 refine Dh.JH.nil ?_
 refine Dh.JB.nil<|Dh.JL.nil<|Jq.qt<|Jc.ret ?_
 exact Jq.fin (⟨(A7, c7), hA7⟩, z) (.inl rfl) rfl (RetVs.cellA rfl zH tsh27 (by rfl) (RetVs.cellA rfl zH tsh38 (by rfl) RetVs.nil)) rfl zT zF
theorem safe_ctR (d : Dk) (x : AdC) (mm : Nat → AdC) (hd : d.b.length ≤ 500000) (hc : d.b.length ≤ x.2) :
 Ct Tryz.prog 14 [d.v x] [] [.rd x.1 (u8s d.b), .many mm, .lim, .chg] (fun z : BrA => (safeB d).v z) (fun z => (safeB d).rows z) (fun _ => []) := by
 obtain ⟨A, c⟩ := x
 have hol := d.own_len
 have htl : (d.own.b.take d.own.s.toNat).length ≤ d.own.b.length := by rw [List.length_take]; omega
 refine Ct.of _ Tryz.func14 Tryz.ntmps14 rfl rfl (fun X W => ?_)
 refine Jc.qs<|Jc.qr ?_
 refine Jl.box rfl (by rfl) ?_
 intro b1
 refine Jl.alloc tze38 ?_
 intro b2
 refine Jl.qn<|Jq.qt<|Jc.qs<|Jc.qr ?_
 refine Jl.pv (PR.build (by rfl) tze38 tpl38_ (by rfl)) ?_
 refine Jl.pv (PR.loadW rfl tsh27 zH (by rfl)) ?_
 refine Jl.call (safe_ct d (A, c) mm hd hc) en32 (by rfl) zT zF ?_
 rintro ⟨zs, ⟨B5, d5⟩⟩
 refine Jl.sealR zD ?_
 refine Jl.fact0 (.rd none []) (fun X W => Fact.rd_nil none X W) ?_
 refine Jl.call (ball_log zs B5 d5 (by omega)) en29 (by rfl) zT zF ?_
 rintro z
 refine Jl.storeW rfl tsh38 rfl (by rfl) (by first | exact Br.cs_one _ _ | simp [Value.oneCell', Dk.cs]) zS (by rfl) ?_
 refine Jl.qn<|Jq.qt<|Jc.ret ?_
 exact Jq.fin z (.inl rfl) rfl (RetVs.cellA rfl zH tsh38 (by rfl) RetVs.nil) rfl zT zF
theorem addD_le (d : Dk) (zs : Rcs) : (addD d zs).b.length ≤ 65536 := by
 unfold addD
 split
 · have h := d.app_ok (recsB (rcsN zs))
   have h1 := h.1
   have h2 := h.2.2.2
   omega
 · have := d.own_fit; omega
theorem added0_ct (d : Dk) (x : AdC) (L : Option Addr) (cL : Nat) (zs : Rcs) (mm : Nat → AdC) (G : Dk → Dk) (f : FuncId) (hd : d.b.length ≤ 500000) (hc : d.b.length ≤ x.2) (hn : zs.length ≤ 90) (hl : ∀ z ∈ zs, z.2.l.length ≤ 1000000)
 (hen : ∀ args w, (callFunc f args).run Tryz.prog w = .ok (.enter f args) w)
 (hG : ∀ (A : Option Addr) (c : Nat), (addD d zs).b.length ≤ c → Ct Tryz.prog f [(addD d zs).v (A, c)] [] [.rd A (u8s (addD d zs).b)] (fun y : AdC => (G (addD d zs)).v y) (fun y => [(G (addD d zs)).row y]) (fun _ => [])) :
 Ct Tryz.prog 26 [d.v x, .slice L zs.length cL, .func (.func f) #[] #[]] [] [.rd x.1 (u8s d.b), .rd L (rcsV zs), .rcs zs, .many mm] (fun y : AdC => .tuple #[(if addE d zs = 0 then G (addD d zs) else d.own).v y, .int .i64 (addE d zs)]) (fun y => [(if addE d zs = 0 then G (addD d zs) else d.own).row y]) (fun _ => []) := by
 obtain ⟨A, c⟩ := x
 refine Ct.of _ Tryz.func26 Tryz.ntmps26 rfl rfl (fun X W => ?_)
 refine Jc.qs<|Jc.qr ?_
 refine Jl.box rfl (by rfl) ?_
 intro b3
 refine Jl.alloc tze27 ?_
 intro b6
 refine Jl.pv (PR.qa rfl)<|Jl.qn<|Jq.qt ?_
 refine Jc.scope (σ := { _u : Unit // addE d zs ≠ 0 }) (fun _ => [(3, .pointer (some ⟨b3, 0, none⟩)), (6, .pointer (some ⟨b6, 0, none⟩)), (9, .int .i64 (addE d zs))]) (fun _ => [.blk b3 27 (d.cs (A, c)), .blk b6 27 [.slice none 0 0, .int .i64 0, .int .i64 0]]) (fun _ => [.rd A (u8s d.b)]) (fun _ => 0) (l := 0) rfl ?_ ?_
 · rintro ⟨⟨⟩, he⟩
   refine Jc.qs<|Jc.qr ?_
   refine Jl.pv (PR.loadW rfl tsh27 zH (by rfl)) ?_
   refine Jl.call (own_ct A c d hd hc) en47 (by rfl) zT zF ?_
   rintro ⟨A22, c22⟩
   refine Jl.pv (PR.qm rfl) ?_
   refine Jl.storeW rfl tsh27 rfl (by rfl) (by simp [Value.oneCell', Dk.cs]) zS (by rfl) ?_
   refine Jl.pv (PR.qa rfl)<|Jl.qn<|Jq.qt<|Jc.ret ?_
   refine Jq.jmpR ?_
   rw [if_neg he]
   exact Jq.fin (A22, c22) (.inl rfl) rfl (RetVs.cellA rfl zH tsh27 (by rfl) (RetVs.tmp rfl RetVs.nil)) rfl zT zF
 intro hfirst0
 refine Jc.qs<|Jc.qr ?_
 refine Jl.pv (PR.loadW rfl tsh27 zH (by rfl)) ?_
 refine Jl.pv (PR.qm rfl) ?_
 refine Jl.call (add_ct d (A, c) L cL zs mm hd hc hn hl) en46 (by rfl) zT zF ?_
 rintro ⟨A13, c13⟩
 refine Jl.sealC zD (fun hc13 => ?_)
 refine Jl.pv (PR.qm rfl) ?_
 refine Jl.pv (PR.extract rfl (by rfl)) ?_
 refine Jl.pv (PR.extract rfl (by rfl)) ?_
 refine Jl.alloc tze27 ?_
 intro b8
 refine Jl.storeW rfl tsh27 rfl (by rfl) (by simp [Value.oneCell', Dk.cs]) zS (by rfl) ?_
 refine Jl.pv (PR.qa rfl)<|Jl.qn<|Jq.qt<|Jc.qs<|Jc.qs<|Jc.qr<|Jl.pv (PR.qm rfl) ?_
 refine Jl.pv (PR.neq _ rfl rfl rfl) ?_
 refine Jl.qn<|Jq.qt ?_
 refine Jc.cond rfl (fun h0 => ?_) (fun h0 => ?_)
 · try replace h0 := zV h0
   have he : addE d zs ≠ 0 := by simpa using h0
   refine Jc.goto ?_
   refine Jq.thenG ?_
   refine Jq.lessR (rs := [.blk b3 27 (d.cs (A, c)), .blk b6 27 [.slice none 0 0, .int .i64 0, .int .i64 0]]) zT ?_
   exact Jq.jmpA ⟨(), he⟩ (by repeat (first | exact trivial | refine And.intro rfl ?_)) rfl zF
 try replace h0 := zW h0
 have he : addE d zs = 0 := by simpa using h0
 refine Jc.skip<|Jq.qt<|Jc.qs<|Jc.qs<|Jc.qr<|Jl.pv (PR.qm rfl) ?_
 refine Jl.pv (PR.loadW rfl tsh27 zH (by rfl)) ?_
 refine Jl.callv (hG A13 c13 hc13) hen rfl (by rfl) (by rfl) zT zF ?_
 rintro ⟨A20, c20⟩
 refine Jl.storeW rfl tsh27 rfl (by rfl) (by simp [Value.oneCell', Dk.cs]) zS (by rfl) ?_
 refine Jl.pv (PR.qa rfl)<|Jl.qn<|Jq.qt<|Jc.ret<|Jq.thenR ?_
 refine Jq.jmpR ?_
 rw [if_pos he]
 exact Jq.fin (A20, c20) (.inl rfl) rfl (RetVs.cellA rfl zH tsh27 (by rfl) (RetVs.tmp rfl RetVs.nil)) (by rw [he]; rfl) zT zF
theorem added1_ct (d : Dk) (x : AdC) (L : Option Addr) (cL : Nat) (zs : Rcs) (mm : Nat → AdC) (G : Dk → Dk) (f : FuncId) (bk : Nat) (keep : Int) (hd : d.b.length ≤ 500000) (hc : d.b.length ≤ x.2) (hn : zs.length ≤ 90) (hl : ∀ z ∈ zs, z.2.l.length ≤ 1000000)
 (hen : ∀ args w, (callFunc f args).run Tryz.prog w = .ok (.enter f args) w)
 (hG : ∀ (A : Option Addr) (c : Nat), (addD d zs).b.length ≤ c → Ct Tryz.prog f [(addD d zs).v (A, c), .pointer (some ⟨bk, 0, none⟩)] [.blk bk 3 [.int .i64 keep]] [.rd A (u8s (addD d zs).b)] (fun y : AdC => (G (addD d zs)).v y) (fun y => [(G (addD d zs)).row y, .blk bk 3 [.int .i64 keep]]) (fun _ => [])) :
 Ct Tryz.prog 26 [d.v x, .slice L zs.length cL, .func (.func f) #[] #[.pointer (some ⟨bk, 0, none⟩)]] [.blk bk 3 [.int .i64 keep]] [.rd x.1 (u8s d.b), .rd L (rcsV zs), .rcs zs, .many mm] (fun y : AdC => .tuple #[(if addE d zs = 0 then G (addD d zs) else d.own).v y, .int .i64 (addE d zs)]) (fun y => [(if addE d zs = 0 then G (addD d zs) else d.own).row y, .blk bk 3 [.int .i64 keep]]) (fun _ => []) := by
 obtain ⟨A, c⟩ := x
 refine Ct.of _ Tryz.func26 Tryz.ntmps26 rfl rfl (fun X W => ?_)
 refine Jc.qs<|Jc.qr ?_
 refine Jl.box rfl (by rfl) ?_
 intro b3
 refine Jl.alloc tze27 ?_
 intro b6
 refine Jl.pv (PR.qa rfl)<|Jl.qn<|Jq.qt ?_
 refine Jc.scope (σ := { _u : Unit // addE d zs ≠ 0 }) (fun _ => [(3, .pointer (some ⟨b3, 0, none⟩)), (6, .pointer (some ⟨b6, 0, none⟩)), (9, .int .i64 (addE d zs))]) (fun _ => [.blk b3 27 (d.cs (A, c)), .blk b6 27 [.slice none 0 0, .int .i64 0, .int .i64 0], .blk bk 3 [.int .i64 keep]]) (fun _ => [.rd A (u8s d.b)]) (fun _ => 0) (l := 0) rfl ?_ ?_
 · rintro ⟨⟨⟩, he⟩
   refine Jc.qs<|Jc.qr ?_
   refine Jl.pv (PR.loadW rfl tsh27 zH (by rfl)) ?_
   refine Jl.call (own_ct A c d hd hc) en47 (by rfl) zT zF ?_
   rintro ⟨A22, c22⟩
   refine Jl.pv (PR.qm rfl) ?_
   refine Jl.storeW rfl tsh27 rfl (by rfl) (by simp [Value.oneCell', Dk.cs]) zS (by rfl) ?_
   refine Jl.pv (PR.qa rfl)<|Jl.qn<|Jq.qt<|Jc.ret ?_
   refine Jq.jmpR ?_
   rw [if_neg he]
   exact Jq.fin (A22, c22) (.inl rfl) rfl (RetVs.cellA rfl zH tsh27 (by rfl) (RetVs.tmp rfl RetVs.nil)) rfl zT zF
 intro hfirst0
 refine Jc.qs<|Jc.qr ?_
 refine Jl.pv (PR.loadW rfl tsh27 zH (by rfl)) ?_
 refine Jl.pv (PR.qm rfl) ?_
 refine Jl.call (add_ct d (A, c) L cL zs mm hd hc hn hl) en46 (by rfl) zT zF ?_
 rintro ⟨A13, c13⟩
 refine Jl.sealC zD (fun hc13 => ?_)
 refine Jl.pv (PR.qm rfl) ?_
 refine Jl.pv (PR.extract rfl (by rfl)) ?_
 refine Jl.pv (PR.extract rfl (by rfl)) ?_
 refine Jl.alloc tze27 ?_
 intro b8
 refine Jl.storeW rfl tsh27 rfl (by rfl) (by simp [Value.oneCell', Dk.cs]) zS (by rfl) ?_
 refine Jl.pv (PR.qa rfl)<|Jl.qn<|Jq.qt<|Jc.qs<|Jc.qs<|Jc.qr<|Jl.pv (PR.qm rfl) ?_
 refine Jl.pv (PR.neq _ rfl rfl rfl) ?_
 refine Jl.qn<|Jq.qt ?_
 refine Jc.cond rfl (fun h0 => ?_) (fun h0 => ?_)
 · try replace h0 := zV h0
   have he : addE d zs ≠ 0 := by simpa using h0
   refine Jc.goto ?_
   refine Jq.thenG ?_
   refine Jq.lessR (rs := [.blk b3 27 (d.cs (A, c)), .blk b6 27 [.slice none 0 0, .int .i64 0, .int .i64 0], .blk bk 3 [.int .i64 keep]]) zT ?_
   exact Jq.jmpA ⟨(), he⟩ (by repeat (first | exact trivial | refine And.intro rfl ?_)) rfl zF
 try replace h0 := zW h0
 have he : addE d zs = 0 := by simpa using h0
 refine Jc.skip<|Jq.qt<|Jc.qs<|Jc.qs<|Jc.qr<|Jl.pv (PR.qm rfl) ?_
 refine Jl.pv (PR.loadW rfl tsh27 zH (by rfl)) ?_
 refine Jl.callv (hG A13 c13 hc13) hen rfl (by rfl) (by rfl) zT zF ?_
 rintro ⟨A20, c20⟩
 refine Jl.storeW rfl tsh27 rfl (by rfl) (by simp [Value.oneCell', Dk.cs]) zS (by rfl) ?_
 refine Jl.pv (PR.qa rfl)<|Jl.qn<|Jq.qt<|Jc.ret<|Jq.thenR ?_
 refine Jq.jmpR ?_
 rw [if_pos he]
 exact Jq.fin (A20, c20) (.inl rfl) rfl (RetVs.cellA rfl zH tsh27 (by rfl) (RetVs.tmp rfl RetVs.nil)) (by rw [he]; rfl) zT zF
end Go.Proofs.YtakbgccddokbbaaGreatDoor
namespace Go.Proofs.YtakbgccddokbbaaGreatDoor
open Go.RowKit
attribute [local irreducible] Res.blk Res.row Fact.rd Fact.chg
def stepD (d : Dk) (zs : Rcs) : Dk := if addE d zs = 0 then (addD d zs).sync else d.own
def stepB (d : Dk) (b : Br) (zs : Rcs) : Br := if addE d zs = 0 then b.all (rcsN zs) else b
theorem step_ct (d : Dk) (x : AdC) (b : Br) (n : Nat) (z : BrA) (L : Option Addr) (cL : Nat) (zs : Rcs) (mm : Nat → AdC) (hd : d.b.length ≤ 500000) (hc : d.b.length ≤ x.2) (hn : zs.length ≤ 90) (hz : RcsSm zs) (hb : b.In n) (hn2 : n ≤ 800000) :
 Ct Tryz.prog 11 [d.v x, b.v z, .slice L zs.length cL] [] (.rd x.1 (u8s d.b) :: (b.rd z ++ [.rd L (rcsV zs), .rcs zs, .many mm, .lim, .chg])) (fun y : AdC × BrA => .tuple #[(stepD d zs).v y.1, (stepB d b zs).v y.2, .int .i64 (addE d zs)]) (fun y => (stepD d zs).row y.1 :: (stepB d b zs).rows y.2) (fun _ => []) := by
 obtain ⟨A, c⟩ := x
 obtain ⟨⟨M, cM⟩, ⟨I, cI⟩, ⟨K, cK⟩⟩ := z
 have hl : ∀ w ∈ zs, w.2.l.length ≤ 1000000 := fun w hw => by
  obtain ⟨k, hk, rfl⟩ := List.mem_iff_getElem.1 hw
  have := (hz k hk).1; omega
 have hi1 := hb.its
 have hi2 := hb.kps
 have hi3 := hb.ms
 have hadd := addD_le d zs
 have h0 := added0_ct d (A, c) L cL zs mm Dk.sync 27 hd hc hn hl en27 (fun A c hc => sync_ct A c (addD d zs) (by omega) hc)
 have h1 := ball_any b n ((M, cM), (I, cI), (K, cK)) L cL zs hb (by omega) hz
 rw [allK_all] at h1
 by_cases he : addE d zs = 0
 · rw [if_pos he] at h0
   rw [show stepD d zs = (addD d zs).sync from if_pos he, show stepB d b zs = b.all (rcsN zs) from if_pos he]
   refine Ct.of _ Tryz.func11 Tryz.ntmps11 rfl rfl (fun X W => ?_)
   refine Jc.qs<|Jc.qr ?_
   refine Jl.box rfl (by rfl) ?_
   intro b3
   refine Jl.box rfl (by rfl) ?_
   intro b4
   refine Jl.alloc tze27 ?_
   intro b6
   refine Jl.alloc tze38 ?_
   intro b7
   refine Jl.pv (PR.qa rfl)<|Jl.qn<|Jq.qt<|Jc.qs<|Jc.qr ?_
   refine Jl.pv (PR.loadW rfl tsh27 zH (by rfl)) ?_
   refine Jl.pv (PR.qm rfl) ?_
   refine Jl.call h0 en26 (by rfl) zT zF ?_
   rintro ⟨A13, c13⟩
   refine Jl.pv (PR.qm rfl) ?_
   refine Jl.pv (PR.extract rfl (by rfl)) ?_
   refine Jl.pv (PR.extract rfl (by rfl)) ?_
   refine Jl.storeW rfl tsh27 rfl (by rfl) (by first | exact Br.cs_one _ _ | simp [Value.oneCell', Dk.cs]) zS (by rfl) ?_
   refine Jl.pv (PR.qa rfl)<|Jl.qn<|Jq.qt<|Jc.qs<|Jc.qs<|Jc.qr<|Jl.pv (PR.qm rfl) ?_
   refine Jl.pv (PR.neq false rfl rfl (by rw [he]; rfl)) ?_
   refine Jl.qn<|Jq.qt<|Jc.condF rfl<|Jc.skip<|Jq.qt<|Jc.qs ?_
   refine Jc.drawn [0, 0, 0, 6, 15, 31, 63] ([(6, false)], []) [⟨[(0, false), (1, false), (2, false)], [], 3⟩, ⟨[], [], 4⟩, ⟨[], [], 5⟩] tmx (by kernel_rfl) ?_
   refine Dh.JH.cons ?_
   refine Dh.JB.rd [.blk _ _ _] rfl trivial zT (fun _ => PR.loadW rfl tsh27 Has.here (by rfl)) ?_
   refine Dh.JB.rd [.blk _ _ _] rfl trivial zT (fun _ => PR.loadW rfl tsh38 Has.here (by rfl)) ?_
   refine Dh.JB.pv rfl trivial (fun _ => PR.qm rfl)<|Dh.JB.nil<|Dh.JL.nil ?_
   refine Dh.JE.mk rfl (fun _ h => by cases h) (fun C4_3 => ?_)
   refine Jl.call h1 en29 (by rfl) zT zF ?_
   rintro z'
   refine Jl.qn ?_
   refine Dh.Jq.segV zX ?_ zK
   refine Dh.JH.cons<|Dh.JB.nil<|Dh.JL.nil ?_
   refine Dh.JE.mk rfl (fun _ h => by cases h) (fun C4_4 => ?_)
   refine Jl.storeW rfl tsh27 rfl (by rfl) (by first | exact Br.cs_one _ _ | simp [Value.oneCell', Dk.cs]) zS (by rfl) ?_
   refine Jl.qn ?_
   refine Dh.Jq.segN zX ?_ zK
   refine Dh.JH.cons<|Dh.JB.nil<|Dh.JL.nil ?_
   refine Dh.JE.mk rfl (fun _ h => by cases h) (fun C4_5 => ?_)
   refine Jl.storeW rfl tsh38 rfl (by rfl) (by first | exact Br.cs_one _ _ | simp [Value.oneCell', Dk.cs]) zS (by rfl) ?_
   refine Jl.qn ?_
   refine Dh.Jq.segN zX ?_ zK
   refine Dh.JH.nil ?_
   refine Dh.JB.pv rfl trivial (fun _ => PR.qa rfl) ?_
   refine Dh.JB.nil<|Dh.JL.nil<|Jq.qt<|Jc.ret ?_
   exact Jq.fin ((A13, c13), z') (.inl rfl) rfl (RetVs.cellA rfl zH tsh27 (by rfl) (RetVs.cellA rfl zH tsh38 (by rfl) (RetVs.tmp rfl RetVs.nil))) (by rw [he]; rfl) zT zF
 · rw [if_neg he] at h0
   rw [show stepD d zs = d.own from if_neg he, show stepB d b zs = b from if_neg he]
   refine Ct.of _ Tryz.func11 Tryz.ntmps11 rfl rfl (fun X W => ?_)
   refine Jc.qs<|Jc.qr ?_
   refine Jl.box rfl (by rfl) ?_
   intro b3
   refine Jl.box rfl (by rfl) ?_
   intro b4
   refine Jl.alloc tze27 ?_
   intro b6
   refine Jl.alloc tze38 ?_
   intro b7
   refine Jl.pv (PR.qa rfl)<|Jl.qn<|Jq.qt<|Jc.qs<|Jc.qr ?_
   refine Jl.pv (PR.loadW rfl tsh27 zH (by rfl)) ?_
   refine Jl.pv (PR.qm rfl) ?_
   refine Jl.call h0 en26 (by rfl) zT zF ?_
   rintro ⟨A13, c13⟩
   refine Jl.pv (PR.qm rfl) ?_
   refine Jl.pv (PR.extract rfl (by rfl)) ?_
   refine Jl.pv (PR.extract rfl (by rfl)) ?_
   refine Jl.storeW rfl tsh27 rfl (by rfl) (by first | exact Br.cs_one _ _ | simp [Value.oneCell', Dk.cs]) zS (by rfl) ?_
   refine Jl.pv (PR.qa rfl)<|Jl.qn<|Jq.qt<|Jc.qs<|Jc.qs<|Jc.qr<|Jl.pv (PR.qm rfl) ?_
   refine Jl.pv (PR.neq true rfl rfl (by simpa using he)) ?_
   refine Jl.qn<|Jq.qt<|Jc.condT rfl<|Jc.qs ?_
   refine Jc.drawn [0, 0, 2, 0, 7, 23, 63] ([(6, false)], []) [⟨[(0, false), (1, false), (3, false)], [], 2⟩, ⟨[], [], 4⟩, ⟨[], [], 5⟩] tmx (by kernel_rfl) ?_
   refine Dh.JH.cons ?_
   refine Dh.JB.rd [.blk _ _ _] rfl trivial zT (fun _ => PR.loadW rfl tsh27 Has.here (by rfl)) ?_
   refine Dh.JB.rd [.blk _ _ _] rfl trivial zT (fun _ => PR.loadW rfl tsh38 Has.here (by rfl)) ?_
   refine Dh.JB.pv rfl trivial (fun _ => PR.qm rfl)<|Dh.JB.nil<|Dh.JL.nil ?_
   refine Dh.JE.mk rfl (fun _ h => by cases h) (fun C3_2 => ?_)
   refine Jl.call (bown_ct b ((M, cM), (I, cI), (K, cK)) (by omega) (by omega) (by omega)) en28 (by rfl) zT zF ?_
   rintro ⟨⟨A1, c1⟩, ⟨A2, c2⟩, ⟨A3, c3⟩⟩
   refine Jl.qn ?_
   refine Dh.Jq.segV zX ?_ zK
   refine Dh.JH.cons<|Dh.JB.nil<|Dh.JL.nil ?_
   refine Dh.JE.mk rfl (fun _ h => by cases h) (fun C3_4 => ?_)
   refine Jl.storeW rfl tsh27 rfl (by rfl) (by first | exact Br.cs_one _ _ | simp [Value.oneCell', Dk.cs]) zS (by rfl) ?_
   refine Jl.qn ?_
   refine Dh.Jq.segN zX ?_ zK
   refine Dh.JH.cons<|Dh.JB.nil<|Dh.JL.nil ?_
   refine Dh.JE.mk rfl (fun _ h => by cases h) (fun C3_5 => ?_)
   refine Jl.storeW rfl tsh38 rfl (by rfl) (by first | exact Br.cs_one _ _ | simp [Value.oneCell', Dk.cs]) zS (by rfl) ?_
   refine Jl.qn ?_
   refine Dh.Jq.segN zX ?_ zK
   refine Dh.JH.nil ?_
   refine Dh.JB.pv rfl trivial (fun _ => PR.qa rfl) ?_
   refine Dh.JB.nil<|Dh.JL.nil<|Jq.qt<|Jc.ret<|Jq.thenR ?_
   exact Jq.fin ((A13, c13), ((A1, c1), (A2, c2), (A3, c3))) (.inl rfl) rfl (RetVs.cellA rfl zH tsh27 (by rfl) (RetVs.cellA rfl zH tsh38 (by rfl) (RetVs.tmp rfl RetVs.nil))) rfl zT zF
def tornD (d : Dk) (keep : Int) (zs : Rcs) : Dk := if addE d zs = 0 then (addD d zs).crash keep else d.crash keep
theorem torn1_ct (d : Dk) (x : AdC) (bk : Nat) (keep : Int) (hd : d.b.length ≤ 500000) (hc : d.b.length ≤ x.2) :
 Ct Tryz.prog 34 [d.v x, .pointer (some ⟨bk, 0, none⟩)] [.blk bk 3 [.int .i64 keep]] [.rd x.1 (u8s d.b)] (fun y : AdC => (d.crash keep).v y) (fun y => [(d.crash keep).row y, .blk bk 3 [.int .i64 keep]]) (fun _ => []) := by
 obtain ⟨A, c⟩ := x
 refine Ct.of _ Tryz.func34 Tryz.ntmps34 rfl rfl (fun X W => ?_)
 refine Jc.qs<|Jc.qr ?_
 refine Jl.box rfl (by rfl) ?_
 intro b2
 refine Jl.alloc tze27 ?_
 intro b3
 refine Jl.qn<|Jq.qt<|Jc.qs<|Jc.qr ?_
 refine Jl.pv (PR.loadW rfl tsh27 zH (by rfl)) ?_
 refine Jl.pv (PR.load1 rfl tsh3 zH (by rfl)) ?_
 refine Jl.call (crash_ct A c d keep hd hc) en35 (by rfl) zT zF ?_
 rintro ⟨A6, c6⟩
 refine Jl.storeW rfl tsh27 rfl (by rfl) (by simp [Value.oneCell', Dk.cs]) zS (by rfl) ?_
 refine Jl.qn<|Jq.qt<|Jc.ret ?_
 exact Jq.fin (A6, c6) (.inl rfl) rfl (RetVs.cellA rfl zH tsh27 (by rfl) RetVs.nil) rfl zT zF
theorem torn_ct (d : Dk) (x : AdC) (keep : Int) (L : Option Addr) (cL : Nat) (zs : Rcs) (mm : Nat → AdC) (hd : d.b.length ≤ 500000) (hc : d.b.length ≤ x.2) (hn : zs.length ≤ 90) (hz : RcsSm zs) :
 Ct Tryz.prog 16 [d.v x, .int .i64 keep, .slice L zs.length cL] [] [.rd x.1 (u8s d.b), .rd L (rcsV zs), .rcs zs, .many mm] (fun y : AdC => (tornD d keep zs).v y) (fun y => [(tornD d keep zs).row y]) (fun _ => []) := by
 obtain ⟨A, c⟩ := x
 have hl : ∀ w ∈ zs, w.2.l.length ≤ 1000000 := fun w hw => by
  obtain ⟨k, hk, rfl⟩ := List.mem_iff_getElem.1 hw
  have := (hz k hk).1; omega
 have hadd := addD_le d zs
 have h0 : ∀ bk, _ := fun bk => added1_ct d (A, c) L cL zs mm (fun d => d.crash keep) 34 bk keep hd hc hn hl en34 (fun A c hc => torn1_ct (addD d zs) (A, c) bk keep (by omega) hc)
 by_cases he : addE d zs = 0
 · rw [show tornD d keep zs = (addD d zs).crash keep from if_pos he]
   rw [if_pos he] at h0
   refine Ct.of _ Tryz.func16 Tryz.ntmps16 rfl rfl (fun X W => ?_)
   refine Jc.qs<|Jc.qr ?_
   refine Jl.box rfl (by rfl) ?_
   intro b3
   refine Jl.box rfl (by rfl) ?_
   intro b4
   refine Jl.alloc tze27 ?_
   intro b6
   refine Jl.qn<|Jq.qt<|Jc.qs<|Jc.qr ?_
   refine Jl.pv (PR.makeFunc rfl rfl) ?_
   refine Jl.pv (PR.qa rfl)<|Jl.qn<|Jq.qt<|Jc.qs<|Jc.qr ?_
   refine Jl.pv (PR.loadW rfl tsh27 zH (by rfl)) ?_
   refine Jl.pv (PR.qm rfl)<|Jl.pv (PR.qm rfl) ?_
   refine Jl.call (h0 b4) en26 (by rfl) zT zF ?_
   rintro ⟨A15, c15⟩
   refine Jl.pv (PR.qm rfl) ?_
   refine Jl.pv (PR.extract rfl (by rfl)) ?_
   refine Jl.pv (PR.extract rfl (by rfl)) ?_
   refine Jl.alloc tze27 ?_
   intro b8
   refine Jl.storeW rfl tsh27 rfl (by rfl) (by simp [Value.oneCell', Dk.cs]) zS (by rfl) ?_
   refine Jl.pv (PR.qa rfl)<|Jl.qn<|Jq.qt<|Jc.qs<|Jc.qs<|Jc.qr<|Jl.pv (PR.qm rfl) ?_
   refine Jl.pv (PR.neq false rfl rfl (by rw [he]; rfl)) ?_
   refine Jl.qn<|Jq.qt<|Jc.condF rfl<|Jc.skip<|Jq.qt<|Jc.qs<|Jc.qr ?_
   refine Jl.pv (PR.loadW rfl tsh27 zH (by rfl)) ?_
   refine Jl.storeW rfl tsh27 rfl (by rfl) (by simp [Value.oneCell', Dk.cs]) zS (by rfl) ?_
   refine Jl.qn<|Jq.qt<|Jc.ret ?_
   exact Jq.fin (A15, c15) (.inl rfl) rfl (RetVs.cellA rfl zH tsh27 (by rfl) RetVs.nil) rfl zT zF
 · rw [show tornD d keep zs = d.crash keep from if_neg he]
   rw [if_neg he] at h0
   refine Ct.of _ Tryz.func16 Tryz.ntmps16 rfl rfl (fun X W => ?_)
   refine Jc.qs<|Jc.qr ?_
   refine Jl.box rfl (by rfl) ?_
   intro b3
   refine Jl.box rfl (by rfl) ?_
   intro b4
   refine Jl.alloc tze27 ?_
   intro b6
   refine Jl.qn<|Jq.qt<|Jc.qs<|Jc.qr ?_
   refine Jl.pv (PR.makeFunc rfl rfl) ?_
   refine Jl.pv (PR.qa rfl)<|Jl.qn<|Jq.qt<|Jc.qs<|Jc.qr ?_
   refine Jl.pv (PR.loadW rfl tsh27 zH (by rfl)) ?_
   refine Jl.pv (PR.qm rfl)<|Jl.pv (PR.qm rfl) ?_
   refine Jl.call (h0 b4) en26 (by rfl) zT zF ?_
   rintro ⟨A15, c15⟩
   refine Jl.pv (PR.qm rfl) ?_
   refine Jl.pv (PR.extract rfl (by rfl)) ?_
   refine Jl.pv (PR.extract rfl (by rfl)) ?_
   refine Jl.alloc tze27 ?_
   intro b8
   refine Jl.storeW rfl tsh27 rfl (by rfl) (by simp [Value.oneCell', Dk.cs]) zS (by rfl) ?_
   refine Jl.pv (PR.qa rfl)<|Jl.qn<|Jq.qt<|Jc.qs<|Jc.qs<|Jc.qr<|Jl.pv (PR.qm rfl) ?_
   refine Jl.pv (PR.neq true rfl rfl (by simpa using he)) ?_
   refine Jl.qn<|Jq.qt<|Jc.condT rfl<|Jc.qs<|Jc.qr<|Jl.pv (PR.qm rfl) ?_
   refine Jl.pv (PR.loadW rfl tsh27 zH (by rfl)) ?_
   refine Jl.callv (torn1_ct d (A, c) b4 keep hd hc) en34 rfl (by rfl) (by rfl) zT zF ?_
   rintro ⟨A22, c22⟩
   refine Jl.storeW rfl tsh27 rfl (by rfl) (by simp [Value.oneCell', Dk.cs]) zS (by rfl) ?_
   refine Jl.qn<|Jq.qt<|Jc.ret<|Jq.thenR ?_
   exact Jq.fin (A22, c22) (.inl rfl) rfl (RetVs.cellA rfl zH tsh27 (by rfl) RetVs.nil) rfl zT zF
end Go.Proofs.YtakbgccddokbbaaGreatDoor
namespace Go.Proofs.YtakbgccddokbbaaGreatDoor
open Go.RowKit
attribute [local irreducible] Res.blk Res.row Fact.rd Fact.chg
theorem all_in {b : Br} {n : Nat} (h : b.In n) {l : List Rc} (hl : ∀ r ∈ l, r.l.length ≤ 1000) : (b.all l).In (n + l.length) := by
  induction l generalizing b n with
  | nil => exact h
  | cons r l ih =>
    have := ih (h.step (hl r List.mem_cons_self)) fun r hr => hl r (List.mem_cons_of_mem _ hr)
    rw [List.length_cons, Nat.add_comm l.length 1, ← Nat.add_assoc]
    exact this
theorem log_small (b : List UInt8) : ∀ r ∈ logN b, r.l.length ≤ 1000 := fun r hr => by have := (Rc.ok_len (log_ok b r hr)).2.2; omega
theorem logN_len (b : List UInt8) : 4 * (logN b).length ≤ b.length := by rw [logN, List.length_map]; exact scanN_len b
theorem log_in (b : List UInt8) : (bz0.all (logN b)).In b.length := by
 have h := all_in bz0_in (log_small b)
 have h1 := logN_len b
 have h2 := h.its
 have h3 := h.kps
 have h4 := h.ep
 exact ⟨h.ok, by omega, by omega, h.ms, by omega⟩
abbrev bootR : Rc := ⟨1, []⟩
abbrev zb : Rcs := [((none, 0), bootR)]
theorem zb_sm : RcsSm zb := fun k hk => by
 obtain rfl : k = 0 := by simp [zb] at hk; omega
 exact ⟨Nat.zero_le _, Nat.le_refl _⟩
theorem zb_rcs (X : Nat → Prop) (W : World) : (Fact.rcs zb).p X W := fun z hz => by
 obtain rfl : z = ((none, 0), bootR) := by simpa [zb] using hz
 exact Fact.rd_nil none X W
def bootD (d : Dk) : Dk := stepD (openD d) zb
def bootB (d : Dk) : Br := stepB (openD d) (ofB d) zb
theorem opened_le (d : Dk) : (openD d).b.length ≤ d.own.b.length := by
 have := logU_le d.own.b
 simp only [openD, List.length_take]; omega
theorem boot_ct (d : Dk) (x : AdC) (mm : Nat → AdC) (hd : d.b.length ≤ 500000) (hc : d.b.length ≤ x.2) :
 Ct Tryz.prog 17 [d.v x] [] [.rd x.1 (u8s d.b), .many mm, .lim, .chg] (fun y : AdC × BrA => .tuple #[(bootD d).v y.1, (bootB d).v y.2, .int .i64 (addE (openD d) zb)]) (fun y => (bootD d).row y.1 :: (bootB d).rows y.2) (fun _ => []) := by
 obtain ⟨A, c⟩ := x
 have hol := d.own_len
 have hop := opened_le d
 refine Ct.of _ Tryz.func17 Tryz.ntmps17 rfl rfl (fun X W => ?_)
 refine Jc.qs<|Jc.qr ?_
 refine Jl.box rfl (by rfl) ?_
 intro b1
 refine Jl.alloc tze27 ?_
 intro b2
 refine Jl.alloc tze38 ?_
 intro b3
 refine Jl.pv (PR.qa rfl)<|Jl.qn<|Jq.qt<|Jc.qs<|Jc.qr ?_
 refine Jl.pv (PR.loadW rfl tsh27 zH (by rfl)) ?_
 refine Jl.call (of_ctR d (A, c) mm hd hc) en12 (by rfl) zT zF ?_
 rintro ⟨⟨⟨A8, c8⟩, h8⟩, ⟨M, cM⟩, ⟨I, cI⟩, ⟨K, cK⟩⟩
 refine Jl.sealR (A := M) (m := (ofB d).cf.ms.length) (cap := cM) (xs := i64s (ofB d).cf.ms) zD ?_
 refine Jl.sealR (A := I) (m := (ofB d).its.length) (cap := cI) (xs := itsV (ofB d).its) zD ?_
 refine Jl.sealR (A := K) (m := (ofB d).kps.length) (cap := cK) (xs := kpsV (ofB d).kps) zD ?_
 refine Jl.pv (PR.qm rfl) ?_
 refine Jl.pv (PR.extract rfl (by rfl)) ?_
 refine Jl.pv (PR.extract rfl (by rfl)) ?_
 refine Jl.alloc tze38 ?_
 intro b5
 refine Jl.storeW rfl tsh27 rfl (by rfl) (by first | exact Br.cs_one _ _ | simp [Value.oneCell', Dk.cs, Rc.cs]) zS (by rfl) ?_
 refine Jl.storeW rfl tsh38 rfl (by rfl) (by first | exact Br.cs_one _ _ | simp [Value.oneCell', Dk.cs, Rc.cs]) zS (by rfl) ?_
 refine Jl.qn<|Jq.qt<|Jc.qs<|Jc.qr ?_
 refine Jl.pv (PR.loadW rfl tsh27 zH (by rfl)) ?_
 refine Jl.pv (PR.loadW rfl tsh38 zH (by rfl)) ?_
 refine Jl.pv (PR.build (by rfl) tze54 tpl54_0 (by rfl)) ?_
 refine Jl.buildSlice (by rfl) tsl22 tzr22_1 (by rfl) (by rfl) ?_
 intro b14
 refine Jl.seal (b := b14) zD ?_
 refine Jl.fact0 (.rcs zb) (fun X W => zb_rcs X W) ?_
 refine Jl.call (step_ct (openD d) (A8, c8) (ofB d) d.own.b.length ((M, cM), (I, cI), (K, cK)) (some ⟨b14, 0, none⟩) 1 zb mm (by omega) h8 (by decide) zb_sm (log_in d.own.b) (by omega)) en11 (by rfl) zT zF ?_
 rintro y
 refine Jl.pv (PR.extract rfl (by rfl)) ?_
 refine Jl.pv (PR.extract rfl (by rfl)) ?_
 refine Jl.pv (PR.extract rfl (by rfl)) ?_
 refine Jl.storeW rfl tsh27 rfl (by rfl) (by first | exact Br.cs_one _ _ | simp [Value.oneCell', Dk.cs, Rc.cs]) zS (by rfl) ?_
 refine Jl.storeW rfl tsh38 rfl (by rfl) (by first | exact Br.cs_one _ _ | simp [Value.oneCell', Dk.cs, Rc.cs]) zS (by rfl) ?_
 refine Jl.pv (PR.qa rfl)<|Jl.qn<|Jq.qt<|Jc.ret ?_
 exact Jq.fin y (.inl rfl) rfl (RetVs.cellA rfl zH tsh27 (by rfl) (RetVs.cellA rfl zH tsh38 (by rfl) (RetVs.tmp rfl RetVs.nil))) rfl zT zF
end Go.Proofs.YtakbgccddokbbaaGreatDoor
namespace Go.Proofs.YtakbgccddokbbaaGreatDoor
open Go.RowKit
theorem rcs_old (zs : Rcs) : (Fact.rcs zs).Old := fun X X' W W' h h1 h2 h3 z hz => Fact.rd_old _ _ X X' W W' (h z hz) h1 h2 h3
theorem chg_old : Fact.chg.Old := fun X X' W W' h h1 h2 h3 => by
 obtain ⟨As, h4, h5⟩ := h
 exact ⟨As, Fact.rd_old _ _ X X' W W' h4 h1 h2 h3, fun i hi => Fact.rd_old _ _ X X' W W' (h5 i hi) h1 h2 h3⟩
abbrev Brs := List (BrA × Br)
def brsV (ws : Brs) : List Value := ws.flatMap fun z => z.2.cs z.1
theorem brsV_len (ws : Brs) : (brsV ws).length = ws.length * 27 := by
 induction ws with
 | nil => rfl
 | cons w ws ih => rw [brsV, List.flatMap_cons, List.length_append, ← brsV, ih, List.length_cons, Nat.succ_mul]; simp [Br.cs, Cf.cs, Rf.cs]; omega
theorem brsV_snoc (ws : Brs) (y : BrA) (p : Br) : brsV (ws ++ [(y, p)]) = brsV ws ++ p.cs y := by simp [brsV]
def Fact.brs (ws : Brs) : Fact := ⟨fun X W => ∀ z ∈ ws, ∀ φ ∈ z.2.rd z.1, φ.p X W, fun X X' W W' h hf hx z hz φ hφ => φ.fr X X' W W' (h z hz φ hφ) hf hx⟩
theorem brs_snoc {ws : Brs} {y : BrA} {p : Br} {X : Nat → Prop} {W : World} (h : (Fact.brs ws).p X W) (k : ∀ φ ∈ p.rd y, φ.p X W) : (Fact.brs (ws ++ [(y, p)])).p X W := fun z hz => by
 rcases List.mem_append.1 hz with hz | hz
 · exact h z hz
 · obtain rfl : z = (y, p) := by simpa using hz
   exact k
attribute [local irreducible] Res.blk Res.row Fact.rd Fact.chg
theorem Jl.brs {P : Program} {r : Option Nat} {C : Cx} {n : Nat × List Nat} {ops : Array Oper} {Q : Exit → Act → World → Prop} {rest : List Oper} {env : List (Nat × Value)} {R : List Res} {Φ : List Fact} {ws : Brs} (y : BrA) (p : Br) (hm : Mem (.brs ws) Φ) (h : FSub (p.rd y) Φ)
 (k : Jl P r C n ops Q rest env R (.brs (ws ++ [(y, p)]) :: Φ)) : Jl P r C n ops Q rest env R Φ := fun a W h1 h2 =>
 k a W h1 (h2.add (brs_snoc (h2.fact hm) fun φ hφ => h2.facts φ (h.mem φ hφ)))
def brK (zs : Rcs) (k : Nat) : Br := allK bz0 zs k
def bvals (zs : Rcs) (k : Nat) (y : BrA) : List Value := [(brK zs k).v y]
def bposts (zs : Rcs) (k : Nat) (y : BrA) : List Fact := (brK zs k).rd y
theorem bown_y (b : Br) (z : BrA) (hn : b.its.length ≤ 1000000) (hm : b.kps.length ≤ 1000000) (hms : b.cf.ms.length ≤ 1000000) :
 CtY Tryz.prog 28 [b.v z] [] (b.rd z) (fun x : BrA => b.v x) (fun _ => []) (fun x => [.is True]) (fun x => b.rd x) :=
 Ct.young (fun x : BrA => [(3, 1, x.1, b.cf.ms.length, i64s b.cf.ms), (70, 4, x.2.1, b.its.length, itsV b.its), (72, 8, x.2.2, b.kps.length, kpsV b.kps)]) (bown_ct b z hn hm hms) (fun _ => rfl) (fun _ => True) (fun _ _ => trivial)
theorem bapply_y (b : Br) (n : Nat) (z : BrA) (r : Rc) (x : AdC) (h : b.In n) (hn : n ≤ 900000) (hl : r.l.length ≤ 1000) (hc : r.l.length ≤ x.2) :
 CtY Tryz.prog 61 [b.v z, r.v x] [] (b.rd z ++ [.rd x.1 (i64s r.l), .lim, .chg]) (fun y : BrA => (b.apply r).v y) (fun _ => []) (fun y => [.is True]) (fun y => (b.apply r).rd y) :=
 Ct.young (fun y : BrA => [(3, 1, y.1, (b.apply r).cf.ms.length, i64s (b.apply r).cf.ms), (70, 4, y.2.1, (b.apply r).its.length, itsV (b.apply r).its), (72, 8, y.2.2, (b.apply r).kps.length, kpsV (b.apply r).kps)]) (bapply_any b n z r x h hn hl hc) (fun _ => rfl) (fun _ => True) (fun _ _ => trivial)
theorem brK_in {zs : Rcs} (hz : RcsSm zs) {k : Nat} (hk : k ≤ zs.length) : (brK zs k).In k := by
 have := allK_in bz0_in (fun k hk => (hz k hk).1) k hk
 rwa [Nat.zero_add] at this
theorem brK_succ {zs : Rcs} {k : Nat} (h : k < zs.length) : brK zs (k + 1) = (brK zs k).apply zs[k].2 := allK_succ bz0 h
structure BI (zs : Rcs) where
 k : Nat
 y : BrA
 m : Nat
 Φk : List Fact
 hk : k ≤ zs.length
theorem brains1_it (L : Option Addr) (cL b0 : Nat) (zs : Rcs) (hn : zs.length ≤ 800000) (hz : RcsSm zs) :
 ItZ True Tryz.prog 60 [.pointer (some ⟨b0, 0, none⟩)] [.blk b0 22 [.slice L zs.length cL]] [.rd L (rcsV zs), .rcs zs, .lim, .chg] (zs.length + 1) (bvals zs) (bposts zs) := by
 refine ItZ.of _ Tryz.func60 Tryz.ntmps60 rfl rfl (by rfl) (by simp only [List.mem_cons, List.not_mem_nil, or_false]; rintro φ (rfl | rfl | rfl | rfl); exact Fact.rd_old _ _; exact rcs_old _; exact Fact.rd_old _ _; exact chg_old) (fun W l cl clx hno hy => ?_)
 have hrl := rcsV_len zs
 refine Jc.qs<|Jc.qr ?_
 refine Jl.pv (PR.build (by rfl) tze38 tpl38_ (by rfl)) ?_
 refine Jl.fact0 (.rd none []) (fun X W => Fact.rd_nil none X W) ?_
 refine Jl.call ((bown_y bz0 nilZ (by decide) (by decide) (by decide)).at W.heap.size) en28 (by rfl) zT zF ?_
 rintro y0
 refine Jl.alloc tze38 ?_
 intro b3
 refine Jl.storeW rfl tsh38 rfl (by rfl) (by first | exact Br.cs_one _ _ | simp [Value.oneCell', Rc.cs]) zS (by rfl) ?_
 refine Jl.qn<|Jq.qt<|Jc.qs<|Jc.qr<|Jl.pv (PR.qm rfl) ?_
 refine Jl.pv (PR.loadW rfl tsh38 zH (by rfl)) ?_
 refine hy _ _ _ _ _ _ _ _ _ _ _ _ _ _ 0 W.heap.size y0 [] (bz0.rd y0) (by omega) rfl (by rfl) zM zF (fun φ h => List.mem_append_left _ (List.mem_append_left _ h)) rfl (fun m11 => ?_) ?_
 · refine Jl.pv (PR.qa rfl)<|Jl.qn<|Jq.qt<|Jc.qs<|Jc.qr ?_
   refine Jl.pv (PR.load1 rfl tsh22 zH (by rfl)) ?_
   refine Jl.pv (PR.len rfl tsl22) ?_
   refine Jl.pv (PR.qm rfl)<|Jl.qn<|Jq.qt ?_
   refine Jc.block ?_
   refine Jc.loop (σ := BI zs) (fun s => [(14, .int .i64 (s.k : Int)), (13, .int .i64 (zs.length : Int)), (12, .slice L zs.length cL), (0, .func (.yield l) #[] #[]), (1, .pointer (some ⟨b0, 0, none⟩)), (3, ptr b3), (4, .bool true)]) (fun s => [.blk b3 38 ((brK zs s.k).cs s.y), .blk b0 22 [.slice L zs.length cL]]) (fun s => cl (s.k + 1) s.m s.Φk :: .sz s.m :: ((brK zs s.k).rd s.y ++ [.rd L (rcsV zs), .rcs zs, .lim, .chg])) (fun s => zs.length - s.k) ⟨0, y0, m11, bz0.rd y0 ++ [], Nat.zero_le _⟩ (by repeat (first | exact trivial | refine And.intro rfl ?_)) rfl zF ?_
   rintro ⟨k, y, m, Φk, hk⟩
   show Jc _ _ _ _ _ _ [(14, Value.int .i64 (k : Int)), (13, .int .i64 (zs.length : Int)), (12, .slice L zs.length cL), (0, .func (.yield l) #[] #[]), (1, .pointer (some ⟨b0, 0, none⟩)), (3, ptr b3), (4, .bool true)] [.blk b3 38 ((brK zs k).cs y), .blk b0 22 [.slice L zs.length cL]] (cl (k + 1) m Φk :: .sz m :: ((brK zs k).rd y ++ [.rd L (rcsV zs), .rcs zs, .lim, .chg]))
   refine Jc.qs<|Jc.qr ?_
   refine Jl.pv (PR.lss _ rfl rfl rfl) ?_
   refine Jl.qn<|Jq.qt<|Jc.qs ?_
   refine Jc.cond rfl (fun h0 => ?_) (fun h0 => ?_)
   · try replace h0 := zV h0
     have hlt : k < zs.length := by omega
     have hin := brK_in hz hk
     have hsm := hz k hlt
     refine Jc.fact (.rd zs[k].1.1 (i64s zs[k].2.l)) (φ := .rcs zs) zM (fun X W h => h _ (List.getElem_mem hlt)) ?_
     refine Jc.skip<|Jq.qt<|Jc.qs ?_
     refine Jc.block ?_
     refine Jc.qs<|Jc.qr ?_
     refine Jl.pv (PR.idx k rfl rfl tsl22 zM (rcsV_len _) (by omega) rfl hlt) ?_
     refine Jl.pv (PR.loadRA rfl tsh54 zM (by decide) (rcs_at hlt)) ?_
     refine Jl.alloc tze54 ?_
     intro b6
     refine Jl.storeW rfl tsh54 rfl (by rfl) (by first | exact Br.cs_one _ _ | simp [Value.oneCell', Rc.cs]) zS (by rfl) ?_
     refine Jl.qn<|Jq.qt<|Jc.qs<|Jc.qr ?_
     refine Jl.pv (PR.loadW rfl tsh38 zH (by rfl)) ?_
     refine Jl.pv (PR.loadW rfl tsh54 zH (by rfl)) ?_
     refine Jl.call ((bapply_y (brK zs k) k y zs[k].2 zs[k].1 hin (by omega) hsm.1 hsm.2).at m) en61 (by rfl) zT zF ?_
     rintro y2
     refine Jl.storeW rfl tsh38 rfl (by rfl) (by first | exact Br.cs_one _ _ | simp [Value.oneCell', Rc.cs]) zS (by rfl) ?_
     refine Jl.qn<|Jq.qt<|Jc.qr<|Jl.pv (PR.qm rfl) ?_
     refine Jl.as (.bool true) (congrArg Value.bool rfl) ?_
     refine Jl.pv (PR.qm rfl)<|Jl.on rfl rfl<|Jl.pv (PR.qm rfl)<|Jl.on rfl rfl ?_
     refine Jl.pv (PR.loadW rfl tsh38 zH (by rfl)) ?_
     refine Jl.on rfl rfl ?_
     refine hy _ _ _ _ _ _ _ _ _ _ _ _ _ _ (k + 1) m y2 Φk (((brK zs k).apply zs[k].2).rd y2) (by omega) rfl (by show _ = some [(brK zs (k + 1)).v y2]; rw [brK_succ hlt]; rfl) zM zF (fun φ h => List.mem_append_left _ (List.mem_append_left _ (by rw [bposts, brK_succ hlt] at h; exact h))) rfl (fun m25 => ?_) ?_
     · refine Jl.pv (PR.pickT rfl rfl)<|Jl.pv (PR.qa rfl)<|Jl.qn ?_
       refine Jq.blkN ?_
       refine Jq.qt<|Jc.qr ?_
       refine Jl.pv (PR.add ((k + 1 : Nat) : Int) rfl rfl (by rw [w64 (by omega) (by omega)]; rfl)) ?_
       refine Jl.pv (PR.qm rfl)<|Jl.qn ?_
       rw [← brK_succ hlt]
       exact Jq.againT ⟨k + 1, y2, m25, (brK zs (k + 1)).rd y2 ++ Φk, hlt⟩ (by simp only; omega) (by repeat (first | exact trivial | refine And.intro rfl ?_)) zT (by exact ⟨Mem.here, (Mem.there Mem.here), (Mem.there (Mem.there Mem.here)), (Mem.there (Mem.there (Mem.there Mem.here))), (Mem.there (Mem.there (Mem.there (Mem.there Mem.here)))), (Mem.there (Mem.there (Mem.there (Mem.there (Mem.there (Mem.app Mem.here _)))))), (Mem.there (Mem.there (Mem.there (Mem.there (Mem.there (Mem.app (Mem.there Mem.here) _)))))), (Mem.there (Mem.there (Mem.there (Mem.there (Mem.there (Mem.app (Mem.there (Mem.there Mem.here)) _)))))), (Mem.there (Mem.there (Mem.there (Mem.there (Mem.there (Mem.app (Mem.there (Mem.there (Mem.there Mem.here))) _)))))), trivial⟩)
     exact Jl.noX (hno trivial) zM
   try replace h0 := zW h0
   obtain rfl : k = zs.length := by omega
   refine Jc.exit ?_
   refine Jq.thenX ?_
   refine Jq.thenX ?_
   refine Jq.blkX ?_
   exact Jq.itDoneY (.inr rfl) zM
 exact Jl.noX (hno trivial) zM
theorem brains_ct (L : Option Addr) (n cL : Nat) : Ct Tryz.prog 37 [.slice L n cL] [] [] (fun b : Nat => .func (.func 60) #[] #[.pointer (some ⟨b, 0, none⟩)]) (fun b => [.blk b 22 [.slice L n cL]]) (fun _ => []) := by
 refine Ct.of _ Tryz.func37 Tryz.ntmps37 rfl rfl (fun X W => ?_)
 refine Jc.qs<|Jc.qr ?_
 refine Jl.box rfl (by rfl) ?_
 intro b1
 refine Jl.pv (PR.qa rfl)<|Jl.qn<|Jq.qt<|Jc.qs<|Jc.qr ?_
 refine Jl.pv (PR.makeFunc rfl rfl) ?_
 refine Jl.pv (PR.qa rfl)<|Jl.qn<|Jq.qt<|Jc.ret ?_
 exact Jq.fin b1 (.inl rfl) rfl (RetVs.tmp rfl RetVs.nil) rfl zT zF
structure BS (zs : Rcs) where
 k : Nat
 ws : Brs
 A : Option Addr
 c : Nat
 hw : ws.map (·.2) = (List.range k).map (brK zs)
abbrev BrsOf (zs : Rcs) := { ws : Brs // ws.map (·.2) = (List.range (zs.length + 1)).map (brK zs) }
theorem BrsOf.len {zs : Rcs} (x : BrsOf zs) : x.1.length = zs.length + 1 := by
 have := congrArg List.length x.2
 simpa using this
theorem BrsOf.at_ {zs : Rcs} (x : BrsOf zs) {k : Nat} (h : k < zs.length + 1) : ∃ y, x.1[k]? = some (y, brK zs k) := by
 have h1 : k < x.1.length := by rw [x.len]; exact h
 have h2 := congrArg (fun l => l[k]?) x.2
 simp only [List.getElem?_map, List.getElem?_eq_getElem h1, List.getElem?_range h, Option.map_some, Option.some.injEq] at h2
 exact ⟨x.1[k].1, by rw [List.getElem?_eq_getElem h1, ← h2]⟩
theorem replayBrains_ct (L : Option Addr) (cL : Nat) (zs : Rcs) (hn : zs.length ≤ 800000) (hz : RcsSm zs) :
 Ct Tryz.prog 21 [.slice L zs.length cL] [] [.rd L (rcsV zs), .rcs zs, .lim, .chg] (fun x : BrsOf zs × AdC => .slice x.2.1 (zs.length + 1) x.2.2)
  (fun x => [.row 38 27 (.slice x.2.1 (zs.length + 1) x.2.2) (zs.length + 1) (brsV x.1.1)]) (fun x => [.brs x.1.1]) := by
 refine Ct.of _ Tryz.func21 Tryz.ntmps21 rfl rfl (fun X W => ?_)
 refine Jc.qs<|Jc.qr ?_
 refine Jl.alloc tze56 ?_
 intro b2
 refine Jl.qn<|Jq.qt<|Jc.qs<|Jc.qs<|Jc.qr<|Jl.pv (PR.qm rfl) ?_
 refine Jl.call (brains_ct L zs.length cL) en37 (by rfl) zT zF ?_
 rintro b5
 refine Jl.qn<|Jq.qt ?_
 refine Jc.block ?_
 refine Jc.nilRow 38 27 ?_
 refine Jc.fact0 (.brs []) (fun X W => by intro z hz; simp at hz) ?_
 refine Jc.rangeZ (σ := BS zs) (τ := Empty) (Inv := fun k s => s.k = k) (Rs := fun s => [.row 38 27 (.slice s.A s.k s.c) s.k (brsV s.ws), .blk b2 56 [.slice s.A s.k s.c]]) (Φs := fun s => [.brs s.ws]) (InvX := fun _ _ _ => False) (RsX := fun _ => []) (ΦsX := fun _ => []) (vals := bvals zs) (posts := bposts zs) rfl en60 (brains1_it L cL b5 zs hn hz) (fun _ _ _ _ h => h) zT zF (fun _ _ => rfl) rfl ⟨0, [], none, 0, rfl⟩ rfl (by simp [brsV]) (by exact ⟨Mem.here, trivial⟩) ?_ ?_ ?_
 · rintro k ⟨j, ws, A', c', hw⟩ y hk hj l C1
   obtain rfl : k = j := hj.symm
   have hwl : ws.length = k := by have := congrArg List.length hw; simpa using this
   have hbl := brsV_len ws
   show Jc _ _ _ _ _ _ (psetL [6] [(brK zs k).v y] _) [.row 38 27 (.slice A' k c') k (brsV ws), .blk b2 56 [.slice A' k c']] ((brK zs k).rd y ++ [.brs ws])
   refine Jc.qr ?_
   refine Jl.alloc tze38 ?_
   intro b3
   refine Jl.storeW rfl tsh38 rfl (by rfl) (by first | exact Br.cs_one _ _ | simp [Value.oneCell', Rc.cs]) zS (by rfl) ?_
   refine Jl.qn ?_
   refine Jq.assigned (fun C2 => ?_)
   refine Jc.block ?_
   refine Jc.qr ?_
   refine Jl.pv (PR.load1 rfl tsh56 zH (by rfl)) ?_
   refine Jl.pv (PR.loadW rfl tsh38 zH (by rfl)) ?_
   refine Jl.buildSlice (by rfl) tsl56 tzr56_1 (by rfl) (by rfl) ?_
   intro b9
   refine Jl.seal zD ?_
   refine Jl.append (k + 1) (brsV (ws ++ [(y, brK zs k)])) rfl rfl rfl tsl56 tze38 (by rfl) (by decide) tby38 (fun _ _ => zS) zM rfl (by rw [brsV_snoc]; rfl) rfl (by exact Br.cs_one _ _) (by omega) (by decide) ?_
   intro A10 c10
   refine Jl.brs (ws := ws) y (brK zs k) zM zF ?_
   refine Jl.store1 rfl tsh56 rfl (by rfl) zS (by rfl) ?_
   refine Jl.qn ?_
   refine Jq.blkN ?_
   refine Jq.lessR (rs := [.row 38 27 (.slice A10 (k + 1) c10) (k + 1) (brsV (ws ++ [(y, brK zs k)])), .blk b2 56 [.slice A10 (k + 1) c10]]) zT ?_
   exact Jq.next ⟨k + 1, ws ++ [(y, brK zs k)], A10, c10, by rw [List.map_append, hw, List.range_succ, List.map_append]; rfl⟩ rfl rfl (by exact ⟨zM, trivial⟩)
 · rintro ⟨j, ws, A', c', hw⟩ D0 hj
   obtain rfl : j = zs.length + 1 := hj
   show Jq _ _ _ .normal _ [.mark D0, .row 38 27 (.slice A' (zs.length + 1) c') (zs.length + 1) (brsV ws), .blk b2 56 [.slice A' (zs.length + 1) c']] [.brs ws]
   refine Jq.blkN ?_
   refine Jq.qt<|Jc.qs<|Jc.qr ?_
   refine Jl.pv (PR.load1 rfl tsh56 zH (by rfl)) ?_
   refine Jl.store1 rfl tsh56 rfl (by rfl) zS (by rfl) ?_
   refine Jl.qn<|Jq.qt<|Jc.ret ?_
   exact Jq.finM (Ds := [D0]) (⟨ws, hw⟩, (A', c')) (.inl rfl) rfl zT (RetVs.cell1 rfl zH tsh56 (by rfl) RetVs.nil) rfl zT zF
 exact fun _ _ t => t.elim
end Go.Proofs.YtakbgccddokbbaaGreatDoor
namespace Go.Proofs.YtakbgccddokbbaaGreatDoor
open Go.RowKit
attribute [local irreducible] Res.blk Res.row Fact.rd
instance : DecidableEq Rc := fun a b => decidable_of_iff _ (sameR_iff (a := a) (b := b))
def lgGreat (d : Dk) (zs : Rcs) : Bool := (zs.take 31).any (fun z => decide (45 < z.2.l.length)) || decide (1500 < d.b.length ∨ 30 < zs.length)
theorem lgGreat_no {d : Dk} {zs : Rcs} (h : lgGreat d zs = false) : d.b.length ≤ 1500 ∧ zs.length ≤ 30 ∧ ∀ z ∈ zs, z.2.l.length ≤ 45 := by
 simp only [lgGreat, Bool.or_eq_false_iff, decide_eq_false_iff_not, not_or] at h
 refine ⟨by omega, by omega, fun z hz => ?_⟩
 rw [List.take_of_length_le (by omega), List.any_eq_false] at h
 have := h.1 z hz
 simpa using this
theorem lgGreat_at {d : Dk} {zs : Rcs} {k : Nat} (h : k < zs.length) (h1 : k ≤ 30) (h2 : 45 < zs[k].2.l.length) : lgGreat d zs = true := by
 rw [lgGreat, Bool.or_eq_true]
 left
 rw [List.any_eq_true]
 exact ⟨zs[k], List.mem_iff_getElem.2 ⟨k, by rw [List.length_take]; omega, by simp⟩, by simpa using h2⟩
theorem lgGreat_end {d : Dk} {zs : Rcs} {k : Nat} (h : ∀ j (hj : j < zs.length), j < k → zs[j].2.l.length ≤ 45) (hk : k = zs.length ∨ 31 ≤ k) : lgGreat d zs = decide (1500 < d.b.length ∨ 30 < zs.length) := by
 rw [lgGreat]
 have : (zs.take 31).any (fun z => decide (45 < z.2.l.length)) = false := by
  rw [List.any_eq_false]
  intro z hz
  obtain ⟨j, hj, rfl⟩ := List.mem_iff_getElem.1 hz
  rw [List.length_take] at hj
  rw [List.getElem_take]
  have := h j (by omega) (by omega)
  simpa using this
 rw [this, Bool.false_or]
theorem lgreat_ct (d : Dk) (x : AdC) (L : Option Addr) (cL : Nat) (zs : Rcs) : Ct Tryz.prog 7 [d.v x, .slice L zs.length cL] [] [.rd L (rcsV zs)] (fun _ : Unit => .bool (lgGreat d zs)) (fun _ => []) (fun _ => []) := by
 have hz2 := rcsV_len zs
 refine Ct.of _ Tryz.func7 Tryz.ntmps7 rfl rfl (fun X W => ?_)
 refine Jc.qs<|Jc.qr ?_
 refine Jl.box rfl (by rfl) ?_
 intro b2
 refine Jl.pv (PR.qa rfl)<|Jl.qn<|Jq.qt<|Jc.qs<|Jc.qs<|Jc.qr<|Jl.pv (PR.qa rfl)<|Jl.qn<|Jq.qt ?_
 refine Jc.block ?_
 refine Jc.loop (σ := { k : Nat // (k ≤ zs.length ∧ k ≤ 31) ∧ ∀ j (hj : j < zs.length), j < k → zs[j].2.l.length ≤ 45 }) (fun s => [(5, .int .i64 (s.1 : Int)), (1, .slice L zs.length cL), (2, .pointer (some ⟨b2, 0, none⟩))]) (fun _ => [.blk b2 27 (d.cs x)]) (fun s => [.rd L (rcsV zs)]) (fun s => 31 - s.1) ⟨0, ⟨Nat.zero_le _, Nat.zero_le _⟩, fun j hj h => by omega⟩ (by repeat (first | exact trivial | refine And.intro rfl ?_)) rfl zF ?_
 rintro ⟨k, ⟨hk, hk2⟩, hN⟩
 show Jc _ _ _ _ _ _ [(5, Value.int .i64 (k : Int)), (1, .slice L zs.length cL), (2, .pointer (some ⟨b2, 0, none⟩))] [.blk b2 27 (d.cs x)] [.rd L (rcsV zs)]
 refine Jc.qs<|Jc.qs<|Jc.qr<|Jl.pv (PR.qm rfl)<|Jl.pv (PR.qm rfl) ?_
 refine Jl.pv (PR.len rfl tsl22) ?_
 refine Jl.pv (PR.lss _ rfl rfl rfl) ?_
 refine Jl.pv (PR.qm rfl) ?_
 refine Jl.bsplit (fun g10 => ?_) (fun g10 => ?_)
 · try replace g10 := zV g10
   refine Jl.on rfl rfl<|Jl.pv (PR.qm rfl)<|Jl.on rfl rfl ?_
   refine Jl.pv (PR.leq _ rfl rfl rfl) ?_
   refine Jl.pv (PR.pickT rfl rfl)<|Jl.qn<|Jq.qt ?_
   refine Jc.cond rfl (fun h0 => ?_) (fun h0 => ?_)
   · try replace h0 := zV h0
     have hlt : k < zs.length := by omega
     refine Jc.skip<|Jq.qt<|Jc.qs ?_
     refine Jc.block ?_
     refine Jc.qs<|Jc.qr<|Jl.pv (PR.qm rfl)<|Jl.pv (PR.qm rfl) ?_
     refine Jl.pv (PR.idx k rfl rfl tsl22 zM (rcsV_len _) (by omega) rfl hlt) ?_
     refine Jl.pv (PR.fieldAddrR rfl tfl54_1 zM (by omega)) ?_
     refine Jl.pv (PR.loadR rfl tsh23 zM ((takeL_spec (rcs_at hlt)).2 1 _ rfl)) ?_
     refine Jl.pv (PR.len rfl tsl23) ?_
     refine Jl.pv (PR.gtr _ rfl rfl rfl) ?_
     refine Jl.qn<|Jq.qt ?_
     refine Jc.cond rfl (fun h1 => ?_) (fun h1 => ?_)
     · try replace h1 := zV h1
       refine Jc.qs<|Jc.qr<|Jl.pv (PR.qa rfl)<|Jl.qn<|Jq.qt<|Jc.ret ?_
       refine Jq.blkR ?_
       refine Jq.thenR<|Jq.thenR ?_
       refine Jq.blkR ?_
       refine Jq.thenR ?_
       exact Jq.fin () (.inl rfl) rfl (RetVs.tmp rfl RetVs.nil) (congrArg Value.bool (lgGreat_at hlt (by omega) (by omega))) zT zF
     try replace h1 := zW h1
     refine Jc.skip ?_
     refine Jq.blkN ?_
     refine Jq.qt<|Jc.qr<|Jl.pv (PR.qm rfl) ?_
     refine Jl.pv (PR.add ((k + 1 : Nat) : Int) rfl rfl (by rw [w64 (by omega) (by omega)]; rfl)) ?_
     refine Jl.pv (PR.qa rfl)<|Jl.qn ?_
     exact Jq.againT ⟨k + 1, ⟨hlt, by omega⟩, fun j hj hjk => by rcases Nat.lt_succ_iff_lt_or_eq.1 hjk with h | rfl; exact hN j hj h; omega⟩ (by simp only; omega) (by repeat (first | exact trivial | refine And.intro rfl ?_)) zT zF
   try replace h0 := zW h0
   have hgr := lgGreat_end (d := d) hN (by omega)
   refine Jc.exit ?_
   refine Jq.thenX ?_
   refine Jq.thenX ?_
   refine Jq.blkX ?_
   refine Jq.qt<|Jc.qs<|Jc.qr<|Jl.pv (PR.qf rfl tfl27_0) ?_
   refine Jl.pv (PR.load1 rfl tsh25 zH (by rfl)) ?_
   refine Jl.pv (PR.len rfl tsl25) ?_
   refine Jl.pv (PR.gtr _ rfl rfl rfl) ?_
   refine Jl.pv (PR.qm rfl) ?_
   refine Jl.bsplit (fun g27 => ?_) (fun g27 => ?_)
   · try replace g27 := zV g27
     refine Jl.qo rfl rfl rfl<|Jl.qo rfl rfl rfl<|Jl.qo rfl rfl rfl<|Jl.pv (PR.pickT rfl rfl)<|Jl.pv (PR.qa rfl)<|Jl.qn<|Jq.qt<|Jc.ret ?_
     exact Jq.fin () (.inl rfl) rfl (RetVs.tmp rfl RetVs.nil) (congrArg Value.bool (by rw [hgr, Bool.eq_iff_iff]; simp; omega)) zT zF
   try replace g27 := zW g27
   refine Jl.on rfl rfl<|Jl.pv (PR.qm rfl)<|Jl.on rfl rfl ?_
   refine Jl.pv (PR.len rfl tsl22) ?_
   refine Jl.on rfl rfl ?_
   refine Jl.pv (PR.gtr _ rfl rfl rfl) ?_
   refine Jl.pv (PR.pickF rfl rfl)<|Jl.pv (PR.qa rfl)<|Jl.qn<|Jq.qt<|Jc.ret ?_
   exact Jq.fin () (.inl rfl) rfl (RetVs.tmp rfl RetVs.nil) (congrArg Value.bool (by rw [hgr, Bool.eq_iff_iff]; simp; omega)) zT zF
 try replace g10 := zW g10
 have hgr := lgGreat_end (d := d) hN (by omega)
 refine Jl.qo rfl rfl rfl<|Jl.qo rfl rfl rfl<|Jl.pv (PR.pickF rfl rfl)<|Jl.qn<|Jq.qt<|Jc.condF rfl ?_
 refine Jc.exit ?_
 refine Jq.thenX ?_
 refine Jq.thenX ?_
 refine Jq.blkX ?_
 refine Jq.qt<|Jc.qs<|Jc.qr<|Jl.pv (PR.qf rfl tfl27_0) ?_
 refine Jl.pv (PR.load1 rfl tsh25 zH (by rfl)) ?_
 refine Jl.pv (PR.len rfl tsl25) ?_
 refine Jl.pv (PR.gtr _ rfl rfl rfl) ?_
 refine Jl.pv (PR.qm rfl) ?_
 refine Jl.bsplit (fun g27 => ?_) (fun g27 => ?_)
 · try replace g27 := zV g27
   refine Jl.qo rfl rfl rfl<|Jl.qo rfl rfl rfl<|Jl.qo rfl rfl rfl<|Jl.pv (PR.pickT rfl rfl)<|Jl.pv (PR.qa rfl)<|Jl.qn<|Jq.qt<|Jc.ret ?_
   exact Jq.fin () (.inl rfl) rfl (RetVs.tmp rfl RetVs.nil) (congrArg Value.bool (by rw [hgr, Bool.eq_iff_iff]; simp; omega)) zT zF
 try replace g27 := zW g27
 refine Jl.on rfl rfl<|Jl.pv (PR.qm rfl)<|Jl.on rfl rfl ?_
 refine Jl.pv (PR.len rfl tsl22) ?_
 refine Jl.on rfl rfl ?_
 refine Jl.pv (PR.gtr _ rfl rfl rfl) ?_
 refine Jl.pv (PR.pickF rfl rfl)<|Jl.pv (PR.qa rfl)<|Jl.qn<|Jq.qt<|Jc.ret ?_
 exact Jq.fin () (.inl rfl) rfl (RetVs.tmp rfl RetVs.nil) (congrArg Value.bool (by rw [hgr, Bool.eq_iff_iff]; simp; omega)) zT zF
 -- hint not used: one
 -- hint not used: ret@h0F
 -- hint not used: ret@g10F
end Go.Proofs.YtakbgccddokbbaaGreatDoor
namespace Go.Proofs.YtakbgccddokbbaaGreatDoor
open Go.RowKit
attribute [local irreducible] Res.blk Res.row Fact.rd Fact.chg
theorem in_mono {b : Br} {n m : Nat} (h : b.In n) (hm : n ≤ m) : b.In m := ⟨h.ok, Nat.le_trans h.its hm, Nat.le_trans h.kps hm, h.ms, by have := h.ep; omega⟩
theorem rcsN_len (zs : Rcs) : (rcsN zs).length = zs.length := List.length_map ..
theorem rcsN_small {zs : Rcs} (hz : RcsSm zs) : ∀ r ∈ rcsN zs, r.l.length ≤ 1000 := fun r hr => by
 obtain ⟨w, hw, rfl⟩ := List.mem_map.1 hr
 obtain ⟨k, hk, rfl⟩ := List.mem_iff_getElem.1 hw
 exact (hz k hk).1
theorem stepB_in {d : Dk} {b : Br} {n : Nat} {zs : Rcs} (h : b.In n) (hz : RcsSm zs) : (stepB d b zs).In (n + zs.length) := by
 unfold stepB
 split
 · have := all_in h (rcsN_small hz)
   rwa [rcsN_len] at this
 · exact in_mono h (by omega)
theorem bootB_in (d : Dk) : (bootB d).In (d.own.b.length + 1) := stepB_in (log_in d.own.b) zb_sm
def wD1 : Dk := bootD (Dk.new 500)
def wB1 : Br := bootB (Dk.new 500)
def wD2 : Dk := stepD wD1 zb
def wB2 : Br := stepB wD1 wB1 zb
def wD3 : Dk := tornD wD2 1 zb
theorem wB1_in : wB1.In 1 := by
 have h := bootB_in (Dk.new 500)
 rw [show (Dk.new 500).own.b.length = 0 by decide +kernel] at h
 exact h
theorem wB2_in : wB2.In 2 := stepB_in wB1_in zb_sm
theorem brs1 {ws : Brs} (h : ∃ y, ws[1]? = some (y, brK zb 1)) : (brsV ws)[1 * 27 + 0]? = some (.int .i64 (brK zb 1).ep) := by
  obtain ⟨y, h⟩ := h
  match ws, h with
  | w0 :: w1 :: ws, h =>
    simp only [List.getElem?_cons_succ, List.getElem?_cons_zero, Option.some.injEq] at h
    subst h
    have e : (w0.2.cs w0.1).length = 27 := by simp [Br.cs, Cf.cs, Rf.cs]
    rw [brsV, List.flatMap_cons, List.flatMap_cons, List.getElem?_append_right (by omega), e]
    rfl
theorem rwakes_ct (mm : Nat → AdC) : Ct Tryz.prog 9 [] [] [.many mm, .lim, .chg] (fun _ : Unit => .bool true) (fun _ => []) (fun _ => []) := by
 refine Ct.of _ Tryz.func9 Tryz.ntmps9 rfl rfl (fun X W => ?_)
 refine Jc.fact0 (.rcs zb) (fun X W => zb_rcs X W) ?_
 refine Jc.qs<|Jc.qr<|Jl.pv (PR.qa rfl)<|Jl.qn<|Jq.qt<|Jc.qs<|Jc.qr ?_
 refine Jl.call (rnew_ct 500) en10 (by rfl) zT zF ?_
 rintro ⟨A13, c13⟩
 refine Jl.sealC zD (fun hc13 => ?_)
 refine Jl.call (boot_ct (Dk.new 500) (A13, c13) mm (by decide +kernel) hc13) en17 (by rfl) zT zF ?_
 rintro ⟨⟨A14, c14⟩, z14⟩
 refine Jl.sealC (A := A14) (m := (wD1).b.length) (cap := c14) (xs := u8s (wD1).b) zD (fun hc14 => ?_)
 refine Jl.sealR (A := z14.1.1) (m := (wB1).cf.ms.length) (cap := z14.1.2) (xs := i64s (wB1).cf.ms) zD ?_
 refine Jl.sealR (A := z14.2.1.1) (m := (wB1).its.length) (cap := z14.2.1.2) (xs := itsV (wB1).its) zD ?_
 refine Jl.sealR (A := z14.2.2.1) (m := (wB1).kps.length) (cap := z14.2.2.2) (xs := kpsV (wB1).kps) zD ?_
 refine Jl.pv (PR.qm rfl) ?_
 refine Jl.pv (PR.extract rfl (by rfl)) ?_
 refine Jl.pv (PR.extract rfl (by rfl)) ?_
 refine Jl.pv (PR.extract rfl (by rfl)) ?_
 refine Jl.alloc tze27 ?_
 intro b1
 refine Jl.alloc tze38 ?_
 intro b2
 refine Jl.storeW rfl tsh27 rfl (by rfl) (by first | exact Br.cs_one _ _ | simp [Value.oneCell', Dk.cs, Rc.cs]) zS (by rfl) ?_
 refine Jl.storeW rfl tsh38 rfl (by rfl) (by first | exact Br.cs_one _ _ | simp [Value.oneCell', Dk.cs, Rc.cs]) zS (by rfl) ?_
 refine Jl.pv (PR.qa rfl)<|Jl.qn<|Jq.qt<|Jc.qs<|Jc.qr ?_
 refine Jl.pv (PR.loadW rfl tsh27 zH (by rfl)) ?_
 refine Jl.pv (PR.loadW rfl tsh38 zH (by rfl)) ?_
 refine Jl.pv (PR.build (by rfl) tze54 tpl54_0 (by rfl)) ?_
 refine Jl.buildSlice (by rfl) tsl22 tzr22_1 (by rfl) (by rfl) ?_
 intro b22
 refine Jl.seal (b := b22) zD ?_
 refine Jl.call (step_ct wD1 (A14, c14) wB1 1 z14 (some ⟨b22, 0, none⟩) 1 zb mm (by decide +kernel) hc14 (by decide) zb_sm wB1_in (by decide)) en11 (by rfl) zT zF ?_
 rintro ⟨⟨A23, c23⟩, z23⟩
 refine Jl.sealC (A := A23) (m := (wD2).b.length) (cap := c23) (xs := u8s (wD2).b) zD (fun hc23 => ?_)
 refine Jl.sealR (A := z23.1.1) (m := (wB2).cf.ms.length) (cap := z23.1.2) (xs := i64s (wB2).cf.ms) zD ?_
 refine Jl.sealR (A := z23.2.1.1) (m := (wB2).its.length) (cap := z23.2.1.2) (xs := itsV (wB2).its) zD ?_
 refine Jl.sealR (A := z23.2.2.1) (m := (wB2).kps.length) (cap := z23.2.2.2) (xs := kpsV (wB2).kps) zD ?_
 refine Jl.pv (PR.qm rfl) ?_
 refine Jl.pv (PR.extract rfl (by rfl)) ?_
 refine Jl.pv (PR.extract rfl (by rfl)) ?_
 refine Jl.pv (PR.extract rfl (by rfl)) ?_
 refine Jl.storeW rfl tsh27 rfl (by rfl) (by first | exact Br.cs_one _ _ | simp [Value.oneCell', Dk.cs, Rc.cs]) zS (by rfl) ?_
 refine Jl.storeW rfl tsh38 rfl (by rfl) (by first | exact Br.cs_one _ _ | simp [Value.oneCell', Dk.cs, Rc.cs]) zS (by rfl) ?_
 refine Jl.pv (PR.qa rfl)<|Jl.qn<|Jq.qt<|Jc.qs<|Jc.qr ?_
 refine Jl.pv (PR.loadW rfl tsh27 zH (by rfl)) ?_
 refine Jl.pv (PR.build (by rfl) tze54 tpl54_0 (by rfl)) ?_
 refine Jl.buildSlice (by rfl) tsl22 tzr22_1 (by rfl) (by rfl) ?_
 intro b29
 refine Jl.seal (b := b29) zD ?_
 refine Jl.call (torn_ct wD2 (A23, c23) 1 (some ⟨b29, 0, none⟩) 1 zb mm (by decide +kernel) hc23 (by decide) zb_sm) en16 (by rfl) zT zF ?_
 rintro ⟨A30, c30⟩
 refine Jl.sealC (A := A30) (m := (wD3).b.length) (cap := c30) (xs := u8s (wD3).b) zD (fun hc30 => ?_)
 refine Jl.alloc tze27 ?_
 intro b5
 refine Jl.storeW rfl tsh27 rfl (by rfl) (by first | exact Br.cs_one _ _ | simp [Value.oneCell', Dk.cs, Rc.cs]) zS (by rfl) ?_
 refine Jl.qn<|Jq.qt<|Jc.qs<|Jc.qr ?_
 refine Jl.pv (PR.loadW rfl tsh27 zH (by rfl)) ?_
 refine Jl.call (of_ctR wD3 (A30, c30) mm (by decide +kernel) hc30) en12 (by rfl) zT zF ?_
 rintro ⟨⟨⟨A33, c33⟩, h33⟩, z33⟩
 refine Jl.pv (PR.qm rfl) ?_
 refine Jl.pv (PR.extract rfl (by rfl)) ?_
 refine Jl.pv (PR.extract rfl (by rfl)) ?_
 refine Jl.alloc tze27 ?_
 intro b6
 refine Jl.alloc tze38 ?_
 intro b7
 refine Jl.storeW rfl tsh27 rfl (by rfl) (by first | exact Br.cs_one _ _ | simp [Value.oneCell', Dk.cs, Rc.cs]) zS (by rfl) ?_
 refine Jl.storeW rfl tsh38 rfl (by rfl) (by first | exact Br.cs_one _ _ | simp [Value.oneCell', Dk.cs, Rc.cs]) zS (by rfl) ?_
 refine Jl.qn<|Jq.qt<|Jc.qs ?_
 refine Jc.drawn [0, 0, 0, 4, 15, 31, 63, 63, 63, 0, 0, 1663, 3839, 8191] ([(13, false)], []) [⟨[(1, false), (2, false), (3, true), (9, true), (10, true)], [], 0⟩, ⟨[], [3], 4⟩, ⟨[(5, false), (6, false), (7, false), (8, false)], [9, 10], 11⟩, ⟨[], [], 12⟩] tmx (by kernel_rfl) ?_
 refine Dh.JH.cons ?_
 refine Dh.JB.rd [.blk _ _ _] rfl trivial zT (fun _ => PR.loadW rfl tsh38 Has.here (by rfl)) ?_
 refine Dh.JB.pv rfl trivial (fun _ => PR.build (by rfl) tze54 tpl54_0 (by rfl)) ?_
 refine Dh.JB.buildSlice rfl trivial (by rfl) tsl22 tzr22_1 (by rfl) (by rfl) ?_
 refine Dh.JB.alloc rfl trivial tze27 ?_
 refine Dh.JB.alloc rfl trivial tze38 ?_
 refine Dh.JB.nil<|Dh.JL.nil ?_
 refine Dh.JE.mk rfl (fun _ h => by cases h) (fun C5_0 => ?_)
 refine Jl.call (rnew_ct 1) en10 (by rfl) zT zF ?_
 rintro ⟨A37, c37⟩
 refine Jl.sealC (A := A37) (m := (Dk.new 1).b.length) (cap := c37) (xs := u8s (Dk.new 1).b) zD (fun hc37 => ?_)
 refine Jl.qn ?_
 refine Dh.Jq.segV zX ?_ zK
 refine Dh.JH.cons<|Dh.JB.nil ?_
 refine Dh.JL.sl rfl (by repeat (first | exact Dh.es_here | apply Dh.es_there)) (fun b40 => ?_)
 refine Dh.JL.nil ?_
 refine Dh.JE.mk rfl (fun _ h => by cases h) (fun C5_4 => ?_)
 refine Jl.seal (b := b40) zD ?_
 refine Jl.call (step_ct (Dk.new 1) (A37, c37) wB2 2 z23 (some ⟨b40, 0, none⟩) 1 zb mm (by decide +kernel) hc37 (by decide) zb_sm wB2_in (by decide)) en11 (by rfl) zT zF ?_
 rintro ⟨⟨A41, c41⟩, z41⟩
 refine Jl.qn ?_
 refine Dh.Jq.segV zX ?_ zK
 refine Dh.JH.cons<|Dh.JB.pv rfl trivial (fun _ => PR.qm rfl) ?_
 refine Dh.JB.pv rfl trivial (fun _ => PR.extract rfl (by rfl)) ?_
 refine Dh.JB.pv rfl trivial (fun _ => PR.extract rfl (by rfl)) ?_
 refine Dh.JB.pv rfl trivial (fun _ => PR.extract rfl (by rfl)) ?_
 refine Dh.JB.nil ?_
 refine Dh.JL.ptr rfl (by repeat (first | exact Dh.es_here | apply Dh.es_there)) (fun b8 => ?_)
 refine Dh.JL.ptr rfl (by repeat (first | exact Dh.es_here | apply Dh.es_there)) (fun b9 => ?_)
 refine Dh.JL.nil ?_
 refine Dh.JE.mk rfl (fun _ h => by cases h) (fun C5_11 => ?_)
 refine Jl.storeW rfl tsh27 rfl (by rfl) (by first | exact Br.cs_one _ _ | simp [Value.oneCell', Dk.cs, Rc.cs]) zS (by rfl) ?_
 refine Jl.qn ?_
 refine Dh.Jq.segN zX ?_ zK
 refine Dh.JH.cons<|Dh.JB.nil<|Dh.JL.nil ?_
 refine Dh.JE.mk rfl (fun _ h => by cases h) (fun C5_12 => ?_)
 refine Jl.storeW rfl tsh38 rfl (by rfl) (by first | exact Br.cs_one _ _ | simp [Value.oneCell', Dk.cs, Rc.cs]) zS (by rfl) ?_
 refine Jl.qn ?_
 refine Dh.Jq.segN zX ?_ zK
 refine Dh.JH.nil ?_
 refine Dh.JB.pv rfl trivial (fun _ => PR.qa rfl) ?_
 refine Dh.JB.nil<|Dh.JL.nil<|Jq.qt<|Jc.qs<|Jc.qr ?_
 refine Jl.pv (PR.build (by rfl) tze54 tpl54_0 (by rfl)) ?_
 refine Jl.buildSlice (by rfl) tsl22 tzr22_1 (by rfl) (by rfl) ?_
 intro b46
 refine Jl.seal (b := b46) zD ?_
 refine Jl.call (replayBrains_ct (some ⟨b46, 0, none⟩) 1 zb (by decide) zb_sm) en21 (by rfl) zT zF ?_
 rintro ⟨ws, ⟨A47, c47⟩⟩
 refine Jl.sealR (A := A47) (xs := brsV ws.1) zD ?_
 refine Jl.pv (PR.qa rfl)<|Jl.qn<|Jq.qt<|Jc.qs<|Jc.qr<|Jl.pv (PR.qm rfl) ?_
 refine Jl.pv (PR.eql true rfl rfl (by decide +kernel)) ?_
 refine Jl.pv (PR.qm rfl)<|Jl.on rfl rfl<|Jl.pv (PR.qm rfl)<|Jl.on rfl rfl ?_
 refine Jl.pv (PR.eql true rfl rfl (by decide +kernel)) ?_
 refine Jl.pv (PR.pickT rfl rfl)<|Jl.pv (PR.qm rfl)<|Jl.on rfl rfl<|Jl.pv (PR.qf rfl tfl38_0)<|Jl.on rfl rfl ?_
 refine Jl.pv (PR.load1 rfl tsh3 zH (by rfl)) ?_
 refine Jl.on rfl rfl ?_
 refine Jl.pv (PR.eql true rfl rfl (by decide +kernel)) ?_
 refine Jl.pv (PR.pickT rfl rfl)<|Jl.pv (PR.qm rfl)<|Jl.on rfl rfl<|Jl.pv (PR.qf rfl tfl38_0)<|Jl.on rfl rfl ?_
 refine Jl.pv (PR.load1 rfl tsh3 zH (by rfl)) ?_
 refine Jl.on rfl rfl ?_
 refine Jl.pv (PR.eql true rfl rfl (by decide +kernel)) ?_
 refine Jl.pv (PR.pickT rfl rfl)<|Jl.pv (PR.qm rfl)<|Jl.on rfl rfl<|Jl.pv (PR.qm rfl)<|Jl.on rfl rfl ?_
 refine Jl.pv (PR.eql true rfl rfl (by decide +kernel)) ?_
 refine Jl.pv (PR.pickT rfl rfl)<|Jl.pv (PR.qm rfl)<|Jl.on rfl rfl<|Jl.pv (PR.qm rfl)<|Jl.on rfl rfl ?_
 refine Jl.pv (PR.len rfl tsl56) ?_
 refine Jl.on rfl rfl ?_
 refine Jl.pv (PR.eql true rfl rfl (by decide +kernel)) ?_
 refine Jl.pv (PR.pickT rfl rfl)<|Jl.pv (PR.qm rfl)<|Jl.on rfl rfl<|Jl.pv (PR.qm rfl)<|Jl.on rfl rfl ?_
 refine Jl.pv (PR.idx 1 rfl rfl tsl56 zM (by rw [brsV_len, ws.len]) (by omega) rfl (by decide)) ?_
 refine Jl.on rfl rfl ?_
 refine Jl.pv (PR.fieldAddrR rfl tfl38_0 zM (by rw [brsV_len, ws.len]; decide)) ?_
 refine Jl.on rfl rfl ?_
 refine Jl.pv (PR.loadR rfl tsh3 zM (brs1 (ws.at_ (by decide)))) ?_
 refine Jl.on rfl rfl ?_
 refine Jl.pv (PR.eql true rfl rfl (by decide +kernel)) ?_
 refine Jl.pv (PR.pickT rfl rfl)<|Jl.pv (PR.qm rfl)<|Jl.on rfl rfl ?_
 refine Jl.pv (PR.loadW rfl tsh27 zH (by rfl)) ?_
 refine Jl.on rfl rfl ?_
 refine Jl.call (safe_ctR wD2 (A23, c23) mm (by decide +kernel) hc23) en14 (by rfl) zT zF ?_
 rintro z82
 refine Jl.on rfl rfl ?_
 refine Jl.pv (PR.field1 rfl tfl38_0 ⟨_, _, Tryz.underlying38, rfl, tsh3⟩ (by rfl)) ?_
 refine Jl.on rfl rfl ?_
 refine Jl.pv (PR.eql true rfl rfl (by decide +kernel)) ?_
 refine Jl.pv (PR.pickT rfl rfl)<|Jl.pv (PR.qm rfl)<|Jl.on rfl rfl<|Jl.pv (PR.qf rfl tfl27_1)<|Jl.on rfl rfl ?_
 refine Jl.pv (PR.load1 rfl tsh3 zH (by rfl)) ?_
 refine Jl.on rfl rfl<|Jl.pv (PR.qf rfl tfl27_0)<|Jl.on rfl rfl ?_
 refine Jl.pv (PR.load1 rfl tsh25 zH (by rfl)) ?_
 refine Jl.on rfl rfl ?_
 refine Jl.pv (PR.len rfl tsl25) ?_
 refine Jl.on rfl rfl ?_
 refine Jl.pv (PR.eql true rfl rfl (by decide +kernel)) ?_
 refine Jl.pv (PR.pickT rfl rfl)<|Jl.pv (PR.qa rfl)<|Jl.qn<|Jq.qt<|Jc.ret ?_
 exact Jq.fin () (.inl rfl) rfl (RetVs.tmp rfl RetVs.nil) rfl zT zF
end Go.Proofs.YtakbgccddokbbaaGreatDoor
namespace Go.Proofs.YtakbgccddokbbaaGreatDoor
open Go.RowKit
attribute [local irreducible] Res.blk Res.row Fact.rd
end Go.Proofs.YtakbgccddokbbaaGreatDoor
namespace Go.Proofs.YtakbgccddokbbaaGreatDoor
open Go.RowKit
attribute [local irreducible] Res.blk Res.row Fact.rd Fact.chg
theorem great_sm {d : Dk} {zs : Rcs} (h : lgGreat d zs = false) (hc : ∀ z ∈ zs, z.2.l.length ≤ z.1.2) : RcsSm zs := fun k hk => by
 have := (lgGreat_no h).2.2 _ (List.getElem_mem hk)
 exact ⟨by omega, hc _ (List.getElem_mem hk)⟩
end Go.Proofs.YtakbgccddokbbaaGreatDoor
namespace Go.Proofs.YtakbgccddokbbaaGreatDoor
open Go.RowKit
attribute [local irreducible] Res.blk Res.row Fact.rd Fact.chg
end Go.Proofs.YtakbgccddokbbaaGreatDoor
namespace Go.Proofs.YtakbgccddokbbaaGreatDoor
open Go.RowKit
theorem recB_ok {r : Rc} (h : r.ok = true) : (recB r).length ≤ 214 := by
 have h1 := Rc.ok_len h
 have h2 := putB_len (r.bytes.length : Int)
 have h3 : r.bytes.length ≤ 200 := by
  rw [Rc.bytes, if_pos h, rowsB, List.length_append]
  have h4 := putB_len (r.nums.length : Int)
  have h5 := flat_len r.nums
  have h6 : r.nums.length ≤ 19 := by simp [Rc.nums]; omega
  omega
 simp [recB, frameB, sumB]; omega
theorem recsB_ok : ∀ {l : List Rc}, (∀ r ∈ l, r.ok = true) → (recsB l).length ≤ 214 * l.length
  | [], _ => by simp [recsB]
  | r :: l, h => by
    have h1 := recsB_ok (l := l) fun x hx => h x (List.mem_cons_of_mem _ hx)
    have h2 := recB_ok (h r List.mem_cons_self)
    simp only [recsB, List.flatMap_cons, List.length_append, List.length_cons] at h1 ⊢
    omega
def cD (L : List Rc) : Dk := ⟨recsB L, ((recsB L).length : Nat), 16000⟩
theorem cD0 : Dk.new 16000 = cD [] := by simp [Dk.new, cD, recsB]; decide
theorem cD_ok {L : List Rc} (hL : L.length ≤ 30) (h : ∀ r ∈ L, r.ok = true) : (cD L).ok := by
 have h1 := recsB_ok h
 refine ⟨?_, ?_, ?_, ?_⟩ <;> simp only [cD] <;> omega
theorem cD_own {L : List Rc} (hL : L.length ≤ 30) (h : ∀ r ∈ L, r.ok = true) : (cD L).own = cD L := Dk.ok_own (cD_ok hL h)
theorem cD_add {L : List Rc} {zs : Rcs} (hL : (L ++ rcsN zs).length ≤ 30) (h : ∀ r ∈ L ++ rcsN zs, r.ok = true) : addE (cD L) zs = 0 ∧ addD (cD L) zs = ⟨recsB (L ++ rcsN zs), ((recsB L).length : Nat), 16000⟩ := by
 have h1 := recsB_ok h
 have hLl : L.length ≤ 30 := by rw [List.length_append] at hL; omega
 have ho := cD_own hLl fun r hr => h r (List.mem_append_left _ hr)
 have ha : okAll zs = true := okAll_rcs.2 fun r hr => h r (List.mem_append_right _ hr)
 have hf : (cD L).fits (recsB (rcsN zs)) := by
  unfold Dk.fits
  rw [ho]
  show ((recsB L ++ recsB (rcsN zs)).length : Int) ≤ 16000
  rw [← recsB_app]; omega
 rw [addE, addD, if_pos ha, if_pos ha, Dk.app, Dk.appE, if_pos hf, if_pos hf, ho]
 refine ⟨rfl, ?_⟩
 show (⟨recsB L ++ recsB (rcsN zs), _, _⟩ : Dk) = _
 rw [← recsB_app]; rfl
theorem cA_ok {L M : List Rc} (hL : (L ++ M).length ≤ 30) (h : ∀ r ∈ L ++ M, r.ok = true) : (⟨recsB (L ++ M), ((recsB L).length : Nat), 16000⟩ : Dk).ok := by
 have h1 := recsB_ok h
 have h2 : (recsB (L ++ M)).length = (recsB L).length + (recsB M).length := by rw [recsB_app, List.length_append]
 refine ⟨?_, ?_, ?_, ?_⟩ <;> simp only <;> omega
theorem cD_step {L : List Rc} {zs : Rcs} (hL : (L ++ rcsN zs).length ≤ 30) (h : ∀ r ∈ L ++ rcsN zs, r.ok = true) : stepD (cD L) zs = cD (L ++ rcsN zs) ∧ stepB (cD L) (bz0.all L) zs = bz0.all (L ++ rcsN zs) := by
 obtain ⟨h1, h2⟩ := cD_add hL h
 rw [stepD, stepB, if_pos h1, if_pos h1, h2, Dk.sync, Dk.ok_own (cA_ok hL h)]
 exact ⟨rfl, by simp [Br.all]⟩
theorem cD_of {L : List Rc} (hL : L.length ≤ 30) (h : ∀ r ∈ L, r.ok = true) : ofB (cD L) = bz0.all L ∧ safeB (cD L) = bz0.all L := by
 rw [ofB, safeB, cD_own hL h]
 refine ⟨by show bz0.all (logN (recsB L)) = _; rw [log_put0 h], ?_⟩
 show bz0.all (logN ((recsB L).take (((recsB L).length : Nat) : Int).toNat)) = _
 rw [List.take_of_length_le (by omega), log_put0 h]
theorem torn_facts {L : List Rc} {zs : Rcs} (keep : Int) (hL : (L ++ rcsN zs).length ≤ 30) (h : ∀ r ∈ L ++ rcsN zs, r.ok = true) :
 ∃ n, n ≤ zs.length ∧ ofB (tornD (cD L) keep zs) = (bz0.all L).all ((rcsN zs).take n) ∧ (keep ≤ 0 → n = 0) ∧ (65536 ≤ keep → n = zs.length) ∧ (tornD (cD L) keep zs).b.length ≤ 65536 := by
 obtain ⟨h1, h2⟩ := cD_add hL h
 have hlb := recsB_ok h
 have hok := cA_ok hL h
 have ho := Dk.ok_own hok
 obtain ⟨D, hD⟩ : ∃ D : Dk, D = ⟨recsB (L ++ rcsN zs), ((recsB L).length : Nat), 16000⟩ := ⟨_, rfl⟩
 have hlen : (recsB (L ++ rcsN zs)).length = (recsB L).length + (recsB (rcsN zs)).length := by rw [recsB_app, List.length_append]
 rw [← hD] at h2 ho hok
 have hco := Dk.ok_own (D.crash_ok keep)
 have hb : (D.crash keep).own.b = (recsB (L ++ rcsN zs)).take (D.left keep) := by
  rw [hco]
  show D.own.b.take _ = _
  rw [ho, hD]
 have hle := D.left_eq keep
 rw [ho] at hle
 have hle2 : (D.left keep : Int) = ((recsB L).length : Nat) + min (max keep 0) (((recsB (L ++ rcsN zs)).length : Nat) - ((recsB L).length : Nat)) := by
  rw [show D.s = ((recsB L).length : Nat) by rw [hD], show D.b = recsB (L ++ rcsN zs) by rw [hD]] at hle
  exact hle
 have hokL : ∀ r ∈ L, r.ok = true := fun r hr => h r (List.mem_append_left _ hr)
 have hokM : ∀ r ∈ rcsN zs, r.ok = true := fun r hr => h r (List.mem_append_right _ hr)
 have ht : tornD (cD L) keep zs = D.crash keep := by rw [tornD, if_pos h1, h2]
 obtain ⟨q, hq⟩ : ∃ q, q = (recsB (rcsN zs)).take (D.left keep - (recsB L).length) := ⟨_, rfl⟩
 have hlog : logN (D.crash keep).own.b = L ++ logN q := by
  rw [hb, recsB_app, List.take_append, List.take_of_length_le (by omega), log_put hokL, hq]
 obtain ⟨m, hm⟩ := log_pre (recsB (rcsN zs)) (D.left keep - (recsB L).length)
 rw [log_put0 hokM, ← hq] at hm
 have hmn : (rcsN zs).length = zs.length := rcsN_len zs
 refine ⟨(logN q).length, by rw [← hmn, hm, List.length_append]; omega, ?_, fun hk => ?_, fun hk => ?_, ?_⟩
 · rw [ht, ofB, hlog, hm, List.take_left' rfl]
   simp [Br.all]
 · rw [hq, show D.left keep - (recsB L).length = 0 by omega, List.take_zero]
   rfl
 · rw [hq, List.take_of_length_le (by omega), log_put0 hokM, hmn]
 · rw [ht, D.crash_len]
   omega
end Go.Proofs.YtakbgccddokbbaaGreatDoor
namespace Go.Proofs.YtakbgccddokbbaaGreatDoor
open Go.RowKit
attribute [local irreducible] Res.blk Res.row Fact.rd Fact.chg
theorem rcsV_app (a b : Rcs) : rcsV (a ++ b) = rcsV a ++ rcsV b := List.flatMap_append
theorem rcsV_take (l : Rcs) (k : Nat) (hk : k ≤ l.length) : (rcsV l).take (k * 2) = rcsV (l.take k) := by
 conv => lhs; rw [← List.take_append_drop k l, rcsV_app]
 have h := rcsV_len (l.take k)
 rw [List.length_take, Nat.min_eq_left hk] at h
 rw [List.take_append_of_le_length (by omega), List.take_of_length_le (by omega)]
theorem rcsV_drop (l : Rcs) (k : Nat) (hk : k ≤ l.length) : (rcsV l).drop (k * 2) = rcsV (l.drop k) := by
 conv => lhs; rw [← List.take_append_drop k l, rcsV_app]
 have h := rcsV_len (l.take k)
 rw [List.length_take, Nat.min_eq_left hk] at h
 rw [List.drop_append, List.drop_of_length_le (by omega), h, Nat.sub_self, List.drop_zero]; rfl
theorem rcsV_part (l : Rcs) (k n : Nat) (h : k + n ≤ l.length) : ((rcsV l).drop (k * 2)).take (n * 2) = rcsV ((l.drop k).take n) := by
 rw [rcsV_drop l k (by omega), rcsV_take _ n (by rw [List.length_drop]; omega)]
theorem rcsN_take (l : Rcs) (k : Nat) : rcsN (l.take k) = (rcsN l).take k := List.map_take
theorem rcsN_part (l : Rcs) (k n : Nat) : (rcsN l).take (k + n) = (rcsN l).take k ++ rcsN ((l.drop k).take n) := by
 rw [rcsN, rcsN, List.map_take, List.map_drop, List.take_add]
theorem rcsN_all (l : Rcs) : (rcsN l).take l.length = rcsN l := List.take_of_length_le (by rw [rcsN_len]; exact Nat.le_refl _)
theorem small_part {l : Rcs} (h : RcsSm l) {k n : Nat} : RcsSm ((l.drop k).take n) := fun j hj => by
 rw [List.length_take, List.length_drop] at hj
 have := h (k + j) (by omega)
 simpa using this
theorem small_take {l : Rcs} (h : RcsSm l) {k : Nat} : RcsSm (l.take k) := fun j hj => by
 rw [List.length_take] at hj
 have := h j (by omega)
 simpa using this
theorem ok_small {L : List Rc} (h : ∀ r ∈ L, r.ok = true) : ∀ r ∈ L, r.l.length ≤ 1000 := fun r hr => by have := (Rc.ok_len (h r hr)).2.2; omega
theorem allL_in {L : List Rc} (h : ∀ r ∈ L, r.ok = true) : (bz0.all L).In L.length := by
 have := all_in bz0_in (ok_small h)
 rwa [Nat.zero_add] at this
theorem rnew16_ct : Ct Tryz.prog 10 [.int .i64 16000] [] [] (cD []).v (fun x => [(cD []).row x]) (fun _ => []) := by
 rw [← cD0]; exact rnew_ct 16000
theorem cD_le {L : List Rc} (hL : L.length ≤ 30) (h : ∀ r ∈ L, r.ok = true) : (cD L).b.length ≤ 6420 := by
 have := recsB_ok h
 show (recsB L).length ≤ _; omega
theorem cstep_ct (L L' : List Rc) (x : AdC) (z : BrA) (A : Option Addr) (c n : Nat) (zs : Rcs) (mm : Nat → AdC) (hn : zs.length = n) (hL' : L' = L ++ rcsN zs) (hL : L'.length ≤ 30) (h : ∀ r ∈ L', r.ok = true) (hz : RcsSm zs) (hc : (cD L).b.length ≤ x.2) :
 Ct Tryz.prog 11 [(cD L).v x, (bz0.all L).v z, .slice A n c] [] (.rd x.1 (u8s (cD L).b) :: ((bz0.all L).rd z ++ [.rd A (rcsV zs), .rcs zs, .many mm, .lim, .chg])) (fun y : AdC × BrA => .tuple #[(cD L').v y.1, (bz0.all L').v y.2, .int .i64 0]) (fun y => (cD L').row y.1 :: (bz0.all L').rows y.2) (fun _ => []) := by
 subst hn hL'
 have hLl : L.length + zs.length ≤ 30 := by rw [List.length_append, rcsN_len] at hL; exact hL
 have hokL : ∀ r ∈ L, r.ok = true := fun r hr => h r (List.mem_append_left _ hr)
 have h1 := cD_le (L := L) (by omega) hokL
 have h0 := step_ct (cD L) x (bz0.all L) L.length z A c zs mm (by omega) hc (by omega) hz (allL_in hokL) (by omega)
 rw [(cD_step hL h).1, (cD_step hL h).2, (cD_add hL h).1] at h0
 exact h0
theorem rall13_at (b : Br) (n k : Nat) (z : BrA) (L : Option Addr) (cL : Nat) (zs : Rcs) (hk : zs.length = k) (h : b.In n) (hn : n + zs.length ≤ 900000) (hz : RcsSm zs) :
 Ct Tryz.prog 15 [b.v z, .slice L k cL] [] (b.rd z ++ [.rd L (rcsV zs), .rcs zs]) (fun x : BrA => (b.all (rcsN zs)).v x) (fun x => (b.all (rcsN zs)).rws x) (fun _ => []) := by
 subst hk
 have h0 := rall13_ct b n z L cL zs h hn hz
 rw [allK_all] at h0
 exact h0
structure CrI (l : Rcs) where
 k : Nat
 i : Nat
 x : AdC
 z : BrA
 hk : k ≤ l.length
 hi : i ≤ k
 hx : (cD ((rcsN l).take k)).b.length ≤ x.2
theorem replayCrashLaw_ct (l m : Rcs) (x v y : AdC) (cuts : List Int) (keep : Int) (mm : Nat → AdC) (hcl : l.length ≤ x.2) (hcm : m.length ≤ y.2) (hl : ∀ z ∈ l, z.2.l.length ≤ z.1.2) (hm : ∀ z ∈ m, z.2.l.length ≤ z.1.2) :
 Ct Tryz.prog 3 [.slice x.1 l.length x.2, .slice v.1 cuts.length v.2, .slice y.1 m.length y.2, .int .i64 keep] [] [.rd x.1 (rcsV l), .rcs l, .rd v.1 (i64s cuts), .rd y.1 (rcsV m), .rcs m, .many mm, .lim, .chg] (fun _ : Unit => .bool true) (fun _ => []) (fun _ => []) := by
 obtain ⟨L, cL⟩ := x
 obtain ⟨V, cV⟩ := v
 obtain ⟨Y, cY⟩ := y
 have hcl' : l.length ≤ cL := hcl
 have hcm' : m.length ≤ cY := hcm
 have hrl := rcsV_len l
 have hrm := rcsV_len m
 refine Ct.of _ Tryz.func3 Tryz.ntmps3 rfl rfl (fun X W => ?_)
 refine Jc.fact0 (.rd none []) (fun X W => Fact.rd_nil none X W) ?_
 refine Jc.qs<|Jc.qr<|Jl.pv (PR.qa rfl)<|Jl.qn<|Jq.qt<|Jc.qs<|Jc.qs<|Jc.qr ?_
 refine Jl.pv (PR.build (by rfl) tze27 tpl27_ (by rfl)) ?_
 refine Jl.pv (PR.qm rfl) ?_
 refine Jl.call (lgreat_ct ⟨[], 0, 0⟩ (none, 0) L cL l) en7 (by rfl) zT zF ?_
 rintro ⟨⟩
 refine Jl.pv (PR.qm rfl) ?_
 refine Jl.bsplit (fun g26 => ?_) (fun g26 => ?_)
 · try replace g26 := zV g26
   refine Jl.qo rfl rfl rfl<|Jl.qo rfl rfl rfl<|Jl.qo rfl rfl rfl<|Jl.pv (PR.pickT rfl rfl)<|Jl.pv (PR.qm rfl)<|Jl.qo rfl rfl rfl<|Jl.qo rfl rfl rfl<|Jl.qo rfl rfl rfl<|Jl.pv (PR.pickT rfl rfl)<|Jl.pv (PR.qm rfl)<|Jl.qo rfl rfl rfl<|Jl.qo rfl rfl rfl<|Jl.qo rfl rfl rfl<|Jl.pv (PR.pickT rfl rfl)<|Jl.pv (PR.qm rfl)<|Jl.qo rfl rfl rfl<|Jl.qo rfl rfl rfl<|Jl.qo rfl rfl rfl<|Jl.pv (PR.pickT rfl rfl)<|Jl.pv (PR.qm rfl)<|Jl.qo rfl rfl rfl<|Jl.qo rfl rfl rfl<|Jl.qo rfl rfl rfl<|Jl.pv (PR.pickT rfl rfl)<|Jl.qn<|Jq.qt<|Jc.condT rfl<|Jc.qs<|Jc.qr ?_
   refine Jl.call (rwakes_ct mm) en9 (by rfl) zT zF ?_
   rintro ⟨⟩
   refine Jl.pv (PR.qa rfl)<|Jl.qn<|Jq.qt<|Jc.ret<|Jq.thenR ?_
   exact Jq.fin () (.inl rfl) rfl (RetVs.tmp rfl RetVs.nil) rfl zT zF
 try replace g26 := zW g26
 refine Jl.on rfl rfl ?_
 refine Jl.pv (PR.build (by rfl) tze27 tpl27_ (by rfl)) ?_
 refine Jl.on rfl rfl<|Jl.pv (PR.qm rfl)<|Jl.on rfl rfl ?_
 refine Jl.call (lgreat_ct ⟨[], 0, 0⟩ (none, 0) Y cY m) en7 (by rfl) zT zF ?_
 rintro ⟨⟩
 refine Jl.pv (PR.pickF rfl rfl)<|Jl.pv (PR.qm rfl) ?_
 refine Jl.bsplit (fun g31 => ?_) (fun g31 => ?_)
 · try replace g31 := zV g31
   refine Jl.qo rfl rfl rfl<|Jl.qo rfl rfl rfl<|Jl.qo rfl rfl rfl<|Jl.pv (PR.pickT rfl rfl)<|Jl.pv (PR.qm rfl)<|Jl.qo rfl rfl rfl<|Jl.qo rfl rfl rfl<|Jl.qo rfl rfl rfl<|Jl.pv (PR.pickT rfl rfl)<|Jl.pv (PR.qm rfl)<|Jl.qo rfl rfl rfl<|Jl.qo rfl rfl rfl<|Jl.qo rfl rfl rfl<|Jl.pv (PR.pickT rfl rfl)<|Jl.pv (PR.qm rfl)<|Jl.qo rfl rfl rfl<|Jl.qo rfl rfl rfl<|Jl.qo rfl rfl rfl<|Jl.pv (PR.pickT rfl rfl)<|Jl.qn<|Jq.qt<|Jc.condT rfl<|Jc.qs<|Jc.qr ?_
   refine Jl.call (rwakes_ct mm) en9 (by rfl) zT zF ?_
   rintro ⟨⟩
   refine Jl.pv (PR.qa rfl)<|Jl.qn<|Jq.qt<|Jc.ret<|Jq.thenR ?_
   exact Jq.fin () (.inl rfl) rfl (RetVs.tmp rfl RetVs.nil) rfl zT zF
 try replace g31 := zW g31
 refine Jl.on rfl rfl<|Jl.pv (PR.qm rfl)<|Jl.on rfl rfl ?_
 refine Jl.pv (PR.len rfl tsl22) ?_
 refine Jl.on rfl rfl ?_
 refine Jl.pv (PR.gtr _ rfl rfl rfl) ?_
 refine Jl.pv (PR.pickF rfl rfl)<|Jl.pv (PR.qm rfl) ?_
 refine Jl.bsplit (fun g36 => ?_) (fun g36 => ?_)
 · try replace g36 := zV g36
   refine Jl.qo rfl rfl rfl<|Jl.qo rfl rfl rfl<|Jl.qo rfl rfl rfl<|Jl.pv (PR.pickT rfl rfl)<|Jl.pv (PR.qm rfl)<|Jl.qo rfl rfl rfl<|Jl.qo rfl rfl rfl<|Jl.qo rfl rfl rfl<|Jl.pv (PR.pickT rfl rfl)<|Jl.pv (PR.qm rfl)<|Jl.qo rfl rfl rfl<|Jl.qo rfl rfl rfl<|Jl.qo rfl rfl rfl<|Jl.pv (PR.pickT rfl rfl)<|Jl.qn<|Jq.qt<|Jc.condT rfl<|Jc.qs<|Jc.qr ?_
   refine Jl.call (rwakes_ct mm) en9 (by rfl) zT zF ?_
   rintro ⟨⟩
   refine Jl.pv (PR.qa rfl)<|Jl.qn<|Jq.qt<|Jc.ret<|Jq.thenR ?_
   exact Jq.fin () (.inl rfl) rfl (RetVs.tmp rfl RetVs.nil) rfl zT zF
 try replace g36 := zW g36
 refine Jl.on rfl rfl<|Jl.pv (PR.qm rfl)<|Jl.on rfl rfl ?_
 refine Jl.pv (PR.len rfl tsl22) ?_
 refine Jl.on rfl rfl ?_
 refine Jl.pv (PR.gtr _ rfl rfl rfl) ?_
 refine Jl.pv (PR.pickF rfl rfl)<|Jl.pv (PR.qm rfl) ?_
 refine Jl.bsplit (fun g41 => ?_) (fun g41 => ?_)
 · try replace g41 := zV g41
   refine Jl.qo rfl rfl rfl<|Jl.qo rfl rfl rfl<|Jl.qo rfl rfl rfl<|Jl.pv (PR.pickT rfl rfl)<|Jl.pv (PR.qm rfl)<|Jl.qo rfl rfl rfl<|Jl.qo rfl rfl rfl<|Jl.qo rfl rfl rfl<|Jl.pv (PR.pickT rfl rfl)<|Jl.qn<|Jq.qt<|Jc.condT rfl<|Jc.qs<|Jc.qr ?_
   refine Jl.call (rwakes_ct mm) en9 (by rfl) zT zF ?_
   rintro ⟨⟩
   refine Jl.pv (PR.qa rfl)<|Jl.qn<|Jq.qt<|Jc.ret<|Jq.thenR ?_
   exact Jq.fin () (.inl rfl) rfl (RetVs.tmp rfl RetVs.nil) rfl zT zF
 try replace g41 := zW g41
 refine Jl.on rfl rfl<|Jl.pv (PR.qm rfl)<|Jl.on rfl rfl ?_
 refine Jl.call (rallR_ct L cL l (by have := (lgGreat_no g26).2.1; omega) (fun z hz => by have := (lgGreat_no g26).2.2 z hz; omega)) en8 (by rfl) zT zF ?_
 rintro ⟨⟩
 refine Jl.on rfl rfl ?_
 refine Jl.pv (PR.not rfl) ?_
 refine Jl.pv (PR.pickF rfl rfl)<|Jl.pv (PR.qm rfl) ?_
 refine Jl.bsplit (fun g46 => ?_) (fun g46 => ?_)
 · try replace g46 := zV g46
   refine Jl.qo rfl rfl rfl<|Jl.qo rfl rfl rfl<|Jl.qo rfl rfl rfl<|Jl.pv (PR.pickT rfl rfl)<|Jl.qn<|Jq.qt<|Jc.condT rfl<|Jc.qs<|Jc.qr ?_
   refine Jl.call (rwakes_ct mm) en9 (by rfl) zT zF ?_
   rintro ⟨⟩
   refine Jl.pv (PR.qa rfl)<|Jl.qn<|Jq.qt<|Jc.ret<|Jq.thenR ?_
   exact Jq.fin () (.inl rfl) rfl (RetVs.tmp rfl RetVs.nil) rfl zT zF
 try replace g46 := zW g46
 refine Jl.on rfl rfl<|Jl.pv (PR.qm rfl)<|Jl.on rfl rfl ?_
 refine Jl.call (rallR_ct Y cY m (by have := (lgGreat_no g31).2.1; omega) (fun z hz => by have := (lgGreat_no g31).2.2 z hz; omega)) en8 (by rfl) zT zF ?_
 rintro ⟨⟩
 refine Jl.on rfl rfl ?_
 refine Jl.pv (PR.not rfl) ?_
 refine Jl.pv (PR.pickF rfl rfl)<|Jl.qn<|Jq.qt ?_
 refine Jc.cond rfl (fun h0 => ?_) (fun h0 => ?_)
 · try replace h0 := zV h0
   refine Jc.qs<|Jc.qr ?_
   refine Jl.call (rwakes_ct mm) en9 (by rfl) zT zF ?_
   rintro ⟨⟩
   refine Jl.pv (PR.qa rfl)<|Jl.qn<|Jq.qt<|Jc.ret<|Jq.thenR ?_
   exact Jq.fin () (.inl rfl) rfl (RetVs.tmp rfl RetVs.nil) rfl zT zF
 try replace h0 := zW h0
 have hz1 : RcsSm l := great_sm g26 hl
 have hz2 : RcsSm m := great_sm g31 hm
 have hl20 : l.length ≤ 20 := by omega
 have hm10 : m.length ≤ 10 := by omega
 have hok1 : ∀ r ∈ rcsN l, r.ok = true := okAll_rcs.1 (by simpa using g46)
 have hok2 : ∀ r ∈ rcsN m, r.ok = true := okAll_rcs.1 (by simpa using h0)
 refine Jc.skip<|Jq.qt<|Jc.qs<|Jc.qr ?_
 refine Jl.call rnew16_ct en10 (by rfl) zT zF ?_
 rintro ⟨A52, c52⟩
 refine Jl.sealC (A := A52) (m := (cD []).b.length) (cap := c52) (xs := u8s (cD []).b) zD (fun hc52 => ?_)
 refine Jl.pv (PR.build (by rfl) tze38 tpl38_ (by rfl)) ?_
 refine Jl.alloc tze27 ?_
 intro b9
 refine Jl.alloc tze38 ?_
 intro b10
 refine Jl.storeW rfl tsh27 rfl (by rfl) (by first | exact Br.cs_one _ _ | simp [Value.oneCell', Dk.cs, Rc.cs]) zS (by rfl) ?_
 refine Jl.storeW rfl tsh38 rfl (by rfl) (by first | exact Br.cs_one _ _ | simp [Value.oneCell', Dk.cs, Rc.cs]) zS (by rfl) ?_
 refine Jl.qn<|Jq.qt<|Jc.qs<|Jc.qr<|Jl.pv (PR.qa rfl)<|Jl.qn<|Jq.qt<|Jc.qs<|Jc.qs<|Jc.qr<|Jl.pv (PR.qa rfl)<|Jl.qn<|Jq.qt ?_
 refine Jc.block ?_
 refine Jc.loop (σ := CrI l) (fun s => [(11, .int .i64 (s.k : Int)), (12, .int .i64 (s.i : Int)), (0, .slice L l.length cL), (1, .slice V cuts.length cV), (2, .slice Y m.length cY), (3, .int .i64 keep), (9, ptr b9), (10, ptr b10)]) (fun s => [.blk b10 38 ((bz0.all ((rcsN l).take s.k)).cs s.z), .blk b9 27 ((cD ((rcsN l).take s.k)).cs s.x)]) (fun s => .rd s.x.1 (u8s (cD ((rcsN l).take s.k)).b) :: ((bz0.all ((rcsN l).take s.k)).rd s.z ++ [.rd none [], .rd L (rcsV l), .rcs l, .rd V (i64s cuts), .rd Y (rcsV m), .rcs m, .many mm, .lim, .chg])) (fun s => l.length - s.k) ⟨0, 0, (A52, c52), nilZ, Nat.zero_le _, Nat.le_refl _, by simpa using hc52⟩ (by repeat (first | exact trivial | refine And.intro rfl ?_)) rfl zF ?_
 rintro ⟨k, i, x, z, hk, hi, hx⟩
 show Jc _ _ _ _ _ _ [(11, Value.int .i64 (k : Int)), (12, .int .i64 (i : Int)), (0, .slice L l.length cL), (1, .slice V cuts.length cV), (2, .slice Y m.length cY), (3, .int .i64 keep), (9, ptr b9), (10, ptr b10)] [.blk b10 38 ((bz0.all ((rcsN l).take k)).cs z), .blk b9 27 ((cD ((rcsN l).take k)).cs x)] (.rd x.1 (u8s (cD ((rcsN l).take k)).b) :: ((bz0.all ((rcsN l).take k)).rd z ++ [.rd none [], .rd L (rcsV l), .rcs l, .rd V (i64s cuts), .rd Y (rcsV m), .rcs m, .many mm, .lim, .chg]))
 have hokk : ∀ r ∈ (rcsN l).take k, r.ok = true := fun r hr => hok1 r (List.mem_of_mem_take hr)
 have hlk : ((rcsN l).take k).length = k := by rw [List.length_take, rcsN_len]; omega
 have hin := allL_in hokk
 refine Jc.qs<|Jc.qs<|Jc.qr<|Jl.pv (PR.qm rfl)<|Jl.pv (PR.qm rfl) ?_
 refine Jl.pv (PR.len rfl tsl22) ?_
 refine Jl.pv (PR.lss _ rfl rfl rfl) ?_
 refine Jl.qn<|Jq.qt ?_
 refine Jc.cond rfl (fun h1 => ?_) (fun h1 => ?_)
 · try replace h1 := zV h1
   have hlt : k < l.length := by omega
   refine Jc.skip<|Jq.qt<|Jc.qs ?_
   refine Jc.block ?_
   refine Jc.qs<|Jc.qr<|Jl.pv (PR.qm rfl) ?_
   refine Jl.pv (PR.len rfl tsl22) ?_
   refine Jl.pv (PR.qm rfl) ?_
   refine Jl.pv (PR.sub ((l.length - k : Nat) : Int) rfl rfl (by rw [w64 (by omega) (by omega)]; omega)) ?_
   refine Jl.pv (PR.qa rfl)<|Jl.qn<|Jq.qt ?_
   refine Jc.mid (σ := { n : Nat // 1 ≤ n ∧ n ≤ l.length - k }) (fun n => (13, .int .i64 (n.1 : Int)) :: [(11, .int .i64 (k : Int)), (12, .int .i64 (i : Int)), (0, .slice L l.length cL), (1, .slice V cuts.length cV), (2, .slice Y m.length cY), (3, .int .i64 keep), (9, ptr b9), (10, ptr b10)]) (fun _ => [.blk b10 38 ((bz0.all ((rcsN l).take k)).cs z), .blk b9 27 ((cD ((rcsN l).take k)).cs x)]) (fun _ => .rd x.1 (u8s (cD ((rcsN l).take k)).b) :: ((bz0.all ((rcsN l).take k)).rd z ++ [.rd none [], .rd L (rcsV l), .rcs l, .rd V (i64s cuts), .rd Y (rcsV m), .rcs m, .many mm, .lim, .chg])) ?_ ?_
   · refine Jc.qs<|Jc.qr<|Jl.pv (PR.qm rfl)<|Jl.pv (PR.qm rfl) ?_
     refine Jl.pv (PR.len rfl tsl23) ?_
     refine Jl.pv (PR.lss _ rfl rfl rfl) ?_
     refine Jl.qn<|Jq.qt ?_
     refine Jc.cond rfl (fun h2 => ?_) (fun h2 => ?_)
     · try replace h2 := zV h2
       have hlt2 : i < cuts.length := by omega
       refine Jc.qr<|Jl.pv (PR.qm rfl)<|Jl.pv (PR.qm rfl) ?_
       refine Jl.pv (PR.idx1 i rfl rfl tsl23 zM (by simp) rfl hlt2) ?_
       refine Jl.pv (PR.loadR rfl tsh3 zM (getm hlt2)) ?_
       refine Jl.pv (PR.max2 (max cuts[i] 1) rfl rfl rfl) ?_
       refine Jl.pv (PR.qm rfl) ?_
       refine Jl.pv (PR.min2 (min (max cuts[i] 1) ((l.length - k : Nat) : Int)) rfl rfl rfl) ?_
       refine Jl.pv (PR.qa rfl)<|Jl.qn ?_
       exact Jq.midT ⟨(min (max cuts[i] 1) ((l.length - k : Nat) : Int)).toNat, by omega, by omega⟩ (by exact ⟨congrArg (fun v => some (Value.int .i64 v)) (by simp only; omega), rfl, rfl, rfl, rfl, rfl, rfl, rfl, rfl, trivial⟩) zT zF
     try replace h2 := zW h2
     refine Jc.skip ?_
     exact Jq.midT ⟨l.length - k, by omega, Nat.le_refl _⟩ (by exact ⟨rfl, rfl, rfl, rfl, rfl, rfl, rfl, rfl, rfl, trivial⟩) zT zF
   rintro ⟨n, hn1, hn2⟩
   have hzl : ((l.drop k).take n).length = n := by rw [List.length_take, List.length_drop]; omega
   refine Jc.fact (.rcs ((l.drop k).take n)) (φ := .rcs l) zM (fun X W h z hz => h z (List.mem_of_mem_drop (List.mem_of_mem_take hz))) ?_
   refine Jc.qs ?_
   refine Jc.drawn [0, 0, 0, 0, 0, 0, 48, 124, 255, 511, 1023, 1023, 1023, 0, 0, 26623, 61439, 131071] ([(17, false)], []) [⟨[(0, false), (1, false), (2, false), (3, false), (4, false), (5, false), (6, false), (7, false), (13, true), (14, true)], [], 8⟩, ⟨[(9, false), (10, false), (11, false), (12, false)], [13, 14], 15⟩, ⟨[], [], 16⟩] tmx (by kernel_rfl) ?_
   refine Dh.JH.cons ?_
   refine Dh.JB.rd [.blk _ _ _] rfl trivial zT (fun _ => PR.loadW rfl tsh27 Has.here (by rfl)) ?_
   refine Dh.JB.rd [.blk _ _ _] rfl trivial zT (fun _ => PR.loadW rfl tsh38 Has.here (by rfl)) ?_
   refine Dh.JB.pv rfl trivial (fun _ => PR.qm rfl)<|Dh.JB.pv rfl trivial (fun _ => PR.qm rfl)<|Dh.JB.pv rfl trivial (fun _ => PR.qm rfl)<|Dh.JB.pv rfl trivial (fun _ => PR.qm rfl) ?_
   refine Dh.JB.pv rfl trivial (fun _ => PR.add ((k + n : Nat) : Int) rfl rfl (w64 (a := ((k + n : Nat) : Int)) (by omega) (by omega))) ?_
   refine Dh.JB.slice k (k + n) n (rcsV ((l.drop k).take n)) rfl trivial rfl tsl22 rfl rfl zM (by omega) (by omega) hcl' (by omega) (rcsV_part l k n (by omega)) ?_
   intro A83 c83 hc83
   clear hc83
   refine Dh.JB.alloc rfl trivial tze27 ?_
   refine Dh.JB.alloc rfl trivial tze38 ?_
   refine Dh.JB.nil<|Dh.JL.nil ?_
   refine Dh.JE.mk rfl (fun _ h => by cases h) (fun C11_8 => ?_)
   refine Jl.call (cstep_ct ((rcsN l).take k) ((rcsN l).take (k + n)) x z A83 c83 n ((l.drop k).take n) mm hzl (rcsN_part l k n) (by rw [List.length_take, rcsN_len]; omega) (fun r hr => hok1 r (List.mem_of_mem_take hr)) (small_part hz1) hx) en11 (by rfl) zT zF ?_
   rintro ⟨x2, z2⟩
   refine Jl.sealC (A := x2.1) (m := (cD ((rcsN l).take (k + n))).b.length) (cap := x2.2) (xs := u8s (cD ((rcsN l).take (k + n))).b) zD (fun hx2 => ?_)
   refine Jl.sealR (A := z2.1.1) (m := (bz0.all ((rcsN l).take (k + n))).cf.ms.length) (cap := z2.1.2) (xs := i64s (bz0.all ((rcsN l).take (k + n))).cf.ms) zD ?_
   refine Jl.sealR (A := z2.2.1.1) (m := (bz0.all ((rcsN l).take (k + n))).its.length) (cap := z2.2.1.2) (xs := itsV (bz0.all ((rcsN l).take (k + n))).its) zD ?_
   refine Jl.sealR (A := z2.2.2.1) (m := (bz0.all ((rcsN l).take (k + n))).kps.length) (cap := z2.2.2.2) (xs := kpsV (bz0.all ((rcsN l).take (k + n))).kps) zD ?_
   refine Jl.qn ?_
   refine Dh.Jq.segV zX ?_ zK
   refine Dh.JH.cons<|Dh.JB.pv rfl trivial (fun _ => PR.qm rfl) ?_
   refine Dh.JB.pv rfl trivial (fun _ => PR.extract rfl (by rfl)) ?_
   refine Dh.JB.pv rfl trivial (fun _ => PR.extract rfl (by rfl)) ?_
   refine Dh.JB.pv rfl trivial (fun _ => PR.extract rfl (by rfl)) ?_
   refine Dh.JB.nil ?_
   refine Dh.JL.ptr rfl (by repeat (first | exact Dh.es_here | apply Dh.es_there)) (fun b14 => ?_)
   refine Dh.JL.ptr rfl (by repeat (first | exact Dh.es_here | apply Dh.es_there)) (fun b15 => ?_)
   refine Dh.JL.nil ?_
   refine Dh.JE.mk rfl (fun _ h => by cases h) (fun C11_15 => ?_)
   refine Jl.storeW rfl tsh27 rfl (by rfl) (by first | exact Br.cs_one _ _ | simp [Value.oneCell', Dk.cs, Rc.cs]) zS (by rfl) ?_
   refine Jl.qn ?_
   refine Dh.Jq.segN zX ?_ zK
   refine Dh.JH.cons<|Dh.JB.nil<|Dh.JL.nil ?_
   refine Dh.JE.mk rfl (fun _ h => by cases h) (fun C11_16 => ?_)
   refine Jl.storeW rfl tsh38 rfl (by rfl) (by first | exact Br.cs_one _ _ | simp [Value.oneCell', Dk.cs, Rc.cs]) zS (by rfl) ?_
   refine Jl.qn ?_
   refine Dh.Jq.segN zX ?_ zK
   refine Dh.JH.nil ?_
   refine Dh.JB.pv rfl trivial (fun _ => PR.qa rfl) ?_
   refine Dh.JB.nil<|Dh.JL.nil<|Jq.qt<|Jc.qs<|Jc.qs<|Jc.qr<|Jl.pv (PR.qm rfl) ?_
   refine Jl.pv (PR.neq false rfl rfl (by decide)) ?_
   refine Jl.qn<|Jq.qt<|Jc.condF rfl<|Jc.skip<|Jq.qt<|Jc.qs ?_
   refine Jc.drawn [0, 0, 1, 7] ([], []) [⟨[(0, false), (1, false)], [], 2⟩, ⟨[], [], 3⟩] tmx (by kernel_rfl) ?_
   refine Dh.JH.cons ?_
   refine Dh.JB.rd [.blk _ _ _] rfl trivial zT (fun _ => PR.loadW rfl tsh27 Has.here (by rfl)) ?_
   refine Dh.JB.rd [.blk _ _ _] rfl trivial zT (fun _ => PR.loadW rfl tsh38 Has.here (by rfl)) ?_
   refine Dh.JB.nil<|Dh.JL.nil ?_
   refine Dh.JE.mk rfl (fun _ h => by cases h) (fun C14_2 => ?_)
   refine Jl.storeW rfl tsh27 rfl (by rfl) (by first | exact Br.cs_one _ _ | simp [Value.oneCell', Dk.cs, Rc.cs]) zS (by rfl) ?_
   refine Jl.qn ?_
   refine Dh.Jq.segN zX ?_ zK
   refine Dh.JH.cons<|Dh.JB.nil<|Dh.JL.nil ?_
   refine Dh.JE.mk rfl (fun _ h => by cases h) (fun C14_3 => ?_)
   refine Jl.storeW rfl tsh38 rfl (by rfl) (by first | exact Br.cs_one _ _ | simp [Value.oneCell', Dk.cs, Rc.cs]) zS (by rfl) ?_
   refine Jl.qn ?_
   refine Dh.Jq.segN zX ?_ zK
   refine Dh.JH.nil ?_
   refine Dh.JB.nil<|Dh.JL.nil<|Jq.qt<|Jc.qr<|Jl.pv (PR.qm rfl)<|Jl.pv (PR.qm rfl) ?_
   refine Jl.pv (PR.add ((k + n : Nat) : Int) rfl rfl (w64 (a := ((k + n : Nat) : Int)) (by omega) (by omega))) ?_
   refine Jl.pv (PR.qa rfl)<|Jl.qn ?_
   refine Jq.blkN ?_
   refine Jq.qt<|Jc.qr<|Jl.pv (PR.qm rfl) ?_
   refine Jl.pv (PR.add ((i + 1 : Nat) : Int) rfl rfl (by rw [w64 (by omega) (by omega)]; rfl)) ?_
   refine Jl.pv (PR.qa rfl)<|Jl.qn ?_
   exact Jq.againT ⟨k + n, i + 1, x2, z2, by omega, by omega, hx2⟩ (by simp only; omega) (by repeat (first | exact trivial | refine And.intro rfl ?_)) zT zF
 try replace h1 := zW h1
 obtain rfl : k = l.length := by omega
 have hB1 := hin.its
 have hB2 := hin.kps
 have hB3 := hin.ms
 have hcl2 := cD_le (L := ((rcsN l).take l.length)) (by omega) hokk
 have hof := cD_of (L := ((rcsN l).take l.length)) (by omega) hokk
 have hLM : (((rcsN l).take l.length) ++ rcsN m).length ≤ 30 := by rw [List.length_append, hlk, rcsN_len]; omega
 have hokLM : ∀ r ∈ ((rcsN l).take l.length) ++ rcsN m, r.ok = true := fun r hr => (List.mem_append.1 hr).elim (hokk r) (hok2 r)
 obtain ⟨n, hn, hT, hk0, hk1, hTl⟩ := torn_facts keep hLM hokLM
 have hTo := ((tornD (cD ((rcsN l).take l.length)) keep m)).own_len
 have hTin := log_in ((tornD (cD ((rcsN l).take l.length)) keep m)).own.b
 have hT1 : (ofB (tornD (cD ((rcsN l).take l.length)) keep m)).its.length ≤ 1000000 := by have := hTin.its; show (bz0.all (logN ((tornD (cD ((rcsN l).take l.length)) keep m)).own.b)).its.length ≤ _; omega
 have hT2 : (ofB (tornD (cD ((rcsN l).take l.length)) keep m)).kps.length ≤ 1000000 := by have := hTin.kps; show (bz0.all (logN ((tornD (cD ((rcsN l).take l.length)) keep m)).own.b)).kps.length ≤ _; omega
 have hT3 : (ofB (tornD (cD ((rcsN l).take l.length)) keep m)).cf.ms.length ≤ 1000000 := by have := hTin.ms; show (bz0.all (logN ((tornD (cD ((rcsN l).take l.length)) keep m)).own.b)).cf.ms.length ≤ _; omega
 refine Jc.exit ?_
 refine Jq.thenX ?_
 refine Jq.thenX ?_
 refine Jq.blkX ?_
 refine Jq.qt<|Jc.qs<|Jc.qr ?_
 refine Jl.pv (PR.loadW rfl tsh27 zH (by rfl)) ?_
 refine Jl.call (of_ctR (cD ((rcsN l).take l.length)) x mm (by omega) hx) en12 (by rfl) zT zF ?_
 rintro ⟨⟨x97, h97⟩, z97⟩
 refine Jl.sealR (A := z97.1.1) (m := (ofB (cD ((rcsN l).take l.length))).cf.ms.length) (cap := z97.1.2) (xs := i64s (ofB (cD ((rcsN l).take l.length))).cf.ms) zD ?_
 refine Jl.sealR (A := z97.2.1.1) (m := (ofB (cD ((rcsN l).take l.length))).its.length) (cap := z97.2.1.2) (xs := itsV (ofB (cD ((rcsN l).take l.length))).its) zD ?_
 refine Jl.sealR (A := z97.2.2.1) (m := (ofB (cD ((rcsN l).take l.length))).kps.length) (cap := z97.2.2.2) (xs := kpsV (ofB (cD ((rcsN l).take l.length))).kps) zD ?_
 refine Jl.pv (PR.qm rfl) ?_
 refine Jl.pv (PR.extract rfl (by rfl)) ?_
 refine Jl.pv (PR.extract rfl (by rfl)) ?_
 refine Jl.alloc tze27 ?_
 intro b17
 refine Jl.alloc tze38 ?_
 intro b18
 refine Jl.storeW rfl tsh27 rfl (by rfl) (by first | exact Br.cs_one _ _ | simp [Value.oneCell', Dk.cs, Rc.cs]) zS (by rfl) ?_
 refine Jl.storeW rfl tsh38 rfl (by rfl) (by first | exact Br.cs_one _ _ | simp [Value.oneCell', Dk.cs, Rc.cs]) zS (by rfl) ?_
 refine Jl.qn<|Jq.qt<|Jc.qs<|Jc.qs ?_
 refine Jc.drawn [0, 0, 3, 7, 15, 31, 63, 31, 255, 511, 1023, 2047, 4095, 4095, 4095, 28671, 65535, 131071, 262143] ([(17, false), (18, false)], []) [⟨[(0, false), (1, false)], [], 2⟩, ⟨[(3, false), (4, false), (5, false), (7, false)], [], 6⟩, ⟨[], [], 8⟩, ⟨[(9, false), (10, false), (11, false), (12, false), (13, false), (14, false)], [], 15⟩, ⟨[], [], 16⟩] tmx (by kernel_rfl) ?_
 refine Dh.JH.cons ?_
 refine Dh.JB.rd [.blk _ _ _] rfl trivial zT (fun _ => PR.loadW rfl tsh38 Has.here (by rfl)) ?_
 refine Dh.JB.rd [.blk _ _ _] rfl trivial zT (fun _ => PR.loadW rfl tsh38 Has.here (by rfl)) ?_
 refine Dh.JB.nil<|Dh.JL.nil ?_
 refine Dh.JE.mk rfl (fun _ h => by cases h) (fun C17_2 => ?_)
 refine Jl.call (brsame_at (a := ofB (cD ((rcsN l).take l.length))) (b := (bz0.all ((rcsN l).take l.length))) (x := z97) (y := z) (by rw [hof.1]; omega) (by rw [hof.1]; omega) (by rw [hof.1]; omega) hof.1) en13 (by rfl) zT zF ?_
 rintro ⟨⟩
 refine Jl.as (.bool true) (congrArg Value.bool rfl) ?_
 refine Jl.qn ?_
 refine Dh.Jq.segV zX ?_ zK
 refine Dh.JH.cons ?_
 refine Dh.JB.pv rfl trivial (fun _ => PR.not rfl) ?_
 refine Dh.JB.pv rfl trivial (fun _ => PR.qm rfl) ?_
 refine Dh.JB.rd [.blk _ _ _] rfl ⟨_, rfl, rfl⟩ zT (fun _ => PR.loadW rfl tsh27 Has.here (by rfl)) ?_
 refine Dh.JB.rd [.blk _ _ _] rfl ⟨_, rfl, rfl⟩ zT (fun _ => PR.loadW rfl tsh38 Has.here (by rfl)) ?_
 refine Dh.JB.nil<|Dh.JL.nil ?_
 refine Dh.JE.mk rfl (fun _ h => by cases h) (fun C17_6 => ?_)
 refine Jl.on rfl rfl ?_
 refine Jl.call (safe_ctR (cD ((rcsN l).take l.length)) x mm (by omega) hx) en14 (by rfl) zT zF ?_
 rintro z106
 refine Jl.qn ?_
 refine Dh.Jq.segV zX ?_ zK
 refine Dh.JH.cons<|Dh.JB.nil<|Dh.JL.nil ?_
 refine Dh.JE.mk rfl (fun _ h => by cases h) (fun C17_8 => ?_)
 refine Jl.on rfl rfl ?_
 refine Jl.calll (fs := []) (cs := []) (brsame_at (a := safeB (cD ((rcsN l).take l.length))) (b := (bz0.all ((rcsN l).take l.length))) (x := z106) (y := z) (by rw [hof.2]; omega) (by rw [hof.2]; omega) (by rw [hof.2]; omega) hof.2) en13 rfl (by rfl) (by rfl) zT (ls := [(safeB (cD ((rcsN l).take l.length))).rM z106, (safeB (cD ((rcsN l).take l.length))).rI z106, (safeB (cD ((rcsN l).take l.length))).rK z106]) zT zL zF ?_
 rintro ⟨⟩
 refine Jl.as (.bool true) (congrArg Value.bool rfl) ?_
 refine Jl.qn ?_
 refine Dh.Jq.segV zX ?_ zK
 refine Dh.JH.cons ?_
 refine Dh.JB.pv rfl ⟨_, rfl, rfl⟩ (fun _ => PR.not rfl) ?_
 refine Dh.JB.pv rfl trivial (fun _ => PR.pickF rfl rfl) ?_
 refine Dh.JB.pv rfl trivial (fun _ => PR.qm rfl) ?_
 refine Dh.JB.rd [.blk _ _ _] rfl ⟨_, rfl, rfl⟩ zT (fun _ => PR.loadW rfl tsh38 Has.here (by rfl)) ?_
 refine Dh.JB.pv rfl ⟨_, rfl, rfl⟩ (fun _ => PR.build (by rfl) tze38 tpl38_ (by rfl)) ?_
 refine Dh.JB.pv rfl ⟨_, rfl, rfl⟩ (fun _ => PR.qm rfl) ?_
 refine Dh.JB.nil<|Dh.JL.nil ?_
 refine Dh.JE.mk rfl (fun _ h => by cases h) (fun C17_15 => ?_)
 refine Jl.on rfl rfl ?_
 refine Jl.call (rall13_at bz0 0 l.length nilZ L cL l rfl bz0_in (by omega) hz1) en15 (by rfl) zT zF ?_
 rintro z115
 refine Jl.qn ?_
 refine Dh.Jq.segV zX ?_ zK
 refine Dh.JH.cons<|Dh.JB.nil<|Dh.JL.nil ?_
 refine Dh.JE.mk rfl (fun _ h => by cases h) (fun C17_16 => ?_)
 refine Jl.on rfl rfl ?_
 refine Jl.calll (fs := []) (cs := []) (brsame_at (a := (bz0.all ((rcsN l).take l.length))) (b := bz0.all (rcsN l)) (x := z) (y := z115) (by omega) (by omega) (by omega) (by rw [List.take_of_length_le (by rw [rcsN_len]; exact Nat.le_refl _)])) en13 rfl (by rfl) (by rfl) zT (ls := [(bz0.all (rcsN l)).rM z115, (bz0.all (rcsN l)).rI z115, (bz0.all (rcsN l)).rK z115]) zT zL zF ?_
 rintro ⟨⟩
 refine Jl.as (.bool true) (congrArg Value.bool rfl) ?_
 refine Jl.qn ?_
 refine Dh.Jq.segV zX ?_ zK
 refine Dh.JH.nil ?_
 refine Dh.JB.pv rfl ⟨_, rfl, rfl⟩ (fun _ => PR.not rfl) ?_
 refine Dh.JB.pv rfl trivial (fun _ => PR.pickF rfl rfl) ?_
 refine Dh.JB.nil<|Dh.JL.nil<|Jq.qt<|Jc.condF rfl<|Jc.skip<|Jq.qt<|Jc.qs<|Jc.qr ?_
 refine Jl.pv (PR.loadW rfl tsh27 zH (by rfl)) ?_
 refine Jl.pv (PR.qm rfl)<|Jl.pv (PR.qm rfl) ?_
 refine Jl.call (torn_ct (cD ((rcsN l).take l.length)) x keep Y cY m mm (by omega) hx (by omega) hz2) en16 (by rfl) zT zF ?_
 rintro xt
 refine Jl.sealC (A := xt.1) (m := ((tornD (cD ((rcsN l).take l.length)) keep m)).b.length) (cap := xt.2) (xs := u8s ((tornD (cD ((rcsN l).take l.length)) keep m)).b) zD (fun hxt => ?_)
 refine Jl.call (of_ctR (tornD (cD ((rcsN l).take l.length)) keep m) xt mm (by omega) hxt) en12 (by rfl) zT zF ?_
 rintro ⟨⟨x124, h124⟩, zt⟩
 refine Jl.sealR (A := zt.1.1) (m := (ofB (tornD (cD ((rcsN l).take l.length)) keep m)).cf.ms.length) (cap := zt.1.2) (xs := i64s (ofB (tornD (cD ((rcsN l).take l.length)) keep m)).cf.ms) zD ?_
 refine Jl.sealR (A := zt.2.1.1) (m := (ofB (tornD (cD ((rcsN l).take l.length)) keep m)).its.length) (cap := zt.2.1.2) (xs := itsV (ofB (tornD (cD ((rcsN l).take l.length)) keep m)).its) zD ?_
 refine Jl.sealR (A := zt.2.2.1) (m := (ofB (tornD (cD ((rcsN l).take l.length)) keep m)).kps.length) (cap := zt.2.2.2) (xs := kpsV (ofB (tornD (cD ((rcsN l).take l.length)) keep m)).kps) zD ?_
 refine Jl.pv (PR.qm rfl) ?_
 refine Jl.pv (PR.extract rfl (by rfl)) ?_
 refine Jl.pv (PR.extract rfl (by rfl)) ?_
 refine Jl.alloc tze27 ?_
 intro b19
 refine Jl.alloc tze38 ?_
 intro b20
 refine Jl.storeW rfl tsh27 rfl (by rfl) (by first | exact Br.cs_one _ _ | simp [Value.oneCell', Dk.cs, Rc.cs]) zS (by rfl) ?_
 refine Jl.storeW rfl tsh38 rfl (by rfl) (by first | exact Br.cs_one _ _ | simp [Value.oneCell', Dk.cs, Rc.cs]) zS (by rfl) ?_
 refine Jl.qn<|Jq.qt<|Jc.qs<|Jc.qr<|Jl.pv (PR.qa rfl)<|Jl.qn<|Jq.qt<|Jc.qs<|Jc.qs<|Jc.qr<|Jl.pv (PR.qa rfl)<|Jl.qn<|Jq.qt ?_
 refine Jc.block ?_
 refine Jc.lessR (rs := [.blk b20 38 ((ofB (tornD (cD ((rcsN l).take l.length)) keep m)).cs zt), .blk b10 38 ((bz0.all ((rcsN l).take l.length)).cs z)]) zT ?_
 refine Jc.loop (σ := { s : Nat × Bool // s.1 ≤ m.length + 1 ∧ (n < s.1 → s.2 = true) }) (fun s => [(22, .int .i64 (s.1.1 : Int)), (21, .bool s.1.2), (2, .slice Y m.length cY), (3, .int .i64 keep), (20, ptr b20), (10, ptr b10)]) (fun _ => [.blk b20 38 ((ofB (tornD (cD ((rcsN l).take l.length)) keep m)).cs zt), .blk b10 38 ((bz0.all ((rcsN l).take l.length)).cs z)]) (fun _ => ((ofB (tornD (cD ((rcsN l).take l.length)) keep m)).rd zt ++ ((bz0.all ((rcsN l).take l.length)).rd z ++ [.rd Y (rcsV m), .rcs m, .many mm, .lim, .chg]))) (fun s => m.length + 1 - s.1.1) ⟨(0, false), Nat.zero_le _, fun h => absurd h (Nat.not_lt_zero _)⟩ (by repeat (first | exact trivial | refine And.intro rfl ?_)) rfl zF ?_
 rintro ⟨⟨k, b⟩, hk, hb⟩
 show Jc _ _ _ _ _ _ [(22, Value.int .i64 (k : Int)), (21, .bool b), (2, .slice Y m.length cY), (3, .int .i64 keep), (20, ptr b20), (10, ptr b10)] [.blk b20 38 ((ofB (tornD (cD ((rcsN l).take l.length)) keep m)).cs zt), .blk b10 38 ((bz0.all ((rcsN l).take l.length)).cs z)] (((ofB (tornD (cD ((rcsN l).take l.length)) keep m)).rd zt ++ ((bz0.all ((rcsN l).take l.length)).rd z ++ [.rd Y (rcsV m), .rcs m, .many mm, .lim, .chg])))
 replace hk : k ≤ m.length + 1 := hk
 replace hb : n < k → b = true := hb
 refine Jc.qs<|Jc.qs<|Jc.qr<|Jl.pv (PR.qm rfl)<|Jl.pv (PR.qm rfl) ?_
 refine Jl.pv (PR.len rfl tsl22) ?_
 refine Jl.pv (PR.leq _ rfl rfl rfl) ?_
 refine Jl.qn<|Jq.qt ?_
 refine Jc.cond rfl (fun h3 => ?_) (fun h3 => ?_)
 · try replace h3 := zV h3
   have hlt : k ≤ m.length := by omega
   have hkl : (m.take k).length = k := by rw [List.length_take]; omega
   refine Jc.fact (.rcs (m.take k)) (φ := .rcs m) zM (fun X W h z hz => h z (List.mem_of_mem_take hz)) ?_
   refine Jc.skip<|Jq.qt<|Jc.qs ?_
   refine Jc.block ?_
   refine Jc.drawn [0, 1, 3, 3, 3, 3, 51, 123, 255, 511, 1023] ([(9, false), (10, false)], []) [⟨[(0, false), (1, false), (2, false), (3, false), (4, false), (5, false), (6, false)], [], 7⟩, ⟨[], [], 8⟩] tmx (by kernel_rfl) ?_
   refine Dh.JH.cons<|Dh.JB.pv rfl trivial (fun _ => PR.qm rfl)<|Dh.JB.pv rfl trivial (fun _ => PR.qm rfl) ?_
   refine Dh.JB.bsplit (fun g134 => ?_) (fun g134 => ?_)
   · try replace g134 := zV g134
     refine Dh.JB.off rfl ⟨_, rfl, .inr rfl⟩<|Dh.JB.off rfl ⟨_, rfl, .inr rfl⟩<|Dh.JB.off rfl ⟨_, rfl, .inr rfl⟩<|Dh.JB.off rfl ⟨_, rfl, .inr rfl⟩<|Dh.JB.off rfl ⟨_, rfl, .inr rfl⟩<|Dh.JB.nil<|Dh.JL.nil ?_
     refine Dh.JE.mk rfl (fun _ h => by cases h) (fun C24_7 => ?_)
     refine Jl.qo rfl rfl rfl<|Jl.qn ?_
     refine Dh.Jq.segV zX ?_ zK
     refine Dh.JH.cons<|Dh.JB.nil<|Dh.JL.nil ?_
     refine Dh.JE.mk rfl (fun _ h => by cases h) (fun C24_8 => ?_)
     refine Jl.qo rfl rfl rfl<|Jl.qn ?_
     refine Dh.Jq.segV zX ?_ zK
     refine Dh.JH.nil ?_
     refine Dh.JB.pv rfl trivial (fun _ => PR.pickT rfl rfl) ?_
     refine Dh.JB.pv rfl trivial (fun _ => PR.qa rfl) ?_
     refine Dh.JB.nil<|Dh.JL.nil ?_
     refine Jq.blkN ?_
     refine Jq.qt<|Jc.qr<|Jl.pv (PR.qm rfl) ?_
     refine Jl.pv (PR.add ((k + 1 : Nat) : Int) rfl rfl (by rw [w64 (by omega) (by omega)]; rfl)) ?_
     refine Jl.pv (PR.qa rfl)<|Jl.qn ?_
     exact Jq.againT ⟨(k + 1, true), by simp only; omega, fun _ => rfl⟩ (by simp only; omega) (by repeat (first | exact trivial | refine And.intro rfl ?_)) zT zF
   try replace g134 := zW g134
   refine Dh.JB.rd [.blk _ _ _] rfl ⟨_, rfl, rfl⟩ zT (fun _ => PR.loadW rfl tsh38 Has.here (by rfl)) ?_
   refine Dh.JB.rd [.blk _ _ _] rfl ⟨_, rfl, rfl⟩ zT (fun _ => PR.loadW rfl tsh38 Has.here (by rfl)) ?_
   refine Dh.JB.pv rfl ⟨_, rfl, rfl⟩ (fun _ => PR.qm rfl) ?_
   refine Dh.JB.pv rfl ⟨_, rfl, rfl⟩ (fun _ => PR.qm rfl) ?_
   refine Dh.JB.slice 0 k k (rcsV (m.take k)) rfl ⟨_, rfl, rfl⟩ rfl tsl22 rfl rfl zM (Nat.zero_le _) hlt hcm' (Nat.sub_zero _) (by rw [Nat.zero_mul, List.drop_zero, rcsV_take m k hlt]) ?_
   intro A139 c139 hc139
   clear hc139
   refine Dh.JB.nil<|Dh.JL.nil ?_
   refine Dh.JE.mk rfl (fun _ h => by cases h) (fun C24_7 => ?_)
   refine Jl.on rfl rfl ?_
   refine Jl.call (rall13_at (bz0.all ((rcsN l).take l.length)) l.length k z A139 c139 (m.take k) hkl (by rw [hlk] at hin; exact hin) (by omega) (small_take hz2)) en15 (by rfl) zT zF ?_
   rintro z140
   refine Jl.qn ?_
   refine Dh.Jq.segV zX ?_ zK
   refine Dh.JH.cons<|Dh.JB.nil<|Dh.JL.nil ?_
   refine Dh.JE.mk rfl (fun _ h => by cases h) (fun C24_8 => ?_)
   refine Jl.on rfl rfl ?_
   refine Jl.calll (fs := []) (cs := []) (brsame_ct (ofB (tornD (cD ((rcsN l).take l.length)) keep m)) ((bz0.all ((rcsN l).take l.length)).all (rcsN (m.take k))) zt z140 hT1 hT2 hT3) en13 rfl (by rfl) (by rfl) zT (ls := [((bz0.all ((rcsN l).take l.length)).all (rcsN (m.take k))).rM z140, ((bz0.all ((rcsN l).take l.length)).all (rcsN (m.take k))).rI z140, ((bz0.all ((rcsN l).take l.length)).all (rcsN (m.take k))).rK z140]) zT zL zF ?_
   rintro ⟨⟩
   refine Jl.qn ?_
   refine Dh.Jq.segV zX ?_ zK
   refine Dh.JH.nil ?_
   refine Dh.JB.pv rfl trivial (fun _ => PR.pickF rfl rfl) ?_
   refine Dh.JB.pv rfl trivial (fun _ => PR.qa rfl) ?_
   refine Dh.JB.nil<|Dh.JL.nil ?_
   refine Jq.blkN ?_
   refine Jq.qt<|Jc.qr<|Jl.pv (PR.qm rfl) ?_
   refine Jl.pv (PR.add ((k + 1 : Nat) : Int) rfl rfl (by rw [w64 (by omega) (by omega)]; rfl)) ?_
   refine Jl.pv (PR.qa rfl)<|Jl.qn ?_
   exact Jq.againT ⟨(k + 1, eqC (ofB (tornD (cD ((rcsN l).take l.length)) keep m)) ((bz0.all ((rcsN l).take l.length)).all (rcsN (m.take k)))), by simp only; omega, fun h => eqC_iff.2 (by
    have hnk : n = k := by
     rcases Nat.lt_or_ge n k with h2 | h2
     · rw [hb h2] at g134; cases g134
     · have h : n < k + 1 := h; omega
    rw [hT, hnk, rcsN_take])⟩ (by simp only; omega) (by repeat (first | exact trivial | refine And.intro rfl ?_)) zT zF
 try replace h3 := zW h3
 obtain rfl : b = true := hb (by omega)
 refine Jc.exit ?_
 refine Jq.thenX ?_
 refine Jq.thenX ?_
 refine Jq.blkX ?_
 refine Jq.qt<|Jc.qs ?_
 refine Jc.drawn [0, 1, 3, 7, 15, 31, 31, 127, 255, 511, 1023, 2047, 4095, 8191, 16383, 16383, 16383, 114687, 262143, 524287, 1048575, 2097151, 4194303, 8388607, 16777215] ([(23, false), (24, false)], []) [⟨[(0, false), (1, false), (2, false), (3, false), (4, false), (5, false), (6, false)], [], 7⟩, ⟨[(8, false), (9, false), (10, false), (11, false), (12, false), (13, false), (14, false), (15, false), (16, false)], [], 17⟩, ⟨[], [], 18⟩, ⟨[(19, false), (20, false), (21, false)], [], 22⟩] tmx (by kernel_rfl) ?_
 refine Dh.JH.cons<|Dh.JB.pv rfl trivial (fun _ => PR.qm rfl) ?_
 refine Dh.JB.as (.bool true) (congrArg Value.bool rfl) ?_
 refine Dh.JB.pv rfl trivial (fun _ => PR.qm rfl) ?_
 refine Dh.JB.pv rfl ⟨_, rfl, rfl⟩ (fun _ => PR.qm rfl) ?_
 refine Dh.JB.pv rfl ⟨_, rfl, rfl⟩ (fun _ => PR.gtr _ rfl rfl rfl) ?_
 refine Dh.JB.pv rfl ⟨_, rfl, rfl⟩ (fun _ => PR.qm rfl) ?_
 refine Dh.JB.bsplit (fun g147 => ?_) (fun g147 => ?_)
 · try replace g147 := zV g147
   refine Dh.JB.off rfl ⟨_, rfl, .inr rfl⟩<|Dh.JB.off rfl ⟨_, rfl, .inr rfl⟩<|Dh.JB.nil<|Dh.JL.nil ?_
   refine Dh.JE.mk rfl (fun _ h => by cases h) (fun C25_7 => ?_)
   refine Jl.qo rfl rfl rfl<|Jl.qn ?_
   refine Dh.Jq.segV zX ?_ zK
   refine Dh.JH.cons ?_
   refine Dh.JB.pv rfl ⟨_, rfl, rfl⟩ (fun _ => PR.pickT rfl rfl) ?_
   refine Dh.JB.pv rfl trivial (fun _ => PR.pickT rfl rfl) ?_
   refine Dh.JB.pv rfl trivial (fun _ => PR.qm rfl) ?_
   refine Dh.JB.pv rfl ⟨_, rfl, rfl⟩ (fun _ => PR.qm rfl) ?_
   refine Dh.JB.pv rfl ⟨_, rfl, rfl⟩ (fun _ => PR.lss _ rfl rfl rfl) ?_
   refine Dh.JB.pv rfl ⟨_, rfl, rfl⟩ (fun _ => PR.qm rfl) ?_
   refine Dh.JB.bsplit (fun g156 => ?_) (fun g156 => ?_)
   · try replace g156 := zV g156
     refine Dh.JB.off rfl ⟨_, rfl, .inr rfl⟩<|Dh.JB.off rfl ⟨_, rfl, .inr rfl⟩<|Dh.JB.off rfl ⟨_, rfl, .inr rfl⟩<|Dh.JB.nil<|Dh.JL.nil ?_
     refine Dh.JE.mk rfl (fun _ h => by cases h) (fun C25_17 => ?_)
     refine Jl.qo rfl rfl rfl<|Jl.qn ?_
     refine Dh.Jq.segV zX ?_ zK
     refine Dh.JH.cons<|Dh.JB.nil<|Dh.JL.nil ?_
     refine Dh.JE.mk rfl (fun _ h => by cases h) (fun C25_18 => ?_)
     refine Jl.qo rfl rfl rfl<|Jl.qn ?_
     refine Dh.Jq.segV zX ?_ zK
     refine Dh.JH.cons ?_
     refine Dh.JB.pv rfl ⟨_, rfl, rfl⟩ (fun _ => PR.pickT rfl rfl) ?_
     refine Dh.JB.pv rfl trivial (fun _ => PR.pickT rfl rfl) ?_
     refine Dh.JB.pv rfl trivial (fun _ => PR.qm rfl)<|Dh.JB.nil<|Dh.JL.nil ?_
     refine Dh.JE.mk rfl (fun _ h => by cases h) (fun C25_22 => ?_)
     refine Jl.on rfl rfl ?_
     refine Jl.call (rwakes_ct mm) en9 (by rfl) zT zF ?_
     rintro ⟨⟩
     refine Jl.qn ?_
     refine Dh.Jq.segV zX ?_ zK
     refine Dh.JH.nil ?_
     refine Dh.JB.pv rfl trivial (fun _ => PR.pickT rfl rfl) ?_
     refine Dh.JB.pv rfl trivial (fun _ => PR.qa rfl) ?_
     refine Dh.JB.nil<|Dh.JL.nil<|Jq.qt<|Jc.ret ?_
     exact Jq.fin () (.inl rfl) rfl (RetVs.tmp rfl RetVs.nil) rfl zT zF
   try replace g156 := zW g156
   refine Dh.JB.rd [.blk _ _ _] rfl ⟨_, rfl, rfl⟩ zT (fun _ => PR.loadW rfl tsh38 Has.here (by rfl)) ?_
   refine Dh.JB.rd [.blk _ _ _] rfl ⟨_, rfl, rfl⟩ zT (fun _ => PR.loadW rfl tsh38 Has.here (by rfl)) ?_
   refine Dh.JB.pv rfl ⟨_, rfl, rfl⟩ (fun _ => PR.qm rfl) ?_
   refine Dh.JB.nil<|Dh.JL.nil ?_
   refine Dh.JE.mk rfl (fun _ h => by cases h) (fun C25_17 => ?_)
   refine Jl.on rfl rfl ?_
   refine Jl.call (rall13_at (bz0.all ((rcsN l).take l.length)) l.length m.length z Y cY m rfl (by rw [hlk] at hin; exact hin) (by omega) hz2) en15 (by rfl) zT zF ?_
   rintro z160
   refine Jl.qn ?_
   refine Dh.Jq.segV zX ?_ zK
   refine Dh.JH.cons<|Dh.JB.nil<|Dh.JL.nil ?_
   refine Dh.JE.mk rfl (fun _ h => by cases h) (fun C25_18 => ?_)
   refine Jl.on rfl rfl ?_
   refine Jl.calll (fs := []) (cs := []) (brsame_at (a := ofB (tornD (cD ((rcsN l).take l.length)) keep m)) (b := (bz0.all ((rcsN l).take l.length)).all (rcsN m)) (x := zt) (y := z160) hT1 hT2 hT3 (by rw [hT, hk1 (by omega), rcsN_all m])) en13 rfl (by rfl) (by rfl) zT (ls := [((bz0.all ((rcsN l).take l.length)).all (rcsN m)).rM z160, ((bz0.all ((rcsN l).take l.length)).all (rcsN m)).rI z160, ((bz0.all ((rcsN l).take l.length)).all (rcsN m)).rK z160]) zT zL zF ?_
   rintro ⟨⟩
   refine Jl.as (.bool true) (congrArg Value.bool rfl) ?_
   refine Jl.qn ?_
   refine Dh.Jq.segV zX ?_ zK
   refine Dh.JH.cons ?_
   refine Dh.JB.pv rfl ⟨_, rfl, rfl⟩ (fun _ => PR.pickF rfl rfl) ?_
   refine Dh.JB.pv rfl trivial (fun _ => PR.pickT rfl rfl) ?_
   refine Dh.JB.pv rfl trivial (fun _ => PR.qm rfl)<|Dh.JB.nil<|Dh.JL.nil ?_
   refine Dh.JE.mk rfl (fun _ h => by cases h) (fun C25_22 => ?_)
   refine Jl.on rfl rfl ?_
   refine Jl.call (rwakes_ct mm) en9 (by rfl) zT zF ?_
   rintro ⟨⟩
   refine Jl.qn ?_
   refine Dh.Jq.segV zX ?_ zK
   refine Dh.JH.nil ?_
   refine Dh.JB.pv rfl trivial (fun _ => PR.pickT rfl rfl) ?_
   refine Dh.JB.pv rfl trivial (fun _ => PR.qa rfl) ?_
   refine Dh.JB.nil<|Dh.JL.nil<|Jq.qt<|Jc.ret ?_
   exact Jq.fin () (.inl rfl) rfl (RetVs.tmp rfl RetVs.nil) rfl zT zF
 try replace g147 := zW g147
 refine Dh.JB.rd [.blk _ _ _] rfl ⟨_, rfl, rfl⟩ zT (fun _ => PR.loadW rfl tsh38 Has.here (by rfl)) ?_
 refine Dh.JB.rd [.blk _ _ _] rfl ⟨_, rfl, rfl⟩ zT (fun _ => PR.loadW rfl tsh38 Has.here (by rfl)) ?_
 refine Dh.JB.nil<|Dh.JL.nil ?_
 refine Dh.JE.mk rfl (fun _ h => by cases h) (fun C25_7 => ?_)
 refine Jl.on rfl rfl ?_
 refine Jl.call (brsame_at (a := ofB (tornD (cD ((rcsN l).take l.length)) keep m)) (b := (bz0.all ((rcsN l).take l.length))) (x := zt) (y := z) hT1 hT2 hT3 (by rw [hT, hk0 (by omega), List.take_zero]; rfl)) en13 (by rfl) zT zF ?_
 rintro ⟨⟩
 refine Jl.as (.bool true) (congrArg Value.bool rfl) ?_
 refine Jl.qn ?_
 refine Dh.Jq.segV zX ?_ zK
 refine Dh.JH.cons ?_
 refine Dh.JB.pv rfl ⟨_, rfl, rfl⟩ (fun _ => PR.pickF rfl rfl) ?_
 refine Dh.JB.pv rfl trivial (fun _ => PR.pickT rfl rfl) ?_
 refine Dh.JB.pv rfl trivial (fun _ => PR.qm rfl) ?_
 refine Dh.JB.pv rfl ⟨_, rfl, rfl⟩ (fun _ => PR.qm rfl) ?_
 refine Dh.JB.pv rfl ⟨_, rfl, rfl⟩ (fun _ => PR.lss _ rfl rfl rfl) ?_
 refine Dh.JB.pv rfl ⟨_, rfl, rfl⟩ (fun _ => PR.qm rfl) ?_
 refine Dh.JB.bsplit (fun g156 => ?_) (fun g156 => ?_)
 · try replace g156 := zV g156
   refine Dh.JB.off rfl ⟨_, rfl, .inr rfl⟩<|Dh.JB.off rfl ⟨_, rfl, .inr rfl⟩<|Dh.JB.off rfl ⟨_, rfl, .inr rfl⟩<|Dh.JB.nil<|Dh.JL.nil ?_
   refine Dh.JE.mk rfl (fun _ h => by cases h) (fun C25_17 => ?_)
   refine Jl.qo rfl rfl rfl<|Jl.qn ?_
   refine Dh.Jq.segV zX ?_ zK
   refine Dh.JH.cons<|Dh.JB.nil<|Dh.JL.nil ?_
   refine Dh.JE.mk rfl (fun _ h => by cases h) (fun C25_18 => ?_)
   refine Jl.qo rfl rfl rfl<|Jl.qn ?_
   refine Dh.Jq.segV zX ?_ zK
   refine Dh.JH.cons ?_
   refine Dh.JB.pv rfl ⟨_, rfl, rfl⟩ (fun _ => PR.pickT rfl rfl) ?_
   refine Dh.JB.pv rfl trivial (fun _ => PR.pickT rfl rfl) ?_
   refine Dh.JB.pv rfl trivial (fun _ => PR.qm rfl)<|Dh.JB.nil<|Dh.JL.nil ?_
   refine Dh.JE.mk rfl (fun _ h => by cases h) (fun C25_22 => ?_)
   refine Jl.on rfl rfl ?_
   refine Jl.call (rwakes_ct mm) en9 (by rfl) zT zF ?_
   rintro ⟨⟩
   refine Jl.qn ?_
   refine Dh.Jq.segV zX ?_ zK
   refine Dh.JH.nil ?_
   refine Dh.JB.pv rfl trivial (fun _ => PR.pickT rfl rfl) ?_
   refine Dh.JB.pv rfl trivial (fun _ => PR.qa rfl) ?_
   refine Dh.JB.nil<|Dh.JL.nil<|Jq.qt<|Jc.ret ?_
   exact Jq.fin () (.inl rfl) rfl (RetVs.tmp rfl RetVs.nil) rfl zT zF
 try replace g156 := zW g156
 refine Dh.JB.rd [.blk _ _ _] rfl ⟨_, rfl, rfl⟩ zT (fun _ => PR.loadW rfl tsh38 Has.here (by rfl)) ?_
 refine Dh.JB.rd [.blk _ _ _] rfl ⟨_, rfl, rfl⟩ zT (fun _ => PR.loadW rfl tsh38 Has.here (by rfl)) ?_
 refine Dh.JB.pv rfl ⟨_, rfl, rfl⟩ (fun _ => PR.qm rfl) ?_
 refine Dh.JB.nil<|Dh.JL.nil ?_
 refine Dh.JE.mk rfl (fun _ h => by cases h) (fun C25_17 => ?_)
 refine Jl.on rfl rfl ?_
 refine Jl.call (rall13_at (bz0.all ((rcsN l).take l.length)) l.length m.length z Y cY m rfl (by rw [hlk] at hin; exact hin) (by omega) hz2) en15 (by rfl) zT zF ?_
 rintro z160
 refine Jl.qn ?_
 refine Dh.Jq.segV zX ?_ zK
 refine Dh.JH.cons<|Dh.JB.nil<|Dh.JL.nil ?_
 refine Dh.JE.mk rfl (fun _ h => by cases h) (fun C25_18 => ?_)
 refine Jl.on rfl rfl ?_
 refine Jl.calll (fs := []) (cs := []) (brsame_at (a := ofB (tornD (cD ((rcsN l).take l.length)) keep m)) (b := (bz0.all ((rcsN l).take l.length)).all (rcsN m)) (x := zt) (y := z160) hT1 hT2 hT3 (by rw [hT, hk1 (by omega), rcsN_all m])) en13 rfl (by rfl) (by rfl) zT (ls := [((bz0.all ((rcsN l).take l.length)).all (rcsN m)).rM z160, ((bz0.all ((rcsN l).take l.length)).all (rcsN m)).rI z160, ((bz0.all ((rcsN l).take l.length)).all (rcsN m)).rK z160]) zT zL zF ?_
 rintro ⟨⟩
 refine Jl.as (.bool true) (congrArg Value.bool rfl) ?_
 refine Jl.qn ?_
 refine Dh.Jq.segV zX ?_ zK
 refine Dh.JH.cons ?_
 refine Dh.JB.pv rfl ⟨_, rfl, rfl⟩ (fun _ => PR.pickF rfl rfl) ?_
 refine Dh.JB.pv rfl trivial (fun _ => PR.pickT rfl rfl) ?_
 refine Dh.JB.pv rfl trivial (fun _ => PR.qm rfl)<|Dh.JB.nil<|Dh.JL.nil ?_
 refine Dh.JE.mk rfl (fun _ h => by cases h) (fun C25_22 => ?_)
 refine Jl.on rfl rfl ?_
 refine Jl.call (rwakes_ct mm) en9 (by rfl) zT zF ?_
 rintro ⟨⟩
 refine Jl.qn ?_
 refine Dh.Jq.segV zX ?_ zK
 refine Dh.JH.nil ?_
 refine Dh.JB.pv rfl trivial (fun _ => PR.pickT rfl rfl) ?_
 refine Dh.JB.pv rfl trivial (fun _ => PR.qa rfl) ?_
 refine Dh.JB.nil<|Dh.JL.nil<|Jq.qt<|Jc.ret ?_
 exact Jq.fin () (.inl rfl) rfl (RetVs.tmp rfl RetVs.nil) rfl zT zF
end Go.Proofs.YtakbgccddokbbaaGreatDoor
namespace Go.Proofs.YtakbgccddokbbaaGreatDoor
open Go.RowKit Go.ChangeShapes
theorem cell_lt {w : World} {a : Addr} {v : Value} (h : w.cell? a = some v) : a.block < w.heap.size := by
 unfold World.cell? at h
 cases hb : w.heap[a.block]? with
 | none => simp [hb] at h
 | some o => exact (Array.getElem?_eq_some_iff.1 hb).1
theorem okWide_slice {P : Program} {w : World} {r : Reach} {b0 : Nat} {t e : TypeId} {v : Value} (ht : P.underlying t = some (.slice e)) (h : Value.okWide P w r b0 t v) : v.cells.toList = [v] := by
 simp only [Value.okWide, ht, Cell.okWide] at h
 cases v <;> simp_all [Cell.ok, Value.cells]
end Go.Proofs.YtakbgccddokbbaaGreatDoor
namespace Go.Proofs.YtakbgccddokbbaaGreatDoor
open Go.RowKit Go.ChangeShapes Go.WideShapes Go.Joins
def Opens (P : Program) (t : TypeId) {α : Type} (cs : α → List Value) (φ : α → List Fact) (sd : α → Prop) : Prop :=
 ∀ (H : Type) (enc : TypeId × Value → H) (w : World) (fuel : Nat) (l : List Value) (x : DataW H × List MemPlace), DataW.trod enc P w 0 (fun _ => true) true fuel t l = some x → ∃ d, l = cs d ∧ (∀ ψ ∈ φ d, ψ.p (fun _ => False) w) ∧ sd d
section
variable {P : Program} {t e : TypeId} {α β : Type} {cs : α → List Value} {φ : α → List Fact} {sd : α → Prop}
theorem Opens.int {k : IntKind} (ht : P.underlying t = some (.int k)) : Opens P t (fun n : Int => [.int k n]) (fun _ => []) (fun n => (Lit.int k n).wf = true) := fun H enc w fuel l x h => by
 obtain ⟨n, rfl, _, hw⟩ := DataW.trod_int ht h
 exact ⟨n, rfl, by simp, hw⟩
theorem u8_wf {n : Int} (h : (Lit.int .u8 n).wf = true) : ∃ x : UInt8, n = x.toNat := by
 simp [Lit.wf, IntKind.min, IntKind.max, IntKind.signed, IntKind.bits] at h
 exact ⟨UInt8.ofNat n.toNat, by simp; omega⟩
theorem Opens.u8 (ht : P.underlying t = some (.int .u8)) : Opens P t (fun n : UInt8 => [.int .u8 n.toNat]) (fun _ => []) (fun _ => True) := fun H enc w fuel l x h => by
 obtain ⟨n, rfl, _, hw⟩ := DataW.trod_int ht h
 obtain ⟨y, rfl⟩ := u8_wf hw
 exact ⟨y, rfl, by simp, trivial⟩
theorem Opens.map (h : Opens P t cs φ sd) (f : α → β) {cs' : β → List Value} {φ' : β → List Fact} {sd' : β → Prop} (h1 : ∀ d, sd d → cs d = cs' (f d)) (h2 : ∀ d w, sd d → (∀ ψ ∈ φ d, ψ.p (fun _ => False) w) → ∀ ψ ∈ φ' (f d), ψ.p (fun _ => False) w) (h3 : ∀ d, sd d → sd' (f d)) : Opens P t cs' φ' sd' := fun H enc w fuel l x hx => by
 obtain ⟨d, rfl, hf, hs⟩ := h H enc w fuel l x hx
 exact ⟨f d, h1 d hs, h2 d w hs hf, h3 d hs⟩
theorem cells_at {w : World} {a : Addr} {s : Nat} {l : List Value} (h : w.cells? 0 a s = some l) : l.length = s ∧ ∀ (j : Nat) u, l[j]? = some u → w.cell? (a.add j) = some u := by
 obtain ⟨_, h2, h3⟩ := World.cells?_some h
 exact ⟨h2, fun j u hu => by
  have hj := (List.getElem?_eq_some_iff.1 hu).1
  have := h3 j (by omega)
  rw [this, hu]⟩
theorem Opens.slice (ht : P.underlying t = some (.slice e)) (s : Nat) (hs : P.cellsOf e = s) (h : Opens P e cs φ sd) (hl : ∀ d, (cs d).length = s) :
    Opens P t (fun z : (Option Addr × Nat) × List α => [.slice z.1.1 z.2.length z.1.2]) (fun z => .rd z.1.1 (z.2.flatMap cs) :: z.2.flatMap φ) (fun z => z.2.length ≤ maxLen ∧ z.2.length ≤ z.1.2 ∧ ∀ d ∈ z.2, sd d) := fun H enc w fuel l x hx => by
  rcases Go.Deep.open_slice ht hx with ⟨rfl, _⟩ | ⟨a, len, cap, m, n, D, Pl, rfl, _, hlc, hm, hmm, _, hel⟩
  · exact ⟨((none, 0), []), rfl, fun ψ hψ => by
      obtain rfl : ψ = _ := by simpa using hψ
      exact Fact.rd_nil _ _ _, Nat.zero_le _, Nat.zero_le _, fun d hd => by simp at hd⟩
  · have hmc : m = cap := by simpa using hmm
    subst hmc
    have key : ∀ k, k ≤ len → ∃ ds : List α, ds.length = k ∧ (Fact.rd (some a) (ds.flatMap cs)).p (fun _ => False) w ∧ (∀ ψ ∈ ds.flatMap φ, ψ.p (fun _ => False) w) ∧ ∀ d ∈ ds, sd d := by
      intro k
      induction k with
      | zero => exact fun _ => ⟨[], rfl, Fact.rd_nil _ _ _, by simp, by simp⟩
      | succ k ih =>
        intro hk
        obtain ⟨ds, h1, h2, h3, h4⟩ := ih (by omega)
        obtain ⟨cs', g1, g2⟩ := hel k (by omega)
        obtain ⟨d, rfl, g3, g4⟩ := h H enc w n cs' _ g2
        rw [hs] at g1
        obtain ⟨g5, g6⟩ := cells_at g1
        refine ⟨ds ++ [d], by simp [h1], fun j u hu => ?_, fun ψ hψ => ?_, fun x hx => ?_⟩
        · have hfl : (ds.flatMap cs).length = k * s := by
            rw [← h1]
            clear h1 h2 h3 h4 hk ih hu
            induction ds with
            | nil => simp
            | cons y ds ih => simp only [List.flatMap_cons, List.length_append, List.length_cons, hl, ih, Nat.add_mul]; omega
          rw [List.flatMap_append, List.flatMap_cons, List.flatMap_nil, List.append_nil] at hu
          by_cases hj : j < (ds.flatMap cs).length
          · rw [List.getElem?_append_left hj] at hu
            exact h2 j u hu
          · rw [List.getElem?_append_right (by omega), hfl] at hu
            have := g6 _ u hu
            rw [add_add, show k * s + (j - k * s) = j by omega] at this
            have hb := cell_lt this
            rw [add_block] at hb
            exact ⟨a, rfl, hb, id, this⟩
        · rw [List.flatMap_append] at hψ
          rcases List.mem_append.1 hψ with hψ | hψ
          · exact h3 ψ hψ
          · exact g3 ψ (by simpa using hψ)
        · rcases List.mem_append.1 hx with hx | hx
          · exact h4 x hx
          · obtain rfl : x = d := by simpa using hx
            exact g4
    obtain ⟨ds, h1, h2, h3, h4⟩ := key len (Nat.le_refl _)
    refine ⟨((some a, m), ds), by simp [h1], fun ψ hψ => ?_, by simp only; omega, by simp only; omega, h4⟩
    rcases List.mem_cons.1 hψ with rfl | hψ
    · exact h2
    · exact h3 ψ hψ
def OpensF (P : Program) (fs : List Field) (off N : Nat) {α : Type} (cs : α → List Value) (φ : α → List Fact) (sd : α → Prop) : Prop :=
  ∀ (H : Type) (enc : TypeId × Value → H) (w : World) (n : Nat) (l : List Value), l.length = N → (∀ f ∈ fs, ∃ y, DataW.trod enc P w 0 (fun _ => true) true n f.type ((l.drop f.offset).take (P.cellsOf f.type)) = some y) →
    ∃ d, l.drop off = cs d ∧ (∀ ψ ∈ φ d, ψ.p (fun _ => False) w) ∧ sd d
theorem OpensF.nil {N : Nat} : OpensF P [] N N (fun _ : Unit => []) (fun _ => []) (fun _ => True) := fun H enc w n l hl _ => ⟨(), by simp [← hl], by simp, trivial⟩
theorem OpensF.cons {f : Field} {fs : List Field} {off N s : Nat} {cs2 : β → List Value} {φ2 : β → List Fact} {sd2 : β → Prop} (hs : P.cellsOf f.type = s) (ho : f.offset = off) (h : Opens P f.type cs φ sd) (k : OpensF P fs (off + s) N cs2 φ2 sd2) :
 OpensF P (f :: fs) off N (fun d : α × β => cs d.1 ++ cs2 d.2) (fun d => φ d.1 ++ φ2 d.2) (fun d => sd d.1 ∧ sd2 d.2) := fun H enc w n l hl hx => by
 obtain ⟨y, hy⟩ := hx f (List.mem_cons_self ..)
 rw [hs, ho] at hy
 obtain ⟨d, h1, h2, h3⟩ := h H enc w n _ _ hy
 obtain ⟨d2, k1, k2, k3⟩ := k H enc w n l hl fun f hf => hx f (List.mem_cons_of_mem _ hf)
 refine ⟨(d, d2), ?_, fun ψ hψ => ?_, h3, k3⟩
 · show _ = cs d ++ cs2 d2
   rw [← h1, ← k1, ← List.drop_drop, List.take_append_drop]
 · rcases List.mem_append.1 hψ with hψ | hψ
   · exact h2 ψ hψ
   · exact k2 ψ hψ
theorem Opens.struct {fs : Array Field} {N : Nat} (ht : P.underlying t = some (.struct fs)) (hN : P.cellsOf t = N) (h : OpensF P fs.toList 0 N cs φ sd) : Opens P t cs φ sd := fun H enc w fuel l x hx => by
 obtain ⟨xs, n, _, _, hl, hlen, hf⟩ := DataW.trod_struct ht hx
 obtain ⟨d, h1, h2, h3⟩ := h H enc w n l (by rw [hl, hN]) fun f hm => by
  obtain ⟨i, hi⟩ := List.mem_iff_getElem?.1 hm
  have hi' : fs[i]? = some f := by simpa using hi
  have := hf i f hi'
  have hlt : i < xs.length := by rw [hlen]; exact (Array.getElem?_eq_some_iff.1 hi').1
  rw [List.getElem?_eq_getElem hlt] at this
  exact ⟨_, this⟩
 exact ⟨d, by simpa using h1, h2, h3⟩
theorem open_slice' {H : Type} {enc : TypeId × Value → H} {w : World} {r : Reach} {b0 : Nat} {v : Value} {y : DataW H} {p : List MemPlace} (ht : P.underlying t = some (.slice e)) (ho : Opens P t cs φ sd)
 (hv : Value.okWide P w r b0 t v) (h : DataW.Trod enc P w 0 (fun _ => true) true t v y p) : ∃ d, [v] = cs d ∧ (∀ ψ ∈ φ d, ψ.p (fun _ => False) w) ∧ sd d := by
 have hcl := okWide_slice ht hv
 obtain ⟨fuel, hf⟩ := h
 rw [hcl] at hf
 exact ho H enc w fuel _ _ hf
theorem flatMap_one {f : α → Value} (l : List α) : l.flatMap (fun x => [f x]) = l.map f := by induction l <;> simp_all
theorem Opens.ints (ht : P.underlying t = some (.slice e)) (he : P.underlying e = some (.int .i64)) (hc : P.cellsOf e = 1) :
 Opens P t (fun z : (Option Addr × Nat) × List Int => [.slice z.1.1 z.2.length z.1.2]) (fun z => [.rd z.1.1 (z.2.map (Value.int .i64))]) (fun z => z.2.length ≤ maxLen ∧ z.2.length ≤ z.1.2 ∧ ∀ n ∈ z.2, (Lit.int .i64 n).wf = true) :=
 (Opens.slice ht 1 hc (Opens.int he) (fun _ => rfl)).map id (fun _ _ => rfl) (fun d w _ h ψ hψ => by
  obtain rfl : ψ = _ := by simpa using hψ
  have := h _ (List.mem_cons_self ..)
  rw [flatMap_one] at this
  exact this) fun d h => h
end
end Go.Proofs.YtakbgccddokbbaaGreatDoor
namespace Go.Proofs.YtakbgccddokbbaaGreatDoor
open Go.RowKit Go.ChangeShapes Go.WideShapes Go.Joins
def OpensX (P : Program) (t : TypeId) {α : Type} (cs : α → List Value) (φ : α → List Fact) (dt : α → DataW Unit → Prop) : Prop :=
 ∀ (w : World) (fuel : Nat) (l : List Value) (x : DataW Unit × List MemPlace), DataW.trod (fun _ => ()) P w 0 (fun _ => true) false fuel t l = some x → ∃ d, l = cs d ∧ (∀ ψ ∈ φ d, ψ.p (fun _ => False) w) ∧ dt d x.1
section
variable {P : Program} {t e : TypeId} {α β : Type} {cs : α → List Value} {φ : α → List Fact} {dt : α → DataW Unit → Prop}
theorem OpensX.int {k : IntKind} (ht : P.underlying t = some (.int k)) : OpensX P t (fun n : Int => [.int k n]) (fun _ => []) (fun n D => D = .lit (.int k n)) := fun w fuel l x h => by
 obtain ⟨n, rfl, hx, _⟩ := DataW.trod_int ht h
 exact ⟨n, rfl, by simp, by rw [hx]⟩
def All2 (dt : α → DataW Unit → Prop) (ds : List α) (Ds : List (DataW Unit)) : Prop := Ds.length = ds.length ∧ ∀ (i : Nat) d D, ds[i]? = some d → Ds[i]? = some D → dt d D
theorem All2.head {d : α} {ds : List α} {D : DataW Unit} {Ds : List (DataW Unit)} (h : All2 dt (d :: ds) (D :: Ds)) : dt d D ∧ All2 dt ds Ds :=
 ⟨h.2 0 d D rfl rfl, by simpa using h.1, fun i d' D' h1 h2 => h.2 (i + 1) d' D' (by simpa using h1) (by simpa using h2)⟩
theorem OpensX.array {n s : Nat} (ht : P.underlying t = some (.array n e)) (hs : P.cellsOf e = s) (hn : P.cellsOf t = n * s) (h : OpensX P e cs φ dt) (hl : ∀ d, (cs d).length = s) :
    OpensX P t (fun ds : List α => ds.flatMap cs) (fun ds => ds.flatMap φ) (fun ds D => ds.length = n ∧ ∃ Ds, D = .agg Ds ∧ All2 dt ds Ds) := fun w fuel l x hx => by
  obtain ⟨xs, m, _, rfl, hlen, hxs, hel⟩ := DataW.trod_array ht hx
  rw [hs] at hel
  rw [hn] at hlen
  have key : ∀ k, k ≤ n → ∃ ds : List α, ds.length = k ∧ l.take (k * s) = ds.flatMap cs ∧ (∀ ψ ∈ ds.flatMap φ, ψ.p (fun _ => False) w) ∧ ∀ (i : Nat) d D, ds[i]? = some d → (xs.map (·.1))[i]? = some D → dt d D := by
    intro k
    induction k with
    | zero => exact fun _ => ⟨[], rfl, by simp, by simp, by simp⟩
    | succ k ih =>
      intro hk
      obtain ⟨ds, h1, h2, h3, h4⟩ := ih (by omega)
      have h5 := hel k (by omega)
      rw [List.getElem?_eq_getElem (show k < xs.length by omega)] at h5
      obtain ⟨d, g1, g2, g3⟩ := h w m _ _ h5
      refine ⟨ds ++ [d], by simp [h1], by rw [Nat.add_mul, Nat.one_mul, List.take_add, h2, g1, List.flatMap_append]; simp, fun ψ hψ => ?_, fun i d' D' hd hD => ?_⟩
      · rw [List.flatMap_append] at hψ
        rcases List.mem_append.1 hψ with hψ | hψ
        · exact h3 ψ hψ
        · exact g2 ψ (by simpa using hψ)
      · by_cases hi : i < ds.length
        · rw [List.getElem?_append_left hi] at hd
          exact h4 i d' D' hd hD
        · rw [List.getElem?_append_right (by omega)] at hd
          have hi0 : i = k := by
            have := (List.getElem?_eq_some_iff.1 hd).1
            simp at this; omega
          subst hi0
          rw [h1, Nat.sub_self] at hd
          simp only [List.getElem?_cons_zero, Option.some.injEq] at hd
          subst hd
          rw [List.getElem?_map, List.getElem?_eq_getElem (show i < xs.length by omega)] at hD
          simp only [Option.map_some, Option.some.injEq] at hD
          subst hD
          exact g3
  obtain ⟨ds, h1, h2, h3, h4⟩ := key n (Nat.le_refl _)
  exact ⟨ds, by show l = ds.flatMap cs; rw [← h2, List.take_of_length_le (by omega)], h3, h1, _, rfl, by simp [h1, hxs], h4⟩
def OpensXF (P : Program) (fs : List Field) (off N : Nat) {α : Type} (cs : α → List Value) (φ : α → List Fact) (dt : α → List (DataW Unit) → Prop) : Prop :=
  ∀ (w : World) (n : Nat) (l : List Value) (Ds : List (DataW Unit)), l.length = N → Ds.length = fs.length → (∀ (i : Nat) f D, fs[i]? = some f → Ds[i]? = some D → ∃ pl, DataW.trod (fun _ => ()) P w 0 (fun _ => true) false n f.type ((l.drop f.offset).take (P.cellsOf f.type)) = some (D, pl)) →
    ∃ d, l.drop off = cs d ∧ (∀ ψ ∈ φ d, ψ.p (fun _ => False) w) ∧ dt d Ds
theorem OpensXF.nil {N : Nat} : OpensXF P [] N N (fun _ : Unit => []) (fun _ => []) (fun _ Ds => Ds = []) := fun w n l Ds hl h1 _ => ⟨(), by simp [← hl], by simp, by simpa using h1⟩
theorem OpensXF.cons {f : Field} {fs : List Field} {off N s : Nat} {cs2 : β → List Value} {φ2 : β → List Fact} {dt2 : β → List (DataW Unit) → Prop} (hs : P.cellsOf f.type = s) (ho : f.offset = off) (h : OpensX P f.type cs φ dt) (k : OpensXF P fs (off + s) N cs2 φ2 dt2) :
    OpensXF P (f :: fs) off N (fun d : α × β => cs d.1 ++ cs2 d.2) (fun d => φ d.1 ++ φ2 d.2) (fun d Ds => ∃ D Ds', Ds = D :: Ds' ∧ dt d.1 D ∧ dt2 d.2 Ds') := fun w n l Ds hl hD hx => by
  match Ds, hD with
  | D :: Ds', hD =>
    obtain ⟨pl, hy⟩ := hx 0 f D rfl rfl
    rw [hs, ho] at hy
    obtain ⟨d, h1, h2, h3⟩ := h w n _ _ hy
    obtain ⟨d2, k1, k2, k3⟩ := k w n l Ds' hl (by simpa using hD) fun i f' D' hf hD' => hx (i + 1) f' D' (by simpa using hf) (by simpa using hD')
    refine ⟨(d, d2), ?_, fun ψ hψ => ?_, D, Ds', rfl, h3, k3⟩
    · show _ = cs d ++ cs2 d2
      rw [← h1, ← k1, ← List.drop_drop, List.take_append_drop]
    · rcases List.mem_append.1 hψ with hψ | hψ
      · exact h2 ψ hψ
      · exact k2 ψ hψ
theorem OpensX.struct {fs : Array Field} {N : Nat} {dtF : α → List (DataW Unit) → Prop} (ht : P.underlying t = some (.struct fs)) (hN : P.cellsOf t = N) (h : OpensXF P fs.toList 0 N cs φ dtF) : OpensX P t cs φ (fun d D => ∃ Ds, D = .agg Ds ∧ dtF d Ds) := fun w fuel l x hx => by
  obtain ⟨xs, n, _, rfl, hl, hlen, hf⟩ := DataW.trod_struct ht hx
  obtain ⟨d, h1, h2, h3⟩ := h w n l (xs.map (·.1)) (by rw [hl, hN]) (by simp [hlen]) fun i f D hfi hD => by
    have hi' : fs[i]? = some f := by simpa using hfi
    have := hf i f hi'
    rw [List.getElem?_map] at hD
    cases hx : xs[i]? with
    | none => rw [hx] at hD; cases hD
    | some y =>
      rw [hx] at hD this
      simp only [Option.map_some, Option.some.injEq] at hD
      subst hD
      exact ⟨y.2, this⟩
  exact ⟨d, by simpa using h1, h2, _, rfl, h3⟩
theorem laid_rd {w : World} {n : String} {d : DataW Unit} {ps : List MemPlace} {r : List (String × DataW Unit)} {g : Nat} {ty : TypeId} (h : DataW.LaidVars P w ((n, d) :: r) ps) (hg : P.globalNamed n = some g) (ht : (P.globals[g]?).map (·.type) = some ty) (ho : OpensX P ty cs φ dt) :
 (∃ y, dt y d ∧ (Fact.rd (some ⟨g, 0, none⟩) (cs y)).p (fun _ => False) w ∧ (∀ ψ ∈ φ y, ψ.p (fun _ => False) w)) ∧ ∃ q, DataW.LaidVars P w r q := by
 obtain ⟨g0, t0, cs0, f0, p0, q0, hg0, ht0, hv0, hd0, hr, _⟩ := h
 obtain rfl := Option.some.inj (hg.symm.trans hg0)
 obtain rfl := Option.some.inj (ht.symm.trans ht0)
 obtain ⟨y, h1, h2, h3⟩ := ho w f0 _ _ hd0
 refine ⟨⟨y, h3, fun j u hu => ?_, h2⟩, q0, hr⟩
 have hc := World.var?_cell hg hv0 j
 have hcell : w.cell? ⟨g, j, none⟩ = some u := by
  rw [← h1] at hu
  have : cs0[j]? = some u := by simpa using hu
  rw [← this]
  simpa using hc
 have e : (⟨g, 0, none⟩ : Addr).add j = ⟨g, j, none⟩ := by unfold Addr.add; split <;> simp_all
 exact ⟨⟨g, 0, none⟩, rfl, by have := cell_lt hcell; exact this, id, by rw [e]; exact hcell⟩
end
end Go.Proofs.YtakbgccddokbbaaGreatDoor
namespace Go.Proofs.YtakbgccddokbbaaGreatDoor
open Go.RowKit Go.ChangeShapes Go.WideShapes Go.Joins
section
variable {P : Program} {t e : TypeId} {α β : Type} {cs : α → List Value} {φ : α → List Fact} {dt : α → DataW Unit → Prop}
theorem oflat_take {cs : α → List Value} {s : Nat} (hl : ∀ d, (cs d).length = s) (ds : List α) : (ds.flatMap cs).length = ds.length * s := by
 induction ds with
 | nil => simp
 | cons y ds ih => simp only [List.flatMap_cons, List.length_append, List.length_cons, hl, ih, Nat.add_mul]; omega
theorem OpensX.slice (ht : P.underlying t = some (.slice e)) (s : Nat) (hs : P.cellsOf e = s) (h : OpensX P e cs φ dt) (hl : ∀ d, (cs d).length = s) :
    OpensX P t (fun z : (Option Addr × Nat) × List α => [.slice z.1.1 z.2.length z.1.2]) (fun z => .rd z.1.1 (z.2.flatMap cs) :: z.2.flatMap φ)
      (fun z D => (D = .nil ∧ z = ((none, 0), [])) ∨ ∃ Ds E, D = .slice Ds E ∧ All2 dt z.2 Ds ∧ z.1.1.isNone = false) := fun w fuel l x hx => by
  rcases Go.Deep.open_slice ht hx with ⟨rfl, rfl⟩ | ⟨a, len, cap, m, n, D, Pl, rfl, _, hlc, hm, hmm, rfl, hel⟩
  · exact ⟨((none, 0), []), rfl, fun ψ hψ => by
      obtain rfl : ψ = _ := by simpa using hψ
      exact Fact.rd_nil _ _ _, .inl ⟨rfl, rfl⟩⟩
  · have hmc : m = cap := by simpa using hmm
    subst hmc
    have key : ∀ k, k ≤ len → ∃ ds : List α, ds.length = k ∧ (Fact.rd (some a) (ds.flatMap cs)).p (fun _ => False) w ∧ (∀ ψ ∈ ds.flatMap φ, ψ.p (fun _ => False) w) ∧ ∀ (i : Nat) d, ds[i]? = some d → dt d (D i) := by
      intro k
      induction k with
      | zero => exact fun _ => ⟨[], rfl, Fact.rd_nil _ _ _, by simp, by simp⟩
      | succ k ih =>
        intro hk
        obtain ⟨ds, h1, h2, h3, h4⟩ := ih (by omega)
        obtain ⟨cs', g1, g2⟩ := hel k (by omega)
        obtain ⟨d, rfl, g3, g4⟩ := h w n cs' _ g2
        rw [hs] at g1
        obtain ⟨g5, g6⟩ := cells_at g1
        refine ⟨ds ++ [d], by simp [h1], fun j u hu => ?_, fun ψ hψ => ?_, fun i d' hd => ?_⟩
        · have hfl : (ds.flatMap cs).length = k * s := by rw [oflat_take hl, h1]
          rw [List.flatMap_append, List.flatMap_cons, List.flatMap_nil, List.append_nil] at hu
          by_cases hj : j < (ds.flatMap cs).length
          · rw [List.getElem?_append_left hj] at hu
            exact h2 j u hu
          · rw [List.getElem?_append_right (by omega), hfl] at hu
            have := g6 _ u hu
            rw [add_add, show k * s + (j - k * s) = j by omega] at this
            have hb := cell_lt this
            rw [add_block] at hb
            exact ⟨a, rfl, hb, id, this⟩
        · rw [List.flatMap_append] at hψ
          rcases List.mem_append.1 hψ with hψ | hψ
          · exact h3 ψ hψ
          · exact g3 ψ (by simpa using hψ)
        · by_cases hi : i < ds.length
          · rw [List.getElem?_append_left hi] at hd
            exact h4 i d' hd
          · rw [List.getElem?_append_right (by omega)] at hd
            have hi0 : i = k := by
              have := (List.getElem?_eq_some_iff.1 hd).1
              simp at this; omega
            subst hi0
            rw [h1, Nat.sub_self] at hd
            simp only [List.getElem?_cons_zero, Option.some.injEq] at hd
            subst hd
            exact g4
    obtain ⟨ds, h1, h2, h3, h4⟩ := key len (Nat.le_refl _)
    refine ⟨((some a, m), ds), by simp [h1], fun ψ hψ => ?_, .inr ⟨_, _, rfl, ⟨by simp [h1], fun i d D' hd hD => ?_⟩, rfl⟩⟩
    · rcases List.mem_cons.1 hψ with rfl | hψ
      · exact h2
      · exact h3 ψ hψ
    · rw [List.getElem?_map] at hD
      have hlt : i < len := by rw [← h1]; exact (List.getElem?_eq_some_iff.1 hd).1
      rw [List.getElem?_range hlt] at hD
      simp only [Option.map_some, Option.some.injEq] at hD
      subst hD
      exact h4 i d hd
end
end Go.Proofs.YtakbgccddokbbaaGreatDoor
namespace Go.Proofs.YtakbgccddokbbaaGreatDoor
set_option maxRecDepth 100000
open Go.RowKit Go.ChangeShapes
theorem opens_rec : Opens Tryz.prog 54 (fun z : AdC × Rc => z.2.cs z.1) (fun z => [.rd z.1.1 (i64s z.2.l)]) (fun z => z.2.l.length ≤ z.1.2) :=
 (Opens.struct Tryz.underlying54 (by kernel_rfl) (OpensF.cons (s := 1) (by kernel_rfl) rfl (Opens.u8 Tryz.underlying5) (OpensF.cons (s := 1) (by kernel_rfl) rfl (Opens.ints Tryz.underlying23 Tryz.underlying3 (by kernel_rfl)) OpensF.nil))).map
  (fun (d : UInt8 × (AdC × List Int) × Unit) => (d.2.1.1, ⟨d.1, d.2.1.2⟩)) (fun _ _ => rfl) (fun _ _ _ h => by simpa using h) (fun _ h => h.2.1.2.1)
theorem opens_recs : Opens Tryz.prog 22 (fun z : AdC × Rcs => [.slice z.1.1 z.2.length z.1.2]) (fun z => [.rd z.1.1 (rcsV z.2), .rcs z.2]) (fun z => z.2.length ≤ z.1.2) :=
 (Opens.slice Tryz.underlying22 2 (by kernel_rfl) opens_rec (fun _ => rfl)).map id (fun _ _ => rfl) (fun d w _ h ψ hψ => by
  simp only [List.mem_cons, List.not_mem_nil, or_false] at hψ
  rcases hψ with rfl | rfl
  · exact h _ (List.mem_cons_self ..)
  · intro z hz
    exact h _ (List.mem_cons_of_mem _ (List.mem_flatMap.2 ⟨z, hz, List.mem_cons_self ..⟩))) (fun _ h => h.2.1)
theorem open_nums {H : Type} {enc : TypeId × Value → H} {w : World} {r : Reach} {b0 : Nat} {v : Value} {y : DataW H} {p : List MemPlace} (hv : Value.okWide Tryz.prog w r b0 23 v) (h : DataW.Trod enc Tryz.prog w 0 (fun _ => true) true 23 v y p) :
 ∃ (x : AdC) (l : List Int), v = .slice x.1 l.length x.2 ∧ (Fact.rd x.1 (i64s l)).p (fun _ => False) w := by
 obtain ⟨⟨x, l⟩, h1, h2, h3⟩ := open_slice' Tryz.underlying23 (Opens.ints Tryz.underlying23 Tryz.underlying3 (by kernel_rfl)) hv h
 exact ⟨x, l, (List.cons.inj h1).1, h2 _ (List.mem_cons_self ..)⟩
theorem pair_of {z : AdC × List Int} {a b : Int} (h : ((DataW.slice [.lit (.int .i64 a), .lit (.int .i64 b)] [] : DataW Unit) = .nil ∧ z = ((none, 0), [])) ∨ ∃ Ds E, (DataW.slice [.lit (.int .i64 a), .lit (.int .i64 b)] [] : DataW Unit) = .slice Ds E ∧ All2 (fun n D => D = .lit (.int .i64 n)) z.2 Ds ∧ z.1.1.isNone = false) : z.2 = [a, b] := by
  rcases h with ⟨h, _⟩ | ⟨Ds, E, h, hA, _⟩
  · cases h
  · simp only [DataW.slice.injEq] at h
    obtain ⟨rfl, _⟩ := h
    obtain ⟨x, l⟩ := z
    match l, hA with
    | [], hA => exact absurd hA.1 (by simp)
    | [p], hA => exact absurd hA.1 (by simp)
    | [p, q], hA =>
      obtain ⟨h1, hA⟩ := hA.head
      obtain ⟨h2, _⟩ := hA.head
      simp only [DataW.lit.injEq, Lit.int.injEq, true_and] at h1 h2
      rw [h1, h2]
    | p :: q :: s :: l, hA => exact absurd hA.1 (by simp)
theorem manyD_at : ∀ {i : Nat}, 1 ≤ i → i < 17 → ∀ Ds : List (DataW Unit), (Rows.laid_herd_record_many : DataW Unit) = .agg Ds → Ds[i]? = some (.slice [.lit (.int .i64 (((bndAt i).1 : Nat) : Int)), .lit (.int .i64 (((bndAt i).2 : Nat) : Int))] []) := by
 intro i h1 h2 Ds h
 unfold Rows.laid_herd_record_many at h
 injection h with h
 subst h
 match i, h1, h2 with
 | 1, _, _ => rfl | 2, _, _ => rfl | 3, _, _ => rfl | 4, _, _ => rfl | 5, _, _ => rfl | 6, _, _ => rfl | 7, _, _ => rfl | 8, _, _ => rfl | 9, _, _ => rfl | 10, _, _ => rfl | 11, _, _ => rfl | 12, _, _ => rfl | 13, _, _ => rfl
 | 14, _, _ => rfl | 15, _, _ => rfl | 16, _, _ => rfl | i + 17, _, h => exact absurd h (by omega)
end Go.Proofs.YtakbgccddokbbaaGreatDoor
namespace Go.Proofs.YtakbgccddokbbaaGreatDoor
set_option maxRecDepth 100000
open Go.RowKit Go.ChangeShapes
end Go.Proofs.YtakbgccddokbbaaGreatDoor
namespace Go.Proofs.YtakbgccddokbbaaGreatDoor
set_option maxRecDepth 100000
open Go.RowKit Go.ChangeShapes
theorem lim_pair {y : Int × Int × Unit} {a b : Int} (h : ∃ Ds, (DataW.agg [.lit (.int .i64 a), .lit (.int .i64 b)] : DataW Unit) = .agg Ds ∧ ∃ D Ds', Ds = D :: Ds' ∧ D = .lit (.int .i64 y.1) ∧ ∃ D2 Ds2, Ds' = D2 :: Ds2 ∧ D2 = .lit (.int .i64 y.2.1) ∧ Ds2 = []) : y = (a, b, ()) := by
 obtain ⟨y1, y2, ⟨⟩⟩ := y
 obtain ⟨_, h1, _, _, rfl, rfl, _, _, rfl, rfl, rfl⟩ := h
 simp only [DataW.agg.injEq, List.cons.injEq, DataW.lit.injEq, Lit.int.injEq, true_and, and_true] at h1
 rw [h1.1, h1.2]
theorem chD_at : ∀ {i : Nat}, i < 11 → ∀ Ds : List (DataW Unit), (Rows.laid_herd_brain_changes : DataW Unit) = .agg Ds → Ds[i]? = some (if (legalL.getD i []).isEmpty = true then .nil else .slice ((legalL.getD i []).map fun n : Nat => .lit (.int .u8 (n : Int))) []) := by
 intro i h2 Ds h
 unfold Rows.laid_herd_brain_changes at h
 injection h with h
 subst h
 match i, h2 with
 | 0, _ => rfl | 1, _ => rfl | 2, _ => rfl | 3, _ => rfl | 4, _ => rfl | 5, _ => rfl | 6, _ => rfl | 7, _ => rfl | 8, _ => rfl | 9, _ => rfl | 10, _ => rfl | i + 11, h => exact absurd h (by omega)
theorem chrow_of {z : AdC × List Int} {l : List Nat} {D : DataW Unit} (h : (D = .nil ∧ z = ((none, 0), [])) ∨ ∃ Ds E, D = .slice Ds E ∧ All2 (fun n D => D = .lit (.int .u8 n)) z.2 Ds ∧ z.1.1.isNone = false) (hD : D = if l.isEmpty = true then .nil else .slice (l.map fun n : Nat => .lit (.int .u8 (n : Int))) []) : z.2 = l.map (fun n : Nat => (n : Int)) := by
  cases l with
  | nil =>
    rcases h with ⟨_, h⟩ | ⟨Ds, E, h, _⟩
    · rw [h]; rfl
    · rw [hD] at h; cases h
  | cons p l =>
    rcases h with ⟨h, _⟩ | ⟨Ds, E, h, hA, _⟩
    · rw [hD] at h; cases h
    · rw [hD] at h
      have h' : (DataW.slice ((p :: l).map fun n : Nat => .lit (.int .u8 (n : Int))) [] : DataW Unit) = .slice Ds E := h
      simp only [DataW.slice.injEq] at h'
      obtain ⟨rfl, _⟩ := h'
      refine List.ext_getElem (hA.1.symm.trans (by simp)) fun i g1 g2 => ?_
      have hi : i < (p :: l).length := by simpa using g2
      have := hA.2 i _ _ (List.getElem?_eq_getElem g1) (by rw [List.getElem?_map, List.getElem?_eq_getElem hi]; rfl)
      simp only [DataW.lit.injEq, Lit.int.injEq, true_and] at this
      rw [List.getElem_map]
      exact this.symm
theorem rp_laid {W : World} (h : laidMetH Tryz.prog [("herd/conf.limits", Rows.laid_herd_conf_limits), ("herd/brain.changes", Rows.laid_herd_brain_changes), ("herd/record.many", Rows.laid_herd_record_many)] W) : ∃ mm, (Fact.many mm).p (fun _ => False) W ∧ Fact.lim.p (fun _ => False) W ∧ Fact.chg.p (fun _ => False) W := by
  rw [MakeChecks.laidMetH_plain _ _ _ (by kernel_rfl)] at h
  obtain ⟨ps, hv, _, _⟩ := h
  have opens_lim := OpensX.array (n := 13) (s := 2) Tryz.underlying185 (by kernel_rfl) (by kernel_rfl) (OpensX.struct Tryz.underlying156 (by kernel_rfl)
      (OpensXF.cons (s := 1) (by kernel_rfl) rfl (OpensX.int Tryz.underlying3) (OpensXF.cons (s := 1) (by kernel_rfl) rfl (OpensX.int Tryz.underlying3) OpensXF.nil))) (fun _ => rfl)
  obtain ⟨⟨y, ⟨hn, Ds, hD, hA⟩, h1, _⟩, q, hv2⟩ := laid_rd hv (show Tryz.prog.globalNamed "herd/conf.limits" = some 2 by kernel_rfl) (show (Tryz.prog.globals[2]?).map (·.type) = some 185 by kernel_rfl) opens_lim
  unfold Rows.laid_herd_conf_limits at hD
  injection hD with hD
  subst hD
  match y, hn with
  | [y0, y1, y2, y3, y4, y5, y6, y7, y8, y9, y10, y11, y12], _ =>
    obtain ⟨p0, hA⟩ := hA.head; obtain ⟨p1, hA⟩ := hA.head; obtain ⟨p2, hA⟩ := hA.head; obtain ⟨p3, hA⟩ := hA.head; obtain ⟨p4, hA⟩ := hA.head; obtain ⟨p5, hA⟩ := hA.head; obtain ⟨p6, hA⟩ := hA.head
    obtain ⟨p7, hA⟩ := hA.head; obtain ⟨p8, hA⟩ := hA.head; obtain ⟨p9, hA⟩ := hA.head; obtain ⟨p10, hA⟩ := hA.head; obtain ⟨p11, hA⟩ := hA.head; obtain ⟨p12, _⟩ := hA.head
    obtain rfl := lim_pair p0; obtain rfl := lim_pair p1; obtain rfl := lim_pair p2; obtain rfl := lim_pair p3; obtain rfl := lim_pair p4; obtain rfl := lim_pair p5; obtain rfl := lim_pair p6
    obtain rfl := lim_pair p7; obtain rfl := lim_pair p8; obtain rfl := lim_pair p9; obtain rfl := lim_pair p10; obtain rfl := lim_pair p11; obtain rfl := lim_pair p12
    have hlim := h1
    clear h1
    have oc := OpensX.array (n := 11) (s := 1) Tryz.underlying153 (by kernel_rfl) (by kernel_rfl) (OpensX.slice Tryz.underlying25 1 (by kernel_rfl) (OpensX.int Tryz.underlying5) (fun _ => rfl)) (fun _ => rfl)
    obtain ⟨⟨z, ⟨hzn, Es, hE, hB⟩, e1, e2⟩, q2, hv3⟩ := laid_rd hv2 (show Tryz.prog.globalNamed "herd/brain.changes" = some 0 by kernel_rfl) (show (Tryz.prog.globals[0]?).map (·.type) = some 153 by kernel_rfl) oc
    have hrow : ∀ i, (h : i < 11) → (z[i]'(by omega)).2 = (legalL.getD i []).map (fun n : Nat => (n : Int)) := fun i h => chrow_of (hB.2 i _ _ (List.getElem?_eq_getElem (by omega)) (chD_at h Es hE)) rfl
    have hz : ∀ i, (h : i < 11) → (z.getD i ((none, 0), [])) = z[i]'(by omega) := fun i h => by rw [List.getD_eq_getElem?_getD, List.getElem?_eq_getElem (by omega)]; rfl
    have hchg : Fact.chg.p (fun _ => False) W := by
      refine ⟨fun i => (z.getD i ((none, 0), [])).1, ?_, fun i hi => ?_⟩
      · have e : z.flatMap (fun z => [Value.slice z.1.1 z.2.length z.1.2]) = chgV fun i => (z.getD i ((none, 0), [])).1 := by
          rw [flatMap_one]
          refine List.ext_getElem (by simp [chgV, hzn]) fun i g1 g2 => ?_
          have hi : i < 11 := by simpa [chgV] using g2
          simp only [chgV, List.getElem_map, List.getElem_range]
          rw [hz i hi]
          have hlen : (z[i]'(by omega)).2.length = (legalL.getD i []).length := by rw [hrow i hi, List.length_map]
          exact congrArg (fun n => Value.slice (z[i]'(by omega)).1.1 n (z[i]'(by omega)).1.2) hlen
        rw [← e]; exact e1
      · have := e2 (.rd (z[i]'(by omega)).1.1 ((z[i]'(by omega)).2.flatMap fun n => [Value.int .u8 n])) (List.mem_flatMap.2 ⟨z[i]'(by omega), List.getElem_mem _, List.mem_cons_self ..⟩)
        show (Fact.rd (z.getD i ((none, 0), [])).1.1 (u8V (legalL.getD i []))).p (fun _ => False) W
        rw [hz i hi]
        rw [hrow i hi, flatMap_one, List.map_map] at this
        exact this
    have om := OpensX.array (n := 17) (s := 1) Tryz.underlying167 (by kernel_rfl) (by kernel_rfl) (OpensX.slice Tryz.underlying23 1 (by kernel_rfl) (OpensX.int Tryz.underlying3) (fun _ => rfl)) (fun _ => rfl)
    obtain ⟨⟨y, ⟨hn, Ds, hD, hA⟩, h1, h2⟩, _⟩ := laid_rd hv3 (show Tryz.prog.globalNamed "herd/record.many" = some 1 by kernel_rfl) (show (Tryz.prog.globals[1]?).map (·.type) = some 167 by kernel_rfl) om
    suffices hmany : ∃ mm, (Fact.many mm).p (fun _ => False) W from hmany.elim fun mm hm => ⟨mm, hm, hlim, hchg⟩
    have hd : ∀ i, 1 ≤ i → (h : i < 17) → (y[i]'(by omega)).2 = [(((bndAt i).1 : Nat) : Int), (((bndAt i).2 : Nat) : Int)] := fun i hi h => pair_of (hA.2 i _ _ (List.getElem?_eq_getElem (by omega)) (manyD_at hi h Ds hD))
    have h0 : y[0]'(by omega) = ((none, 0), []) := by
      have hD0 : Ds[0]? = some .nil := by
        unfold Rows.laid_herd_record_many at hD
        injection hD with hD
        subst hD; rfl
      rcases hA.2 0 _ _ (List.getElem?_eq_getElem (by omega)) hD0 with ⟨_, h⟩ | ⟨_, _, h, _⟩
      · exact h
      · cases h
    have hy : ∀ i, (h : i < 17) → (y.getD i ((none, 0), [])) = y[i]'(by omega) := fun i h => by rw [List.getD_eq_getElem?_getD, List.getElem?_eq_getElem (by omega)]; rfl
    refine ⟨fun i => (y.getD i ((none, 0), [])).1, ?_, fun i hi hi2 => ?_⟩
    · have e : y.flatMap (fun z => [Value.slice z.1.1 z.2.length z.1.2]) = manyV fun i => (y.getD i ((none, 0), [])).1 := by
        rw [flatMap_one]
        refine List.ext_getElem (by simp [manyV, hn]) fun i g1 g2 => ?_
        have hi : i < 17 := by simp [manyV] at g2; exact g2
        simp only [manyV, List.getElem_map, List.getElem_range]
        split
        · rename_i e; subst e; rw [h0]; rfl
        · rw [hy i hi, hd i (by omega) hi]; rfl
      rw [← e]; exact h1
    · have := h2 (.rd (y[i]'(by omega)).1.1 ((y[i]'(by omega)).2.flatMap fun n => [Value.int .i64 n])) (List.mem_flatMap.2 ⟨y[i]'(by omega), List.getElem_mem _, List.mem_cons_self ..⟩)
      show (Fact.rd (y.getD i ((none, 0), [])).1.1 (bndV i)).p (fun _ => False) W
      rw [hy i hi2]
      rw [hd i hi hi2] at this
      exact this
theorem opens_recsC : Opens Tryz.prog 22 (fun z : AdC × Rcs => [.slice z.1.1 z.2.length z.1.2]) (fun z => [.rd z.1.1 (rcsV z.2), .rcs z.2]) (fun z => z.2.length ≤ z.1.2 ∧ ∀ w ∈ z.2, w.2.l.length ≤ w.1.2) :=
 (Opens.slice Tryz.underlying22 2 (by kernel_rfl) opens_rec (fun _ => rfl)).map id (fun _ _ => rfl) (fun d w _ h ψ hψ => by
  simp only [List.mem_cons, List.not_mem_nil, or_false] at hψ
  rcases hψ with rfl | rfl
  · exact h _ (List.mem_cons_self ..)
  · intro z hz
    exact h _ (List.mem_cons_of_mem _ (List.mem_flatMap.2 ⟨z, hz, List.mem_cons_self ..⟩))) (fun _ h => ⟨h.2.1, h.2.2⟩)
theorem open_recsCC {H : Type} {enc : TypeId × Value → H} {w : World} {r : Reach} {b0 : Nat} {v : Value} {y : DataW H} {p : List MemPlace} (hv : Value.okWide Tryz.prog w r b0 22 v) (h : DataW.Trod enc Tryz.prog w 0 (fun _ => true) true 22 v y p) :
 ∃ (x : AdC) (l : Rcs), v = .slice x.1 l.length x.2 ∧ (Fact.rd x.1 (rcsV l)).p (fun _ => False) w ∧ (Fact.rcs l).p (fun _ => False) w ∧ l.length ≤ x.2 ∧ ∀ z ∈ l, z.2.l.length ≤ z.1.2 := by
 obtain ⟨⟨x, l⟩, h1, h2, h3, h4⟩ := open_slice' Tryz.underlying22 opens_recsC hv h
 exact ⟨x, l, (List.cons.inj h1).1, h2 _ (List.mem_cons_self ..), h2 _ (List.mem_cons_of_mem _ (List.mem_cons_self ..)), h3, h4⟩
end Go.Proofs.YtakbgccddokbbaaGreatDoor
