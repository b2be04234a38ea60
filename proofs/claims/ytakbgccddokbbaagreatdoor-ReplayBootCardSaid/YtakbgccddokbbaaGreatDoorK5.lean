import Derived.OpenShut
import Derived.ChangeSlices
import Derived.ChangeSame
import Derived.Below
import Derived.Deep.Slices
import Derived.Lib.SmallJoins
import Derived.LaidMore
import Derived.Stop.Joined
import Derived.MakeChecks
import Derived.Maps.StringElems
import Derived.Maps.OwnSet
import Derived.Test.YtakbgccddokbbaaGreatDoorRows
import Derived.Test.YtakbgccddokbbaaGreatDoorK4
set_option linter.unusedVariables false
namespace Go.Proofs.YtakbgccddokbbaaGreatDoor
open Go.RowKit
attribute [local irreducible] Res.blk Res.row Fact.rd
theorem kins_ct (K : Option Addr) (cK : Nat) (l : List Kp) (i gv : Nat) (x : Kp) (hi : i ≤ l.length) (hn : l.length ≤ 1000000) : Ct Tryz.prog 141 [.slice K l.length cK, .int .i64 (i : Int), .slice (some ⟨gv, 0, none⟩) 1 1] [.row 72 8 (.slice K l.length cK) l.length (kpsV l), .blk gv 72 (kpsV [x])] []
 (fun p : Option Addr × Nat => .slice p.1 (insL l i x).length p.2) (fun p => [.row 72 8 (.slice p.1 (insL l i x).length p.2) (insL l i x).length (kpsV (insL l i x))]) (fun _ => []) := by
 have e : insL l i x = l.take i ++ x :: l.drop i := by simp [insL]
 rw [insL_len x hi, e]
 exact kinsert_ct K cK l i gv x hi hn
theorem kdel_ct (K : Option Addr) (cK : Nat) (l : List Kp) (i : Nat) (hi : i < l.length) (hn : l.length ≤ 1000000) : Ct Tryz.prog 92 [.slice K l.length cK, .int .i64 (i : Int), .int .i64 ((i + 1 : Nat) : Int)] [.row 72 8 (.slice K l.length cK) l.length (kpsV l)] []
 (fun _ : Unit => .slice K (l.take i ++ l.drop (i + 1)).length cK) (fun _ => [.row 72 8 (.slice K (l.take i ++ l.drop (i + 1)).length cK) (l.take i ++ l.drop (i + 1)).length (kpsV (l.take i ++ l.drop (i + 1)))]) (fun _ => []) := by
 rw [show (l.take i ++ l.drop (i + 1)).length = l.length - 1 by simp; omega]
 exact kdelete_ct K cK l i hi hn
theorem tdel_ct (K : Option Addr) (cK : Nat) (l : List It1) (i : Nat) (hi : i < l.length) (hn : l.length ≤ 1000000) : Ct Tryz.prog 117 [.slice K l.length cK, .int .i64 (i : Int), .int .i64 ((i + 1 : Nat) : Int)] [.row 70 4 (.slice K l.length cK) l.length (itsV l)] []
 (fun _ : Unit => .slice K (eraL l i).length cK) (fun _ => [.row 70 4 (.slice K (eraL l i).length cK) (eraL l i).length (itsV (eraL l i))]) (fun _ => []) := by
 rw [eraL_len hi]
 exact tdelete_ct K cK l i hi hn
theorem keep1_ct (x y : Kp) (bd : Nat) : Ct Tryz.prog 140 [y.v, .pointer (some ⟨bd, 0, none⟩)] [.blk bd 72 x.cs] [] (fun _ : Unit => .bool (decide (x.id < y.id))) (fun _ => [.blk bd 72 x.cs]) (fun _ => []) := by
 refine Ct.of _ Tryz.func140 Tryz.ntmps140 rfl rfl (fun X W => ?_)
 refine Jc.qs<|Jc.qr ?_
 refine Jl.box rfl (by rfl) ?_
 intro b2
 refine Jl.pv (PR.qa rfl)<|Jl.qn<|Jq.qt<|Jc.qs<|Jc.qr<|Jl.pv (PR.qf rfl tfl72_0) ?_
 refine Jl.pv (PR.load1 rfl tsh3 zH (by rfl)) ?_
 refine Jl.pv (PR.qf rfl tfl72_0) ?_
 refine Jl.pv (PR.load1 rfl tsh3 zH (by rfl)) ?_
 refine Jl.pv (PR.gtr _ rfl rfl rfl) ?_
 refine Jl.pv (PR.qa rfl)<|Jl.qn<|Jq.qt<|Jc.ret ?_
 exact Jq.fin () (.inl rfl) rfl (RetVs.tmp rfl RetVs.nil) rfl zT zF
 -- hint not used: one
theorem insAt_none {l : List Kp} {id : Int} (h : l.findIdx? (fun k => decide (id < k.id)) = none) : insAt l id = l.length := List.findIdx?_eq_none_iff_findIdx_eq.1 h
theorem insAt_some {l : List Kp} {id : Int} {i : Nat} (h : l.findIdx? (fun k => decide (id < k.id)) = some i) : insAt l id = i ∧ i ≤ l.length := by
 obtain ⟨h1, h2⟩ := List.findIdx?_eq_some_iff_findIdx_eq.1 h
 exact ⟨h2, Nat.le_of_lt h1⟩
theorem bkeep_ct (b : Br) (z : BrA) (bb : Nat) (x : Kp) (hm : b.kps.length ≤ 900000) : Ct Tryz.prog 118 [ptr bb, x.v] (b.st bb z) [] (fun _ : BrA => .tuple #[]) (fun z' => ({ b with kps := insL b.kps (insAt b.kps x.id) x } : Br).st bb z') (fun _ => []) := by
  obtain ⟨⟨M, cM⟩, ⟨I, cI⟩, ⟨K, cK⟩⟩ := z
  cases hf : b.kps.findIdx? (fun k => decide (x.id < k.id)) with
  | none =>
    rw [insAt_none hf]
    refine Ct.of _ Tryz.func118 Tryz.ntmps118 rfl rfl (fun X W => ?_)
    refine Jc.qs<|Jc.qr ?_
    refine Jl.box rfl (by rfl) ?_
    intro b3
    refine Jl.qn<|Jq.qt<|Jc.qs<|Jc.qr<|Jl.pv (PR.qm rfl)<|Jl.pv (PR.nilCheck rfl)<|Jl.pv (PR.qf rfl tfl38_5) ?_
    refine Jl.pv (PR.load1 rfl tsh34 zH (by rfl)) ?_
    refine Jl.pv (PR.makeFunc rfl rfl) ?_
    refine Jl.calll (fs := []) (cs := []) (kidx_ct K cK b.kps (fun k => decide (x.id < k.id)) 140 b3 72 x.cs (fun y => keep1_ct x y b3) en140 (by omega)) en138 rfl (by rfl) (by rfl) zT (ls := [b.rK ((M, cM), (I, cI), (K, cK))]) zT zL zF ?_
    rintro ⟨⟩
    refine Jl.as (.int .i64 (-1)) (by rw [hf]; rfl) ?_
    refine Jl.pv (PR.qa rfl)<|Jl.qn<|Jq.qt<|Jc.qs<|Jc.qs<|Jc.qr<|Jl.pv (PR.qm rfl) ?_
    refine Jl.pv (PR.lss true rfl rfl (by decide)) ?_
    refine Jl.qn<|Jq.qt<|Jc.condT rfl<|Jc.qr<|Jl.pv (PR.qm rfl)<|Jl.pv (PR.nilCheck rfl)<|Jl.pv (PR.qf rfl tfl38_5) ?_
    refine Jl.pv (PR.load1 rfl tsh34 zH (by rfl)) ?_
    refine Jl.pv (PR.len rfl tsl34) ?_
    refine Jl.pv (PR.qa rfl)<|Jl.qn<|Jq.qt ?_
    refine Jc.drawn [0, 0, 2, 6, 14, 0, 0, 64, 254, 511, 1023, 2047] ([], []) [⟨[(0, false), (1, false), (2, false), (3, false), (4, false), (5, false), (6, false), (7, true)], [7], 8⟩, ⟨[(9, false), (10, false)], [], 11⟩] tmx (by kernel_rfl) ?_
    refine Dh.JH.cons<|Dh.JB.pv rfl trivial (fun _ => PR.qm rfl)<|Dh.JB.pv rfl trivial (fun _ => PR.qm rfl) ?_
    refine Dh.JB.pv rfl trivial (fun _ => PR.nilCheck rfl) ?_
    refine Dh.JB.pv rfl trivial (fun _ => PR.qf rfl tfl38_5) ?_
    refine Dh.JB.rd [.blk _ _ _] rfl trivial zT (fun _ => PR.load1 rfl tsh34 Has.here (by rfl)) ?_
    refine Dh.JB.pv rfl trivial (fun _ => PR.qm rfl) ?_
    refine Dh.JB.rd [.blk _ _ _] rfl trivial zT (fun _ => PR.loadW rfl tsh72 Has.here (by rfl)) ?_
    refine Dh.JB.buildSlice rfl trivial (by rfl) tsl34 tzr34_1 (by rfl) (by rfl) ?_
    refine Dh.JB.nil ?_
    refine Dh.JL.sl rfl (by repeat (first | exact Dh.es_here | apply Dh.es_there)) (fun b25 => ?_)
    refine Dh.JL.nil ?_
    refine Dh.JE.mk rfl (fun _ h => by cases h) (fun C4_8 => ?_)
    refine Jl.call (kins_ct K cK b.kps b.kps.length b25 x (Nat.le_refl _) (by omega)) en141 (by rfl) zT zF ?_
    rintro ⟨A26, c26⟩
    refine Jl.qn ?_
    refine Dh.Jq.segV zX ?_ zK
    refine Dh.JH.cons ?_
    refine Dh.JB.pv rfl trivial (fun _ => PR.nilCheck rfl) ?_
    refine Dh.JB.pv rfl trivial (fun _ => PR.qf rfl tfl38_5)<|Dh.JB.nil<|Dh.JL.nil ?_
    refine Dh.JE.mk rfl (fun _ h => by cases h) (fun C4_11 => ?_)
    refine Jl.store1 rfl tsh34 rfl (by rfl) zS (by rfl) ?_
    refine Jl.qn ?_
    refine Dh.Jq.segN zX ?_ zK
    refine Dh.JH.nil ?_
    refine Dh.JB.nil<|Dh.JL.nil ?_
    exact Jq.fin ((M, cM), (I, cI), (A26, c26)) (.inr rfl) rfl RetVs.nil rfl zT zF
    -- hint not used: one
  | some i =>
    obtain ⟨e, hi⟩ := insAt_some hf
    rw [e]
    refine Ct.of _ Tryz.func118 Tryz.ntmps118 rfl rfl (fun X W => ?_)
    refine Jc.qs<|Jc.qr ?_
    refine Jl.box rfl (by rfl) ?_
    intro b3
    refine Jl.qn<|Jq.qt<|Jc.qs<|Jc.qr<|Jl.pv (PR.qm rfl)<|Jl.pv (PR.nilCheck rfl)<|Jl.pv (PR.qf rfl tfl38_5) ?_
    refine Jl.pv (PR.load1 rfl tsh34 zH (by rfl)) ?_
    refine Jl.pv (PR.makeFunc rfl rfl) ?_
    refine Jl.calll (fs := []) (cs := []) (kidx_ct K cK b.kps (fun k => decide (x.id < k.id)) 140 b3 72 x.cs (fun y => keep1_ct x y b3) en140 (by omega)) en138 rfl (by rfl) (by rfl) zT (ls := [b.rK ((M, cM), (I, cI), (K, cK))]) zT zL zF ?_
    rintro ⟨⟩
    refine Jl.as (.int .i64 (i : Int)) (by rw [hf]; rfl) ?_
    refine Jl.pv (PR.qa rfl)<|Jl.qn<|Jq.qt<|Jc.qs<|Jc.qs<|Jc.qr<|Jl.pv (PR.qm rfl) ?_
    refine Jl.pv (PR.lss false rfl rfl (decide_eq_false (by omega))) ?_
    refine Jl.qn<|Jq.qt<|Jc.condF rfl<|Jc.skip<|Jq.qt ?_
    refine Jc.drawn [0, 0, 2, 6, 14, 0, 0, 64, 254, 511, 1023, 2047] ([], []) [⟨[(0, false), (1, false), (2, false), (3, false), (4, false), (5, false), (6, false), (7, true)], [7], 8⟩, ⟨[(9, false), (10, false)], [], 11⟩] tmx (by kernel_rfl) ?_
    refine Dh.JH.cons<|Dh.JB.pv rfl trivial (fun _ => PR.qm rfl)<|Dh.JB.pv rfl trivial (fun _ => PR.qm rfl) ?_
    refine Dh.JB.pv rfl trivial (fun _ => PR.nilCheck rfl) ?_
    refine Dh.JB.pv rfl trivial (fun _ => PR.qf rfl tfl38_5) ?_
    refine Dh.JB.rd [.blk _ _ _] rfl trivial zT (fun _ => PR.load1 rfl tsh34 Has.here (by rfl)) ?_
    refine Dh.JB.pv rfl trivial (fun _ => PR.qm rfl) ?_
    refine Dh.JB.rd [.blk _ _ _] rfl trivial zT (fun _ => PR.loadW rfl tsh72 Has.here (by rfl)) ?_
    refine Dh.JB.buildSlice rfl trivial (by rfl) tsl34 tzr34_1 (by rfl) (by rfl) ?_
    refine Dh.JB.nil ?_
    refine Dh.JL.sl rfl (by repeat (first | exact Dh.es_here | apply Dh.es_there)) (fun b25 => ?_)
    refine Dh.JL.nil ?_
    refine Dh.JE.mk rfl (fun _ h => by cases h) (fun C4_8 => ?_)
    refine Jl.call (kins_ct K cK b.kps i b25 x hi (by omega)) en141 (by rfl) zT zF ?_
    rintro ⟨A26, c26⟩
    refine Jl.qn ?_
    refine Dh.Jq.segV zX ?_ zK
    refine Dh.JH.cons ?_
    refine Dh.JB.pv rfl trivial (fun _ => PR.nilCheck rfl) ?_
    refine Dh.JB.pv rfl trivial (fun _ => PR.qf rfl tfl38_5)<|Dh.JB.nil<|Dh.JL.nil ?_
    refine Dh.JE.mk rfl (fun _ h => by cases h) (fun C4_11 => ?_)
    refine Jl.store1 rfl tsh34 rfl (by rfl) zS (by rfl) ?_
    refine Jl.qn ?_
    refine Dh.Jq.segN zX ?_ zK
    refine Dh.JH.nil ?_
    refine Dh.JB.nil<|Dh.JL.nil ?_
    exact Jq.fin ((M, cM), (I, cI), (A26, c26)) (.inr rfl) rfl RetVs.nil rfl zT zF
    -- hint not used: one
theorem dgone_ct (b : Br) (z : BrA) (bb : Nat) (L : Option Addr) (cL : Nat) (id : Int) (i : Nat) (hi : i < b.kps.length) (hm : b.kps.length ≤ 900000) : DeedK 91 b bb z L cL [id] i { b with kps := b.kps.take i ++ b.kps.drop (i + 1) } := by
 obtain ⟨⟨M, cM⟩, ⟨I, cI⟩, ⟨K, cK⟩⟩ := z
 refine Ct.of _ Tryz.func91 Tryz.ntmps91 rfl rfl (fun X W => ?_)
 refine Jc.qr<|Jl.pv (PR.qm rfl)<|Jl.pv (PR.qm rfl)<|Jl.pv (PR.nilCheck rfl)<|Jl.pv (PR.qf rfl tfl38_5) ?_
 refine Jl.pv (PR.load1 rfl tsh34 zH (by rfl)) ?_
 refine Jl.pv (PR.qm rfl)<|Jl.pv (PR.qm rfl) ?_
 refine Jl.pv (PR.add ((i + 1 : Nat) : Int) rfl rfl (by rw [w64 (by omega) (by omega)]; omega)) ?_
 refine Jl.call (kdel_ct K cK b.kps i hi (by omega)) en92 (by rfl) zT zF ?_
 rintro ⟨⟩
 refine Jl.pv (PR.nilCheck rfl)<|Jl.pv (PR.qf rfl tfl38_5) ?_
 refine Jl.store1 rfl tsh34 rfl (by rfl) zS (by rfl) ?_
 refine Jl.qn ?_
 exact Jq.fin () (.inr rfl) rfl RetVs.nil rfl zT zF
theorem dboot_ct (b : Br) (z : BrA) (bb : Nat) (L : Option Addr) (cL : Nat) (he : -9223372036854775808 ≤ b.ep) : DeedCt 84 b bb z L cL [] b.boot := by
 obtain ⟨⟨M, cM⟩, ⟨I, cI⟩, ⟨K, cK⟩⟩ := z
 refine Ct.of _ Tryz.func84 Tryz.ntmps84 rfl rfl (fun X W => ?_)
 refine Jc.qs<|Jc.qr<|Jl.pv (PR.qm rfl)<|Jl.pv (PR.nilCheck rfl)<|Jl.pv (PR.qf rfl tfl38_0) ?_
 refine Jl.pv (PR.load1 rfl tsh3 zH (by rfl)) ?_
 refine Jl.pv (PR.lss _ rfl rfl rfl) ?_
 refine Jl.qn<|Jq.qt ?_
 refine Jc.cond rfl (fun h0 => ?_) (fun h0 => ?_)
 · try replace h0 := zV h0
   refine Jc.qr<|Jl.pv (PR.qm rfl)<|Jl.pv (PR.nilCheck rfl)<|Jl.pv (PR.qf rfl tfl38_0) ?_
   refine Jl.pv (PR.load1 rfl tsh3 zH (by rfl)) ?_
   refine Jl.pv (PR.add _ rfl rfl (w64 (by omega) (by omega))) ?_
   refine Jl.pv (PR.nilCheck rfl)<|Jl.pv (PR.qf rfl tfl38_0) ?_
   refine Jl.store1 rfl tsh3 rfl (by rfl) zS (by rfl) ?_
   refine Jl.qn ?_
   rw [show b.boot = { b with ep := b.ep + 1 } from if_pos h0]
   exact Jq.fin () (.inr rfl) rfl RetVs.nil rfl zT zF
 try replace h0 := zW h0
 refine Jc.skip ?_
 rw [show b.boot = b from if_neg h0]
 exact Jq.fin () (.inr rfl) rfl RetVs.nil rfl zT zF
theorem dpause_ct (b : Br) (z : BrA) (bb : Nat) (L : Option Addr) (cL : Nat) (now : Int) : DeedCt 100 b bb z L cL [now] (if b.rf.pa = true then b else { b with rf := { b.rf with pa := true, si := now } }) := by
 obtain ⟨⟨M, cM⟩, ⟨I, cI⟩, ⟨K, cK⟩⟩ := z
 refine Ct.of _ Tryz.func100 Tryz.ntmps100 rfl rfl (fun X W => ?_)
 refine Jc.qs<|Jc.qr<|Jl.pv (PR.qm rfl)<|Jl.pv (PR.nilCheck rfl)<|Jl.pv (PR.qf rfl tfl38_6)<|Jl.pv (PR.qf rfl tfl36_4) ?_
 refine Jl.pv (PR.load1 rfl tsh4 zH (by rfl)) ?_
 refine Jl.pv (PR.not rfl) ?_
 refine Jl.qn<|Jq.qt ?_
 refine Jc.cond rfl (fun h0 => ?_) (fun h0 => ?_)
 · try replace h0 := zV h0
   refine Jc.qr<|Jl.pv (PR.qm rfl)<|Jl.pv (PR.qm rfl)<|Jl.pv (PR.qm rfl) ?_
   refine Jl.pv (PR.idx1 0 rfl rfl tsl23 zM rfl rfl (by simp)) ?_
   refine Jl.pv (PR.loadR rfl tsh3 zM rfl) ?_
   refine Jl.pv (PR.nilCheck rfl)<|Jl.pv (PR.qf rfl tfl38_6)<|Jl.pv (PR.qf rfl tfl36_4) ?_
   refine Jl.store1 rfl tsh4 rfl (by rfl) zS (by rfl) ?_
   refine Jl.pv (PR.nilCheck rfl)<|Jl.pv (PR.qf rfl tfl38_6)<|Jl.pv (PR.qf rfl tfl36_5) ?_
   refine Jl.store1 rfl tsh3 rfl (by rfl) zS (by rfl) ?_
   refine Jl.qn ?_
   rw [if_neg (by simpa using h0)]
   exact Jq.fin () (.inr rfl) rfl RetVs.nil rfl zT zF
 try replace h0 := zW h0
 refine Jc.skip ?_
 rw [if_pos (by simpa using h0)]
 exact Jq.fin () (.inr rfl) rfl RetVs.nil rfl zT zF
theorem ddone_ct (b : Br) (z : BrA) (bb : Nat) (L : Option Addr) (cL : Nat) : DeedCt 102 b bb z L cL [] { b with rf := { b.rf with st := 2, pa := false }, cf := { b.cf with ve := b.rf.ta } } := by
 obtain ⟨⟨M, cM⟩, ⟨I, cI⟩, ⟨K, cK⟩⟩ := z
 refine Ct.of _ Tryz.func102 Tryz.ntmps102 rfl rfl (fun X W => ?_)
 refine Jc.qr<|Jl.pv (PR.qm rfl)<|Jl.pv (PR.qm rfl)<|Jl.pv (PR.qm rfl)<|Jl.pv (PR.qm rfl)<|Jl.pv (PR.nilCheck rfl)<|Jl.pv (PR.qf rfl tfl38_6)<|Jl.pv (PR.qf rfl tfl36_2) ?_
 refine Jl.pv (PR.load1 rfl tsh3 zH (by rfl)) ?_
 refine Jl.pv (PR.nilCheck rfl)<|Jl.pv (PR.qf rfl tfl38_6)<|Jl.pv (PR.qf rfl tfl36_0) ?_
 refine Jl.store1 rfl tsh5 rfl (by rfl) zS (by rfl) ?_
 refine Jl.pv (PR.nilCheck rfl)<|Jl.pv (PR.qf rfl tfl38_6)<|Jl.pv (PR.qf rfl tfl36_4) ?_
 refine Jl.store1 rfl tsh4 rfl (by rfl) zS (by rfl) ?_
 refine Jl.pv (PR.nilCheck rfl)<|Jl.pv (PR.qf rfl tfl38_3)<|Jl.pv (PR.qf rfl tfl32_12) ?_
 refine Jl.store1 rfl tsh3 rfl (by rfl) zS (by rfl) ?_
 refine Jl.qn ?_
 exact Jq.fin () (.inr rfl) rfl RetVs.nil rfl zT zF
theorem dfail_ct (b : Br) (z : BrA) (bb : Nat) (L : Option Addr) (cL : Nat) (n : Int) : DeedCt 97 b bb z L cL [n] (if b.cf.fa ≤ IntKind.i64.wrap (b.rf.fa + 1) then { b with rf := { b.rf with ta := b.rf.fr, fa := 0 } } else { b with rf := { b.rf with fa := IntKind.i64.wrap (b.rf.fa + 1) } }) := by
 obtain ⟨⟨M, cM⟩, ⟨I, cI⟩, ⟨K, cK⟩⟩ := z
 refine Ct.of _ Tryz.func97 Tryz.ntmps97 rfl rfl (fun X W => ?_)
 refine Jc.qs<|Jc.qr<|Jl.pv (PR.qm rfl)<|Jl.pv (PR.nilCheck rfl)<|Jl.pv (PR.qf rfl tfl38_6)<|Jl.pv (PR.qf rfl tfl36_6) ?_
 refine Jl.pv (PR.load1 rfl tsh3 zH (by rfl)) ?_
 refine Jl.pv (PR.add _ rfl rfl rfl) ?_
 refine Jl.pv (PR.nilCheck rfl)<|Jl.pv (PR.qf rfl tfl38_6)<|Jl.pv (PR.qf rfl tfl36_6) ?_
 refine Jl.store1 rfl tsh3 rfl (by rfl) zS (by rfl) ?_
 refine Jl.qn<|Jq.qt<|Jc.qs ?_
 refine Jc.drawn [0, 1, 3, 7, 15, 0, 32, 96, 224, 480, 1023] ([(0, false), (1, false), (2, false), (3, false), (4, false), (5, false), (6, false), (7, false), (8, false), (9, false), (10, false)], []) [] tmx (by kernel_rfl) ?_
 refine Dh.JH.nil ?_
 refine Dh.JB.pv rfl trivial (fun _ => PR.qm rfl) ?_
 refine Dh.JB.pv rfl trivial (fun _ => PR.nilCheck rfl) ?_
 refine Dh.JB.pv rfl trivial (fun _ => PR.qf rfl tfl38_6)<|Dh.JB.pv rfl trivial (fun _ => PR.qf rfl tfl36_6) ?_
 refine Dh.JB.rd [.blk _ _ _] rfl trivial zT (fun _ => PR.load1 rfl tsh3 Has.here (by rfl)) ?_
 refine Dh.JB.pv rfl trivial (fun _ => PR.qm rfl) ?_
 refine Dh.JB.pv rfl trivial (fun _ => PR.nilCheck rfl) ?_
 refine Dh.JB.pv rfl trivial (fun _ => PR.qf rfl tfl38_3)<|Dh.JB.pv rfl trivial (fun _ => PR.qf rfl tfl32_10) ?_
 refine Dh.JB.rd [.blk _ _ _] rfl trivial zT (fun _ => PR.load1 rfl tsh3 Has.here (by rfl)) ?_
 refine Dh.JB.pv rfl trivial (fun _ => PR.geq _ rfl rfl rfl) ?_
 refine Dh.JB.nil<|Dh.JL.nil<|Jq.qt ?_
 refine Jc.cond rfl (fun h0 => ?_) (fun h0 => ?_)
 · try replace h0 := zV h0
   refine Jc.qr<|Jl.pv (PR.qm rfl)<|Jl.pv (PR.qm rfl)<|Jl.pv (PR.qm rfl)<|Jl.pv (PR.nilCheck rfl)<|Jl.pv (PR.qf rfl tfl38_6)<|Jl.pv (PR.qf rfl tfl36_1) ?_
   refine Jl.pv (PR.load1 rfl tsh3 zH (by rfl)) ?_
   refine Jl.pv (PR.nilCheck rfl)<|Jl.pv (PR.qf rfl tfl38_6)<|Jl.pv (PR.qf rfl tfl36_2) ?_
   refine Jl.store1 rfl tsh3 rfl (by rfl) zS (by rfl) ?_
   refine Jl.pv (PR.nilCheck rfl)<|Jl.pv (PR.qf rfl tfl38_6)<|Jl.pv (PR.qf rfl tfl36_6) ?_
   refine Jl.store1 rfl tsh3 rfl (by rfl) zS (by rfl) ?_
   refine Jl.qn ?_
   rw [if_pos h0]
   exact Jq.fin () (.inr rfl) rfl RetVs.nil rfl zT zF
 try replace h0 := zW h0
 refine Jc.skip ?_
 rw [if_neg h0]
 exact Jq.fin () (.inr rfl) rfl RetVs.nil rfl zT zF
end Go.Proofs.YtakbgccddokbbaaGreatDoor
namespace Go.Proofs.YtakbgccddokbbaaGreatDoor
open Go.RowKit
attribute [local irreducible] Res.blk Res.row Fact.rd
theorem intent_no {b : Br} {v z w : Int} (h : b.set = false ∨ v < 1 ∨ 3 < z ∨ 1 < w ∨ 1099511627776 ≤ b.sq) : b.intent v z w = b := by
 rw [Br.intent, if_neg]
 simp only [Bool.and_eq_true, decide_eq_true_eq]
 rintro ⟨⟨a1, a2⟩, a3, a4, a5⟩
 rcases h with h | h | h | h | h
 · rw [h] at a1; cases a1
 · omega
 · omega
 · omega
 · omega
theorem intent_yes {b : Br} {v z w : Int} (h1 : b.set = true) (h2 : ¬ v < 1) (h3 : ¬ 3 < z) (h4 : ¬ 1 < w) (h5 : ¬ 1099511627776 ≤ b.sq) : b.intent v z w = { b with sq := b.sq + 1, its := b.its ++ [⟨b.sq + 1, v, z, decide (w = 1)⟩] } := by
 rw [Br.intent, if_pos]
 simp only [Bool.and_eq_true, decide_eq_true_eq]
 exact ⟨⟨h1, by omega⟩, by omega, by omega, by omega⟩
theorem dintent_ct (b : Br) (z : BrA) (bb : Nat) (L : Option Addr) (cL : Nat) (v zo w : Int) (hq : -9223372036854775808 ≤ b.sq) (h1 : b.its.length ≤ 900000) : Ct Tryz.prog 85 [ptr bb, .slice L [v, zo, w].length cL] (b.st bb z) [.rd L (i64s [v, zo, w])] (fun _ : BrA => .tuple #[]) (fun z' => (b.intent v zo w).st bb z') (fun _ => []) := by
 obtain ⟨⟨M, cM⟩, ⟨I, cI⟩, ⟨K, cK⟩⟩ := z
 refine Ct.of _ Tryz.func85 Tryz.ntmps85 rfl rfl (fun X W => ?_)
 refine Jc.qs<|Jc.qs<|Jc.qr<|Jl.pv (PR.qm rfl)<|Jl.pv (PR.nilCheck rfl)<|Jl.pv (PR.qf rfl tfl38_2) ?_
 refine Jl.pv (PR.load1 rfl tsh4 zH (by rfl)) ?_
 refine Jl.pv (PR.not rfl) ?_
 refine Jl.pv (PR.qm rfl) ?_
 refine Jl.bsplit (fun g9 => ?_) (fun g9 => ?_)
 · try replace g9 := zV g9
   refine Jl.qo rfl rfl rfl<|Jl.qo rfl rfl rfl<|Jl.qo rfl rfl rfl<|Jl.qo rfl rfl rfl<|Jl.pv (PR.pickT rfl rfl)<|Jl.pv (PR.qm rfl)<|Jl.qo rfl rfl rfl<|Jl.qo rfl rfl rfl<|Jl.qo rfl rfl rfl<|Jl.qo rfl rfl rfl<|Jl.pv (PR.pickT rfl rfl)<|Jl.pv (PR.qm rfl)<|Jl.qo rfl rfl rfl<|Jl.qo rfl rfl rfl<|Jl.qo rfl rfl rfl<|Jl.qo rfl rfl rfl<|Jl.pv (PR.pickT rfl rfl)<|Jl.pv (PR.qm rfl)<|Jl.qo rfl rfl rfl<|Jl.qo rfl rfl rfl<|Jl.qo rfl rfl rfl<|Jl.qo rfl rfl rfl<|Jl.qo rfl rfl rfl<|Jl.pv (PR.pickT rfl rfl)<|Jl.qn<|Jq.qt<|Jc.condT rfl<|Jc.ret<|Jq.thenR ?_
   rw [intent_no (.inl (by simpa using g9))]
   exact Jq.fin ((M, cM), (I, cI), (K, cK)) (.inl rfl) rfl RetVs.nil rfl zT zF
 try replace g9 := zW g9
 refine Jl.on rfl rfl<|Jl.pv (PR.qm rfl)<|Jl.on rfl rfl ?_
 refine Jl.pv (PR.idx1 0 rfl rfl tsl23 zM rfl rfl (by simp)) ?_
 refine Jl.on rfl rfl ?_
 refine Jl.pv (PR.loadR rfl tsh3 zM rfl) ?_
 refine Jl.on rfl rfl ?_
 refine Jl.pv (PR.lss _ rfl rfl rfl) ?_
 refine Jl.pv (PR.pickF rfl rfl)<|Jl.pv (PR.qm rfl) ?_
 refine Jl.bsplit (fun g15 => ?_) (fun g15 => ?_)
 · try replace g15 := zV g15
   refine Jl.qo rfl rfl rfl<|Jl.qo rfl rfl rfl<|Jl.qo rfl rfl rfl<|Jl.qo rfl rfl rfl<|Jl.pv (PR.pickT rfl rfl)<|Jl.pv (PR.qm rfl)<|Jl.qo rfl rfl rfl<|Jl.qo rfl rfl rfl<|Jl.qo rfl rfl rfl<|Jl.qo rfl rfl rfl<|Jl.pv (PR.pickT rfl rfl)<|Jl.pv (PR.qm rfl)<|Jl.qo rfl rfl rfl<|Jl.qo rfl rfl rfl<|Jl.qo rfl rfl rfl<|Jl.qo rfl rfl rfl<|Jl.qo rfl rfl rfl<|Jl.pv (PR.pickT rfl rfl)<|Jl.qn<|Jq.qt<|Jc.condT rfl<|Jc.ret<|Jq.thenR ?_
   rw [intent_no (.inr (.inl (by simpa using g15)))]
   exact Jq.fin ((M, cM), (I, cI), (K, cK)) (.inl rfl) rfl RetVs.nil rfl zT zF
 try replace g15 := zW g15
 refine Jl.on rfl rfl<|Jl.pv (PR.qm rfl)<|Jl.on rfl rfl ?_
 refine Jl.pv (PR.idx1 1 rfl rfl tsl23 zM rfl rfl (by simp)) ?_
 refine Jl.on rfl rfl ?_
 refine Jl.pv (PR.loadR rfl tsh3 zM rfl) ?_
 refine Jl.on rfl rfl ?_
 refine Jl.pv (PR.gtr _ rfl rfl rfl) ?_
 refine Jl.pv (PR.pickF rfl rfl)<|Jl.pv (PR.qm rfl) ?_
 refine Jl.bsplit (fun g21 => ?_) (fun g21 => ?_)
 · try replace g21 := zV g21
   refine Jl.qo rfl rfl rfl<|Jl.qo rfl rfl rfl<|Jl.qo rfl rfl rfl<|Jl.qo rfl rfl rfl<|Jl.pv (PR.pickT rfl rfl)<|Jl.pv (PR.qm rfl)<|Jl.qo rfl rfl rfl<|Jl.qo rfl rfl rfl<|Jl.qo rfl rfl rfl<|Jl.qo rfl rfl rfl<|Jl.qo rfl rfl rfl<|Jl.pv (PR.pickT rfl rfl)<|Jl.qn<|Jq.qt<|Jc.condT rfl<|Jc.ret<|Jq.thenR ?_
   rw [intent_no (.inr (.inr (.inl (by simpa using g21))))]
   exact Jq.fin ((M, cM), (I, cI), (K, cK)) (.inl rfl) rfl RetVs.nil rfl zT zF
 try replace g21 := zW g21
 refine Jl.on rfl rfl<|Jl.pv (PR.qm rfl)<|Jl.on rfl rfl ?_
 refine Jl.pv (PR.idx1 2 rfl rfl tsl23 zM rfl rfl (by simp)) ?_
 refine Jl.on rfl rfl ?_
 refine Jl.pv (PR.loadR rfl tsh3 zM rfl) ?_
 refine Jl.on rfl rfl ?_
 refine Jl.pv (PR.gtr _ rfl rfl rfl) ?_
 refine Jl.pv (PR.pickF rfl rfl)<|Jl.pv (PR.qm rfl) ?_
 refine Jl.bsplit (fun g27 => ?_) (fun g27 => ?_)
 · try replace g27 := zV g27
   refine Jl.qo rfl rfl rfl<|Jl.qo rfl rfl rfl<|Jl.qo rfl rfl rfl<|Jl.qo rfl rfl rfl<|Jl.qo rfl rfl rfl<|Jl.pv (PR.pickT rfl rfl)<|Jl.qn<|Jq.qt<|Jc.condT rfl<|Jc.ret<|Jq.thenR ?_
   rw [intent_no (.inr (.inr (.inr (.inl (by simpa using g27)))))]
   exact Jq.fin ((M, cM), (I, cI), (K, cK)) (.inl rfl) rfl RetVs.nil rfl zT zF
 try replace g27 := zW g27
 refine Jl.on rfl rfl<|Jl.pv (PR.qm rfl)<|Jl.on rfl rfl<|Jl.pv (PR.nilCheck rfl)<|Jl.on rfl rfl<|Jl.pv (PR.qf rfl tfl38_1)<|Jl.on rfl rfl ?_
 refine Jl.pv (PR.load1 rfl tsh3 zH (by rfl)) ?_
 refine Jl.on rfl rfl ?_
 refine Jl.pv (PR.geq _ rfl rfl rfl) ?_
 refine Jl.pv (PR.pickF rfl rfl)<|Jl.qn<|Jq.qt ?_
 refine Jc.cond rfl (fun h0 => ?_) (fun h0 => ?_)
 · try replace h0 := zV h0
   refine Jc.ret<|Jq.thenR ?_
   rw [intent_no (.inr (.inr (.inr (.inr h0))))]
   exact Jq.fin ((M, cM), (I, cI), (K, cK)) (.inl rfl) rfl RetVs.nil rfl zT zF
 try replace h0 := zW h0
 have h9 : b.set = true := by simpa using g9
 refine Jc.skip<|Jq.qt<|Jc.qs<|Jc.qr<|Jl.pv (PR.qm rfl)<|Jl.pv (PR.nilCheck rfl)<|Jl.pv (PR.qf rfl tfl38_1) ?_
 refine Jl.pv (PR.load1 rfl tsh3 zH (by rfl)) ?_
 refine Jl.pv (PR.add _ rfl rfl (w64 (by omega) (by omega))) ?_
 refine Jl.pv (PR.nilCheck rfl)<|Jl.pv (PR.qf rfl tfl38_1) ?_
 refine Jl.store1 rfl tsh3 rfl (by rfl) zS (by rfl) ?_
 refine Jl.qn<|Jq.qt ?_
 refine Jc.drawn [0, 0, 2, 6, 14, 0, 32, 96, 224, 0, 512, 1536, 0, 4096, 12288, 0, 32768, 98304, 229376, 524256, 1048544, 2097150, 4194303, 8388607, 16777215] ([], []) [⟨[(0, false), (1, false), (2, false), (3, false), (4, false), (5, false), (6, false), (7, false), (8, false), (9, false), (10, false), (11, false), (12, false), (13, false), (14, false), (15, false), (16, false), (17, false), (18, false), (19, false), (20, true)], [20], 21⟩, ⟨[(22, false), (23, false)], [], 24⟩] tmx (by kernel_rfl) ?_
 refine Dh.JH.cons<|Dh.JB.pv rfl trivial (fun _ => PR.qm rfl)<|Dh.JB.pv rfl trivial (fun _ => PR.qm rfl) ?_
 refine Dh.JB.pv rfl trivial (fun _ => PR.nilCheck rfl) ?_
 refine Dh.JB.pv rfl trivial (fun _ => PR.qf rfl tfl38_4) ?_
 refine Dh.JB.rd [.blk _ _ _] rfl trivial zT (fun _ => PR.load1 rfl tsh33 Has.here (by rfl)) ?_
 refine Dh.JB.pv rfl trivial (fun _ => PR.qm rfl) ?_
 refine Dh.JB.pv rfl trivial (fun _ => PR.nilCheck rfl) ?_
 refine Dh.JB.pv rfl trivial (fun _ => PR.qf rfl tfl38_1) ?_
 refine Dh.JB.rd [.blk _ _ _] rfl trivial zT (fun _ => PR.load1 rfl tsh3 Has.here (by rfl)) ?_
 refine Dh.JB.pv rfl trivial (fun _ => PR.qm rfl) ?_
 refine Dh.JB.pv rfl trivial (fun _ => PR.idx1 0 rfl rfl tsl23 zM rfl rfl (by simp)) ?_
 refine Dh.JB.pv rfl trivial (fun _ => PR.loadR rfl tsh3 zM rfl) ?_
 refine Dh.JB.pv rfl trivial (fun _ => PR.qm rfl) ?_
 refine Dh.JB.pv rfl trivial (fun _ => PR.idx1 1 rfl rfl tsl23 zM rfl rfl (by simp)) ?_
 refine Dh.JB.pv rfl trivial (fun _ => PR.loadR rfl tsh3 zM rfl) ?_
 refine Dh.JB.pv rfl trivial (fun _ => PR.qm rfl) ?_
 refine Dh.JB.pv rfl trivial (fun _ => PR.idx1 2 rfl rfl tsl23 zM rfl rfl (by simp)) ?_
 refine Dh.JB.pv rfl trivial (fun _ => PR.loadR rfl tsh3 zM rfl) ?_
 refine Dh.JB.pv rfl trivial (fun _ => PR.eql _ rfl rfl rfl) ?_
 refine Dh.JB.pv rfl trivial (fun _ => PR.build (by rfl) tze70 tpl70_0_1_2_3 (by rfl)) ?_
 refine Dh.JB.buildSlice rfl trivial (by rfl) tsl33 tzr33_1 (by rfl) (by rfl) ?_
 refine Dh.JB.nil ?_
 refine Dh.JL.sl rfl (by repeat (first | exact Dh.es_here | apply Dh.es_there)) (fun b61 => ?_)
 refine Dh.JL.nil ?_
 refine Dh.JE.mk rfl (fun _ h => by cases h) (fun C2_21 => ?_)
 refine Jl.seal zD ?_
 refine Jl.append (b.its ++ [(⟨b.sq + 1, v, zo, decide (w = 1)⟩ : It1)]).length (itsV (b.its ++ [⟨b.sq + 1, v, zo, decide (w = 1)⟩])) rfl rfl rfl tsl33 tze70 (by rfl) (by decide) tby70 (fun _ _ => zS) zM (by simp) (by rw [itsV_app]) rfl (its_one [⟨b.sq + 1, v, zo, decide (w = 1)⟩]) (by omega) (by decide) ?_
 intro A62 c62
 refine Jl.qn ?_
 refine Dh.Jq.segV zX ?_ zK
 refine Dh.JH.cons ?_
 refine Dh.JB.pv rfl trivial (fun _ => PR.nilCheck rfl) ?_
 refine Dh.JB.pv rfl trivial (fun _ => PR.qf rfl tfl38_4)<|Dh.JB.nil<|Dh.JL.nil ?_
 refine Dh.JE.mk rfl (fun _ h => by cases h) (fun C2_24 => ?_)
 refine Jl.store1 rfl tsh33 rfl (by rfl) zS (by rfl) ?_
 refine Jl.qn ?_
 refine Dh.Jq.segN zX ?_ zK
 refine Dh.JH.nil ?_
 refine Dh.JB.nil<|Dh.JL.nil ?_
 rw [intent_yes h9 (by simpa using g15) (by simpa using g21) (by simpa using g27) h0]
 exact Jq.fin ((M, cM), (A62, c62), (K, cK)) (.inr rfl) rfl RetVs.nil rfl zT zF
 -- hint not used: one
theorem take1_no {b : Br} {id t v z now : Int} (h : id < 1 ∨ (b.findK id).isSome = true) : b.take1 id t v z now = b := by
 rw [Br.take1, if_neg]
 simp only [Bool.and_eq_true, decide_eq_true_eq]
 rintro ⟨a1, a2⟩
 rcases h with h | h
 · omega
 · rw [Option.isNone_iff_eq_none] at a2; rw [a2] at h; cases h
theorem take1_yes {b : Br} {id t v z now : Int} (h1 : 1 ≤ id) (h : b.findK id = none) : b.take1 id t v z now = { b with kps := insL b.kps (insAt b.kps id) ⟨id, t, v, z, 8, now, false, false⟩ } := by
 rw [Br.take1, if_pos]
 simp [h, h1]
theorem dtake_ct (b : Br) (z : BrA) (bb : Nat) (L : Option Addr) (cL : Nat) (id t v zo now : Int) (hm : b.kps.length ≤ 900000) : Ct Tryz.prog 87 [ptr bb, .slice L [id, t, v, zo, now].length cL] (b.st bb z) [.rd L (i64s [id, t, v, zo, now])] (fun _ : BrA => .tuple #[]) (fun z' => (b.take1 id t v zo now).st bb z') (fun _ => []) := by
  obtain ⟨⟨M, cM⟩, ⟨I, cI⟩, ⟨K, cK⟩⟩ := z
  by_cases hid : 1 ≤ id
  · cases hf : b.findK id with
    | none =>
      rw [take1_yes hid hf]
      refine Ct.of _ Tryz.func87 Tryz.ntmps87 rfl rfl (fun X W => ?_)
      refine Jc.qs ?_
      refine Jc.drawn [0, 1, 3, 7, 15, 31, 63, 127, 31, 287, 799, 2047, 4095, 8191] ([(12, false), (13, false)], []) [⟨[(0, false), (1, false), (2, false), (3, false), (4, false), (5, false), (6, false), (7, false), (8, false), (9, false), (10, false)], [], 11⟩] tmx (by kernel_rfl) ?_
      refine Dh.JH.cons<|Dh.JB.pv rfl trivial (fun _ => PR.qm rfl) ?_
      refine Dh.JB.pv rfl trivial (fun _ => PR.idx1 0 rfl rfl tsl23 zM rfl rfl (by simp)) ?_
      refine Dh.JB.pv rfl trivial (fun _ => PR.loadR rfl tsh3 zM rfl) ?_
      refine Dh.JB.pv rfl trivial (fun _ => PR.geq true rfl rfl (decide_eq_true hid)) ?_
      refine Dh.JB.pv rfl trivial (fun _ => PR.qm rfl) ?_
      refine Dh.JB.pv rfl ⟨_, rfl, rfl⟩ (fun _ => PR.qm rfl) ?_
      refine Dh.JB.pv rfl ⟨_, rfl, rfl⟩ (fun _ => PR.nilCheck rfl) ?_
      refine Dh.JB.rd [.blk _ _ _] rfl ⟨_, rfl, rfl⟩ zT (fun _ => PR.loadA rfl tsh38 Has.here (by rfl)) ?_
      refine Dh.JB.pv rfl ⟨_, rfl, rfl⟩ (fun _ => PR.qm rfl) ?_
      refine Dh.JB.pv rfl ⟨_, rfl, rfl⟩ (fun _ => PR.idx1 0 rfl rfl tsl23 zM rfl rfl (by simp)) ?_
      refine Dh.JB.pv rfl ⟨_, rfl, rfl⟩ (fun _ => PR.loadR rfl tsh3 zM rfl) ?_
      refine Dh.JB.nil<|Dh.JL.nil ?_
      refine Dh.JE.mk rfl (fun _ h => by cases h) (fun C0_11 => ?_)
      refine Jl.on rfl rfl ?_
      refine Jl.calll (fs := []) (cs := []) (bfind_ct b ((M, cM), (I, cI), (K, cK)) id (by omega)) en116 rfl (by rfl) (by rfl) zT (ls := [b.rM ((M, cM), (I, cI), (K, cK)), b.rI ((M, cM), (I, cI), (K, cK)), b.rK ((M, cM), (I, cI), (K, cK))]) zT zL zF ?_
      rintro ⟨⟩
      refine Jl.as (.int .i64 (-1)) (by rw [hf]; rfl) ?_
      refine Jl.qn ?_
      refine Dh.Jq.segV zX ?_ zK
      refine Dh.JH.nil ?_
      refine Dh.JB.pv rfl ⟨_, rfl, rfl⟩ (fun _ => PR.lss true rfl rfl (by decide)) ?_
      refine Dh.JB.pv rfl trivial (fun _ => PR.pickT rfl rfl) ?_
      refine Dh.JB.nil<|Dh.JL.nil<|Jq.qt<|Jc.condT rfl ?_
      refine Jc.drawn [0, 0, 2, 6, 0, 16, 48, 0, 128, 384, 0, 1024, 3072, 0, 8192, 24576, 65534, 131071] ([], []) [⟨[(0, false), (1, false), (2, false), (3, false), (4, false), (5, false), (6, false), (7, false), (8, false), (9, false), (10, false), (11, false), (12, false), (13, false), (14, false), (15, false), (16, false)], [], 17⟩] tmx (by kernel_rfl) ?_
      refine Dh.JH.cons<|Dh.JB.pv rfl trivial (fun _ => PR.qm rfl)<|Dh.JB.pv rfl trivial (fun _ => PR.qm rfl) ?_
      refine Dh.JB.pv rfl trivial (fun _ => PR.idx1 0 rfl rfl tsl23 zM rfl rfl (by simp)) ?_
      refine Dh.JB.pv rfl trivial (fun _ => PR.loadR rfl tsh3 zM rfl) ?_
      refine Dh.JB.pv rfl trivial (fun _ => PR.qm rfl) ?_
      refine Dh.JB.pv rfl trivial (fun _ => PR.idx1 1 rfl rfl tsl23 zM rfl rfl (by simp)) ?_
      refine Dh.JB.pv rfl trivial (fun _ => PR.loadR rfl tsh3 zM rfl) ?_
      refine Dh.JB.pv rfl trivial (fun _ => PR.qm rfl) ?_
      refine Dh.JB.pv rfl trivial (fun _ => PR.idx1 2 rfl rfl tsl23 zM rfl rfl (by simp)) ?_
      refine Dh.JB.pv rfl trivial (fun _ => PR.loadR rfl tsh3 zM rfl) ?_
      refine Dh.JB.pv rfl trivial (fun _ => PR.qm rfl) ?_
      refine Dh.JB.pv rfl trivial (fun _ => PR.idx1 3 rfl rfl tsl23 zM rfl rfl (by simp)) ?_
      refine Dh.JB.pv rfl trivial (fun _ => PR.loadR rfl tsh3 zM rfl) ?_
      refine Dh.JB.pv rfl trivial (fun _ => PR.qm rfl) ?_
      refine Dh.JB.pv rfl trivial (fun _ => PR.idx1 4 rfl rfl tsl23 zM rfl rfl (by simp)) ?_
      refine Dh.JB.pv rfl trivial (fun _ => PR.loadR rfl tsh3 zM rfl) ?_
      refine Dh.JB.pv rfl trivial (fun _ => PR.build (by rfl) tze72 tpl72_0_1_2_3_4_5 (by rfl)) ?_
      refine Dh.JB.nil<|Dh.JL.nil ?_
      refine Dh.JE.mk rfl (fun _ h => by cases h) (fun C1_17 => ?_)
      refine Jl.call (bkeep_ct b ((M, cM), (I, cI), (K, cK)) bb ⟨id, t, v, zo, 8, now, false, false⟩ hm) en118 (by rfl) zT zF ?_
      rintro z'
      refine Jl.qn ?_
      refine Dh.Jq.segV zX ?_ zK
      refine Dh.JH.nil ?_
      refine Dh.JB.nil<|Dh.JL.nil ?_
      exact Jq.fin z' (.inr rfl) rfl RetVs.nil rfl zT zF
      -- hint not used: one
    | some i =>
      rw [take1_no (.inr (by rw [hf]; rfl))]
      refine Ct.of _ Tryz.func87 Tryz.ntmps87 rfl rfl (fun X W => ?_)
      refine Jc.qs ?_
      refine Jc.drawn [0, 1, 3, 7, 15, 31, 63, 127, 31, 287, 799, 2047, 4095, 8191] ([(12, false), (13, false)], []) [⟨[(0, false), (1, false), (2, false), (3, false), (4, false), (5, false), (6, false), (7, false), (8, false), (9, false), (10, false)], [], 11⟩] tmx (by kernel_rfl) ?_
      refine Dh.JH.cons<|Dh.JB.pv rfl trivial (fun _ => PR.qm rfl) ?_
      refine Dh.JB.pv rfl trivial (fun _ => PR.idx1 0 rfl rfl tsl23 zM rfl rfl (by simp)) ?_
      refine Dh.JB.pv rfl trivial (fun _ => PR.loadR rfl tsh3 zM rfl) ?_
      refine Dh.JB.pv rfl trivial (fun _ => PR.geq true rfl rfl (decide_eq_true hid)) ?_
      refine Dh.JB.pv rfl trivial (fun _ => PR.qm rfl) ?_
      refine Dh.JB.pv rfl ⟨_, rfl, rfl⟩ (fun _ => PR.qm rfl) ?_
      refine Dh.JB.pv rfl ⟨_, rfl, rfl⟩ (fun _ => PR.nilCheck rfl) ?_
      refine Dh.JB.rd [.blk _ _ _] rfl ⟨_, rfl, rfl⟩ zT (fun _ => PR.loadA rfl tsh38 Has.here (by rfl)) ?_
      refine Dh.JB.pv rfl ⟨_, rfl, rfl⟩ (fun _ => PR.qm rfl) ?_
      refine Dh.JB.pv rfl ⟨_, rfl, rfl⟩ (fun _ => PR.idx1 0 rfl rfl tsl23 zM rfl rfl (by simp)) ?_
      refine Dh.JB.pv rfl ⟨_, rfl, rfl⟩ (fun _ => PR.loadR rfl tsh3 zM rfl) ?_
      refine Dh.JB.nil<|Dh.JL.nil ?_
      refine Dh.JE.mk rfl (fun _ h => by cases h) (fun C0_11 => ?_)
      refine Jl.on rfl rfl ?_
      refine Jl.calll (fs := []) (cs := []) (bfind_ct b ((M, cM), (I, cI), (K, cK)) id (by omega)) en116 rfl (by rfl) (by rfl) zT (ls := [b.rM ((M, cM), (I, cI), (K, cK)), b.rI ((M, cM), (I, cI), (K, cK)), b.rK ((M, cM), (I, cI), (K, cK))]) zT zL zF ?_
      rintro ⟨⟩
      refine Jl.as (.int .i64 (i : Int)) (by rw [hf]; rfl) ?_
      refine Jl.qn ?_
      refine Dh.Jq.segV zX ?_ zK
      refine Dh.JH.nil ?_
      refine Dh.JB.pv rfl ⟨_, rfl, rfl⟩ (fun _ => PR.lss false rfl rfl (decide_eq_false (by omega))) ?_
      refine Dh.JB.pv rfl trivial (fun _ => PR.pickT rfl rfl) ?_
      refine Dh.JB.nil<|Dh.JL.nil<|Jq.qt<|Jc.condF rfl<|Jc.skip ?_
      exact Jq.fin ((M, cM), (I, cI), (K, cK)) (.inr rfl) rfl RetVs.nil rfl zT zF
      -- hint not used: one
  · rw [take1_no (.inl (by omega))]
    refine Ct.of _ Tryz.func87 Tryz.ntmps87 rfl rfl (fun X W => ?_)
    refine Jc.qs ?_
    refine Jc.drawn [0, 1, 3, 7, 15, 31, 63, 127, 31, 287, 799, 2047, 4095, 8191] ([(12, false), (13, false)], []) [⟨[(0, false), (1, false), (2, false), (3, false), (4, false), (5, false), (6, false), (7, false), (8, false), (9, false), (10, false)], [], 11⟩] tmx (by kernel_rfl) ?_
    refine Dh.JH.cons<|Dh.JB.pv rfl trivial (fun _ => PR.qm rfl) ?_
    refine Dh.JB.pv rfl trivial (fun _ => PR.idx1 0 rfl rfl tsl23 zM rfl rfl (by simp)) ?_
    refine Dh.JB.pv rfl trivial (fun _ => PR.loadR rfl tsh3 zM rfl) ?_
    refine Dh.JB.pv rfl trivial (fun _ => PR.geq false rfl rfl (decide_eq_false hid)) ?_
    refine Dh.JB.pv rfl trivial (fun _ => PR.qm rfl)<|Dh.JB.off rfl ⟨_, rfl, .inr rfl⟩<|Dh.JB.off rfl ⟨_, rfl, .inr rfl⟩<|Dh.JB.off rfl ⟨_, rfl, .inr rfl⟩<|Dh.JB.off rfl ⟨_, rfl, .inr rfl⟩<|Dh.JB.off rfl ⟨_, rfl, .inr rfl⟩<|Dh.JB.off rfl ⟨_, rfl, .inr rfl⟩<|Dh.JB.nil<|Dh.JL.nil ?_
    refine Dh.JE.mk rfl (fun _ h => by cases h) (fun C0_11 => ?_)
    refine Jl.qo rfl rfl rfl<|Jl.qn ?_
    refine Dh.Jq.segV zX ?_ zK
    refine Dh.JH.nil ?_
    refine Dh.JB.off rfl ⟨_, rfl, .inr rfl⟩ ?_
    refine Dh.JB.pv rfl trivial (fun _ => PR.pickF rfl rfl) ?_
    refine Dh.JB.nil<|Dh.JL.nil<|Jq.qt<|Jc.condF rfl<|Jc.skip ?_
    exact Jq.fin ((M, cM), (I, cI), (K, cK)) (.inr rfl) rfl RetVs.nil rfl zT zF
    -- hint not used: one
end Go.Proofs.YtakbgccddokbbaaGreatDoor
namespace Go.Proofs.YtakbgccddokbbaaGreatDoor
open Go.RowKit
attribute [local irreducible] Res.blk Res.row Fact.rd
theorem tidx_ct (K : Option Addr) (c : Nat) (l : List It1) (q : It1 → Bool) (g : FuncId) (bd : Nat) (T : TypeId) (cc : List Value) (hg : ∀ x : It1, Ct Tryz.prog g [x.v, .pointer (some ⟨bd, 0, none⟩)] [.blk bd T cc] [] (fun _ : Unit => .bool (q x)) (fun _ => [.blk bd T cc]) (fun _ => []))
 (hen : ∀ args w, (callFunc g args).run Tryz.prog w = .ok (.enter g args) w) (hn : l.length ≤ 1000000) :
 Ct Tryz.prog 136 [.slice K l.length c, .func (.func g) #[] #[.pointer (some ⟨bd, 0, none⟩)]] [.blk bd T cc] [.rd K (itsV l)] (fun _ : Unit => .int .i64 (plcI (l.findIdx? q))) (fun _ => [.blk bd T cc]) (fun _ => []) := by
 have hl8 := itsV_len l
 refine Ct.of _ Tryz.func136 Tryz.ntmps136 rfl rfl (fun X W => ?_)
 refine Jc.qs<|Jc.qr<|Jl.pv (PR.qa rfl)<|Jl.qn<|Jq.qt<|Jc.qs<|Jc.qs<|Jc.qr<|Jl.pv (PR.qm rfl) ?_
 refine Jl.pv (PR.len rfl tsl33) ?_
 refine Jl.pv (PR.qm rfl)<|Jl.qn<|Jq.qt ?_
 refine Jc.block ?_
 refine Jc.loop (σ := { k : Nat // k ≤ l.length ∧ ∀ j (h : j < l.length), j < k → q l[j] = false }) (fun s => [(8, .int .i64 (s.1 : Int)), (7, .int .i64 (l.length : Int)), (1, .func (.func g) #[] #[.pointer (some ⟨bd, 0, none⟩)]), (0, .slice K l.length c)]) (fun _ => [.blk bd T cc]) (fun _ => [.rd K (itsV l)]) (fun s => l.length - s.1) ⟨0, Nat.zero_le _, fun j h h2 => by omega⟩ (by repeat (first | exact trivial | refine And.intro rfl ?_)) rfl zF ?_
 rintro ⟨k, hk, hq⟩
 show Jc _ _ _ _ _ _ [(8, Value.int .i64 (k : Int)), (7, .int .i64 (l.length : Int)), (1, .func (.func g) #[] #[.pointer (some ⟨bd, 0, none⟩)]), (0, .slice K l.length c)] [.blk bd T cc] [.rd K (itsV l)]
 refine Jc.qs<|Jc.qr ?_
 refine Jl.pv (PR.lss _ rfl rfl rfl) ?_
 refine Jl.qn<|Jq.qt<|Jc.qs ?_
 refine Jc.cond rfl (fun h0 => ?_) (fun h0 => ?_)
 · try replace h0 := zV h0
   have hlt : k < l.length := by omega
   refine Jc.skip<|Jq.qt<|Jc.qs ?_
   refine Jc.block ?_
   refine Jc.qs<|Jc.qr<|Jl.pv (PR.qm rfl)<|Jl.pv (PR.qa rfl)<|Jl.qn<|Jq.qt<|Jc.qs<|Jc.qr<|Jl.pv (PR.qm rfl)<|Jl.pv (PR.qm rfl)<|Jl.pv (PR.qm rfl) ?_
   refine Jl.pv (PR.idx k rfl rfl tsl33 zM (itsV_len _) (by omega) rfl hlt) ?_
   refine Jl.pv (PR.loadRA rfl tsh70 zM (by decide) (its_at hlt)) ?_
   refine Jl.callv (hg l[k]) hen rfl (by rfl) (by rfl) zT zF ?_
   rintro ⟨⟩
   refine Jl.qn<|Jq.qt ?_
   refine Jc.cond rfl (fun h1 => ?_) (fun h1 => ?_)
   · try replace h1 := zV h1
     refine Jc.qs<|Jc.qr<|Jl.pv (PR.qm rfl)<|Jl.pv (PR.qa rfl)<|Jl.qn<|Jq.qt<|Jc.ret ?_
     refine Jq.blkR ?_
     refine Jq.thenR<|Jq.thenR ?_
     refine Jq.blkR ?_
     refine Jq.thenR ?_
     exact Jq.fin () (.inl rfl) rfl (RetVs.tmp rfl RetVs.nil) (by rw [fidx_at hlt h1 hq]; rfl) zT zF
   try replace h1 := zW h1
   refine Jc.skip ?_
   refine Jq.blkN ?_
   refine Jq.qt<|Jc.qr ?_
   refine Jl.pv (PR.add ((k + 1 : Nat) : Int) rfl rfl (by rw [w64 (by omega) (by omega)]; rfl)) ?_
   refine Jl.pv (PR.qm rfl)<|Jl.qn ?_
   exact Jq.againT ⟨k + 1, hlt, fun j hj hjk => by rcases Nat.lt_succ_iff_lt_or_eq.1 hjk with h | rfl; exact hq j hj h; exact h1⟩ (by simp only; omega) (by repeat (first | exact trivial | refine And.intro rfl ?_)) zT zF
 try replace h0 := zW h0
 refine Jc.exit ?_
 refine Jq.thenX ?_
 refine Jq.thenX ?_
 refine Jq.blkX ?_
 refine Jq.qt<|Jc.qs<|Jc.qr<|Jl.pv (PR.qa rfl)<|Jl.qn<|Jq.qt<|Jc.ret ?_
 exact Jq.fin () (.inl rfl) rfl (RetVs.tmp rfl RetVs.nil) (by rw [fidx_none fun j hj => hq j hj (by omega)]; rfl) zT zF
 -- hint not used: one
theorem tok1_ct (t : Int) (bd : Nat) (x : It1) : Ct Tryz.prog 137 [x.v, .pointer (some ⟨bd, 0, none⟩)] [.blk bd 3 [.int .i64 t]] [] (fun _ : Unit => .bool (decide (x.tok = t))) (fun _ => [.blk bd 3 [.int .i64 t]]) (fun _ => []) := by
 refine Ct.of _ Tryz.func137 Tryz.ntmps137 rfl rfl (fun X W => ?_)
 refine Jc.qs<|Jc.qr ?_
 refine Jl.box rfl (by rfl) ?_
 intro b2
 refine Jl.pv (PR.qa rfl)<|Jl.qn<|Jq.qt<|Jc.qs<|Jc.qr<|Jl.pv (PR.qf rfl tfl70_0) ?_
 refine Jl.pv (PR.load1 rfl tsh3 zH (by rfl)) ?_
 refine Jl.pv (PR.load1 rfl tsh3 zH (by rfl)) ?_
 refine Jl.pv (PR.eql _ rfl rfl rfl) ?_
 refine Jl.pv (PR.qa rfl)<|Jl.qn<|Jq.qt<|Jc.ret ?_
 exact Jq.fin () (.inl rfl) rfl (RetVs.tmp rfl RetVs.nil) rfl zT zF
 -- hint not used: one
theorem btok_ct (b : Br) (z : BrA) (t : Int) (hm : b.its.length ≤ 1000000) : Ct Tryz.prog 115 [b.v z, .int .i64 t] [] (b.rd z) (fun _ : Unit => .int .i64 (plcI (b.findT t))) (fun _ => []) (fun _ => []) := by
 obtain ⟨⟨M, cM⟩, ⟨I, cI⟩, ⟨K, cK⟩⟩ := z
 refine Ct.of _ Tryz.func115 Tryz.ntmps115 rfl rfl (fun X W => ?_)
 refine Jc.qs<|Jc.qr ?_
 refine Jl.box rfl (by rfl) ?_
 intro b2
 refine Jl.box rfl (by rfl) ?_
 intro b3
 refine Jl.pv (PR.qa rfl)<|Jl.qn<|Jq.qt<|Jc.qs<|Jc.qr<|Jl.pv (PR.qf rfl tfl38_4) ?_
 refine Jl.pv (PR.load1 rfl tsh33 zH (by rfl)) ?_
 refine Jl.pv (PR.makeFunc rfl rfl) ?_
 refine Jl.call (tidx_ct I cI b.its (fun x => decide (x.tok = t)) 137 b3 3 [.int .i64 t] (tok1_ct t b3) en137 hm) en136 (by rfl) zT zF ?_
 rintro ⟨⟩
 refine Jl.pv (PR.qa rfl)<|Jl.qn<|Jq.qt<|Jc.ret ?_
 exact Jq.fin () (.inl rfl) rfl (RetVs.tmp rfl RetVs.nil) rfl zT zF
 -- hint not used: one
theorem mk1_none {b : Br} {t id now : Int} (h : b.findT t = none) : b.mk1 t id now = b := by rw [Br.mk1, h]
theorem mk1_no {b : Br} {t id now : Int} (h : id < 1 ∨ (b.findK id).isSome = true) : b.mk1 t id now = b := by
  rw [Br.mk1]
  cases b.findT t with
  | none => rfl
  | some i =>
    dsimp only
    rw [if_pos]
    simpa using h
theorem mk1_yes {b : Br} {t id now : Int} {i : Nat} (hi : i < b.its.length) (h : b.findT t = some i) (h1 : ¬ id < 1) (h2 : b.findK id = none) : b.mk1 t id now = b.made i (insAt b.kps id) b.its[i] id now := by
 rw [Br.mk1, h]
 dsimp only
 rw [if_neg (by simp [h1, h2]), List.getD_eq_getElem?_getD, List.getElem?_eq_getElem hi]
 rfl
theorem made_act {b : Br} {i a : Nat} {x : It1} {id now : Int} (h : (b.rf.st.toNat : Int) = 1) : b.made i a x id now = { b with its := eraL b.its i, kps := insL b.kps a (madeK x id now), rf := { b.rf with fa := 0 } } := by
 rw [Br.made, Br.rf0, if_pos (show b.act = true from decide_eq_true (by omega))]
theorem made_na {b : Br} {i a : Nat} {x : It1} {id now : Int} (h : ¬ (b.rf.st.toNat : Int) = 1) : b.made i a x id now = { b with its := eraL b.its i, kps := insL b.kps a (madeK x id now) } := by
 rw [Br.made, Br.rf0, if_neg (show ¬ b.act = true from fun h2 => h (by have := of_decide_eq_true h2; omega))]
theorem dmade_ct (b : Br) (z : BrA) (bb : Nat) (L : Option Addr) (cL : Nat) (t id now : Int) (h1 : b.its.length ≤ 900000) (hm : b.kps.length ≤ 900000) : Ct Tryz.prog 86 [ptr bb, .slice L [t, id, now].length cL] (b.st bb z) [.rd L (i64s [t, id, now])] (fun _ : BrA => .tuple #[]) (fun z' => (b.mk1 t id now).st bb z') (fun _ => []) := by
  obtain ⟨⟨M, cM⟩, ⟨I, cI⟩, ⟨K, cK⟩⟩ := z
  cases ht : b.findT t with
  | none =>
    rw [mk1_none ht]
    refine Ct.of _ Tryz.func86 Tryz.ntmps86 rfl rfl (fun X W => ?_)
    refine Jc.qs ?_
    refine Jc.drawn [0, 1, 3, 0, 8, 24, 63, 127] ([(7, false)], []) [⟨[(0, false), (1, false), (2, false), (3, false), (4, false), (5, false)], [], 6⟩] tmx (by kernel_rfl) ?_
    refine Dh.JH.cons<|Dh.JB.pv rfl trivial (fun _ => PR.qm rfl) ?_
    refine Dh.JB.pv rfl trivial (fun _ => PR.nilCheck rfl) ?_
    refine Dh.JB.rd [.blk _ _ _] rfl trivial zT (fun _ => PR.loadA rfl tsh38 Has.here (by rfl)) ?_
    refine Dh.JB.pv rfl trivial (fun _ => PR.qm rfl) ?_
    refine Dh.JB.pv rfl trivial (fun _ => PR.idx1 0 rfl rfl tsl23 zM rfl rfl (by simp)) ?_
    refine Dh.JB.pv rfl trivial (fun _ => PR.loadR rfl tsh3 zM rfl) ?_
    refine Dh.JB.nil<|Dh.JL.nil ?_
    refine Dh.JE.mk rfl (fun _ h => by cases h) (fun C0_6 => ?_)
    refine Jl.calll (fs := []) (cs := []) (btok_ct b ((M, cM), (I, cI), (K, cK)) t (by omega)) en115 rfl (by rfl) (by rfl) zT (ls := [b.rM ((M, cM), (I, cI), (K, cK)), b.rI ((M, cM), (I, cI), (K, cK)), b.rK ((M, cM), (I, cI), (K, cK))]) zT zL zF ?_
    rintro ⟨⟩
    refine Jl.as (.int .i64 (-1)) (by rw [ht]; rfl) ?_
    refine Jl.qn ?_
    refine Dh.Jq.segV zX ?_ zK
    refine Dh.JH.nil ?_
    refine Dh.JB.pv rfl trivial (fun _ => PR.qa rfl) ?_
    refine Dh.JB.nil<|Dh.JL.nil<|Jq.qt<|Jc.qs<|Jc.qs ?_
    refine Jc.drawn [0, 1, 3, 7, 15, 31, 63, 127, 255, 511, 1023, 2047, 511, 4607, 12799, 32767, 65535, 131071] ([(16, false), (17, false)], []) [⟨[(0, false), (1, false), (2, false), (3, false), (4, false), (5, false), (6, false), (7, false), (8, false), (9, false), (10, false), (11, false), (12, false), (13, false), (14, false)], [], 15⟩] tmx (by kernel_rfl) ?_
    refine Dh.JH.cons<|Dh.JB.pv rfl trivial (fun _ => PR.qm rfl) ?_
    refine Dh.JB.pv rfl trivial (fun _ => PR.lss true rfl rfl (by decide)) ?_
    refine Dh.JB.pv rfl trivial (fun _ => PR.qm rfl)<|Dh.JB.off rfl ⟨_, rfl, .inr rfl⟩<|Dh.JB.off rfl ⟨_, rfl, .inr rfl⟩<|Dh.JB.off rfl ⟨_, rfl, .inr rfl⟩<|Dh.JB.off rfl ⟨_, rfl, .inr rfl⟩ ?_
    refine Dh.JB.pv rfl trivial (fun _ => PR.pickT rfl rfl) ?_
    refine Dh.JB.pv rfl trivial (fun _ => PR.qm rfl)<|Dh.JB.off rfl ⟨_, rfl, .inr rfl⟩<|Dh.JB.off rfl ⟨_, rfl, .inr rfl⟩<|Dh.JB.off rfl ⟨_, rfl, .inr rfl⟩<|Dh.JB.off rfl ⟨_, rfl, .inr rfl⟩<|Dh.JB.off rfl ⟨_, rfl, .inr rfl⟩<|Dh.JB.off rfl ⟨_, rfl, .inr rfl⟩<|Dh.JB.nil<|Dh.JL.nil ?_
    refine Dh.JE.mk rfl (fun _ h => by cases h) (fun C1_15 => ?_)
    refine Jl.qo rfl rfl rfl<|Jl.qn ?_
    refine Dh.Jq.segV zX ?_ zK
    refine Dh.JH.nil ?_
    refine Dh.JB.off rfl ⟨_, rfl, .inr rfl⟩ ?_
    refine Dh.JB.pv rfl trivial (fun _ => PR.pickT rfl rfl) ?_
    refine Dh.JB.nil<|Dh.JL.nil<|Jq.qt<|Jc.condT rfl<|Jc.ret<|Jq.thenR ?_
    exact Jq.fin ((M, cM), (I, cI), (K, cK)) (.inl rfl) rfl RetVs.nil rfl zT zF
    -- hint not used: one
  | some i =>
    obtain ⟨hi, -⟩ := findT_some ht
    by_cases hid : id < 1
    · rw [mk1_no (.inl hid)]
      refine Ct.of _ Tryz.func86 Tryz.ntmps86 rfl rfl (fun X W => ?_)
      refine Jc.qs ?_
      refine Jc.drawn [0, 1, 3, 0, 8, 24, 63, 127] ([(7, false)], []) [⟨[(0, false), (1, false), (2, false), (3, false), (4, false), (5, false)], [], 6⟩] tmx (by kernel_rfl) ?_
      refine Dh.JH.cons<|Dh.JB.pv rfl trivial (fun _ => PR.qm rfl) ?_
      refine Dh.JB.pv rfl trivial (fun _ => PR.nilCheck rfl) ?_
      refine Dh.JB.rd [.blk _ _ _] rfl trivial zT (fun _ => PR.loadA rfl tsh38 Has.here (by rfl)) ?_
      refine Dh.JB.pv rfl trivial (fun _ => PR.qm rfl) ?_
      refine Dh.JB.pv rfl trivial (fun _ => PR.idx1 0 rfl rfl tsl23 zM rfl rfl (by simp)) ?_
      refine Dh.JB.pv rfl trivial (fun _ => PR.loadR rfl tsh3 zM rfl) ?_
      refine Dh.JB.nil<|Dh.JL.nil ?_
      refine Dh.JE.mk rfl (fun _ h => by cases h) (fun C0_6 => ?_)
      refine Jl.calll (fs := []) (cs := []) (btok_ct b ((M, cM), (I, cI), (K, cK)) t (by omega)) en115 rfl (by rfl) (by rfl) zT (ls := [b.rM ((M, cM), (I, cI), (K, cK)), b.rI ((M, cM), (I, cI), (K, cK)), b.rK ((M, cM), (I, cI), (K, cK))]) zT zL zF ?_
      rintro ⟨⟩
      refine Jl.as (.int .i64 (i : Int)) (by rw [ht]; rfl) ?_
      refine Jl.qn ?_
      refine Dh.Jq.segV zX ?_ zK
      refine Dh.JH.nil ?_
      refine Dh.JB.pv rfl trivial (fun _ => PR.qa rfl) ?_
      refine Dh.JB.nil<|Dh.JL.nil<|Jq.qt<|Jc.qs<|Jc.qs ?_
      refine Jc.drawn [0, 1, 3, 7, 15, 31, 63, 127, 255, 511, 1023, 2047, 511, 4607, 12799, 32767, 65535, 131071] ([(16, false), (17, false)], []) [⟨[(0, false), (1, false), (2, false), (3, false), (4, false), (5, false), (6, false), (7, false), (8, false), (9, false), (10, false), (11, false), (12, false), (13, false), (14, false)], [], 15⟩] tmx (by kernel_rfl) ?_
      refine Dh.JH.cons<|Dh.JB.pv rfl trivial (fun _ => PR.qm rfl) ?_
      refine Dh.JB.pv rfl trivial (fun _ => PR.lss false rfl rfl (decide_eq_false (by omega))) ?_
      refine Dh.JB.pv rfl trivial (fun _ => PR.qm rfl) ?_
      refine Dh.JB.pv rfl ⟨_, rfl, rfl⟩ (fun _ => PR.qm rfl) ?_
      refine Dh.JB.pv rfl ⟨_, rfl, rfl⟩ (fun _ => PR.idx1 1 rfl rfl tsl23 zM rfl rfl (by simp)) ?_
      refine Dh.JB.pv rfl ⟨_, rfl, rfl⟩ (fun _ => PR.loadR rfl tsh3 zM rfl) ?_
      refine Dh.JB.pv rfl ⟨_, rfl, rfl⟩ (fun _ => PR.lss true rfl rfl (decide_eq_true hid)) ?_
      refine Dh.JB.pv rfl trivial (fun _ => PR.pickF rfl rfl) ?_
      refine Dh.JB.pv rfl trivial (fun _ => PR.qm rfl)<|Dh.JB.off rfl ⟨_, rfl, .inr rfl⟩<|Dh.JB.off rfl ⟨_, rfl, .inr rfl⟩<|Dh.JB.off rfl ⟨_, rfl, .inr rfl⟩<|Dh.JB.off rfl ⟨_, rfl, .inr rfl⟩<|Dh.JB.off rfl ⟨_, rfl, .inr rfl⟩<|Dh.JB.off rfl ⟨_, rfl, .inr rfl⟩<|Dh.JB.nil<|Dh.JL.nil ?_
      refine Dh.JE.mk rfl (fun _ h => by cases h) (fun C1_15 => ?_)
      refine Jl.qo rfl rfl rfl<|Jl.qn ?_
      refine Dh.Jq.segV zX ?_ zK
      refine Dh.JH.nil ?_
      refine Dh.JB.off rfl ⟨_, rfl, .inr rfl⟩ ?_
      refine Dh.JB.pv rfl trivial (fun _ => PR.pickT rfl rfl) ?_
      refine Dh.JB.nil<|Dh.JL.nil<|Jq.qt<|Jc.condT rfl<|Jc.ret<|Jq.thenR ?_
      exact Jq.fin ((M, cM), (I, cI), (K, cK)) (.inl rfl) rfl RetVs.nil rfl zT zF
      -- hint not used: one
    · cases hf : b.findK id with
      | some j =>
        rw [mk1_no (.inr (by rw [hf]; rfl))]
        refine Ct.of _ Tryz.func86 Tryz.ntmps86 rfl rfl (fun X W => ?_)
        refine Jc.qs ?_
        refine Jc.drawn [0, 1, 3, 0, 8, 24, 63, 127] ([(7, false)], []) [⟨[(0, false), (1, false), (2, false), (3, false), (4, false), (5, false)], [], 6⟩] tmx (by kernel_rfl) ?_
        refine Dh.JH.cons<|Dh.JB.pv rfl trivial (fun _ => PR.qm rfl) ?_
        refine Dh.JB.pv rfl trivial (fun _ => PR.nilCheck rfl) ?_
        refine Dh.JB.rd [.blk _ _ _] rfl trivial zT (fun _ => PR.loadA rfl tsh38 Has.here (by rfl)) ?_
        refine Dh.JB.pv rfl trivial (fun _ => PR.qm rfl) ?_
        refine Dh.JB.pv rfl trivial (fun _ => PR.idx1 0 rfl rfl tsl23 zM rfl rfl (by simp)) ?_
        refine Dh.JB.pv rfl trivial (fun _ => PR.loadR rfl tsh3 zM rfl) ?_
        refine Dh.JB.nil<|Dh.JL.nil ?_
        refine Dh.JE.mk rfl (fun _ h => by cases h) (fun C0_6 => ?_)
        refine Jl.calll (fs := []) (cs := []) (btok_ct b ((M, cM), (I, cI), (K, cK)) t (by omega)) en115 rfl (by rfl) (by rfl) zT (ls := [b.rM ((M, cM), (I, cI), (K, cK)), b.rI ((M, cM), (I, cI), (K, cK)), b.rK ((M, cM), (I, cI), (K, cK))]) zT zL zF ?_
        rintro ⟨⟩
        refine Jl.as (.int .i64 (i : Int)) (by rw [ht]; rfl) ?_
        refine Jl.qn ?_
        refine Dh.Jq.segV zX ?_ zK
        refine Dh.JH.nil ?_
        refine Dh.JB.pv rfl trivial (fun _ => PR.qa rfl) ?_
        refine Dh.JB.nil<|Dh.JL.nil<|Jq.qt<|Jc.qs<|Jc.qs ?_
        refine Jc.drawn [0, 1, 3, 7, 15, 31, 63, 127, 255, 511, 1023, 2047, 511, 4607, 12799, 32767, 65535, 131071] ([(16, false), (17, false)], []) [⟨[(0, false), (1, false), (2, false), (3, false), (4, false), (5, false), (6, false), (7, false), (8, false), (9, false), (10, false), (11, false), (12, false), (13, false), (14, false)], [], 15⟩] tmx (by kernel_rfl) ?_
        refine Dh.JH.cons<|Dh.JB.pv rfl trivial (fun _ => PR.qm rfl) ?_
        refine Dh.JB.pv rfl trivial (fun _ => PR.lss false rfl rfl (decide_eq_false (by omega))) ?_
        refine Dh.JB.pv rfl trivial (fun _ => PR.qm rfl) ?_
        refine Dh.JB.pv rfl ⟨_, rfl, rfl⟩ (fun _ => PR.qm rfl) ?_
        refine Dh.JB.pv rfl ⟨_, rfl, rfl⟩ (fun _ => PR.idx1 1 rfl rfl tsl23 zM rfl rfl (by simp)) ?_
        refine Dh.JB.pv rfl ⟨_, rfl, rfl⟩ (fun _ => PR.loadR rfl tsh3 zM rfl) ?_
        refine Dh.JB.pv rfl ⟨_, rfl, rfl⟩ (fun _ => PR.lss false rfl rfl (decide_eq_false hid)) ?_
        refine Dh.JB.pv rfl trivial (fun _ => PR.pickF rfl rfl) ?_
        refine Dh.JB.pv rfl trivial (fun _ => PR.qm rfl) ?_
        refine Dh.JB.pv rfl ⟨_, rfl, rfl⟩ (fun _ => PR.qm rfl) ?_
        refine Dh.JB.pv rfl ⟨_, rfl, rfl⟩ (fun _ => PR.nilCheck rfl) ?_
        refine Dh.JB.rd [.blk _ _ _] rfl ⟨_, rfl, rfl⟩ zT (fun _ => PR.loadA rfl tsh38 Has.here (by rfl)) ?_
        refine Dh.JB.pv rfl ⟨_, rfl, rfl⟩ (fun _ => PR.qm rfl) ?_
        refine Dh.JB.pv rfl ⟨_, rfl, rfl⟩ (fun _ => PR.idx1 1 rfl rfl tsl23 zM rfl rfl (by simp)) ?_
        refine Dh.JB.pv rfl ⟨_, rfl, rfl⟩ (fun _ => PR.loadR rfl tsh3 zM rfl) ?_
        refine Dh.JB.nil<|Dh.JL.nil ?_
        refine Dh.JE.mk rfl (fun _ h => by cases h) (fun C1_15 => ?_)
        refine Jl.on rfl rfl ?_
        refine Jl.calll (fs := []) (cs := []) (bfind_ct b ((M, cM), (I, cI), (K, cK)) id (by omega)) en116 rfl (by rfl) (by rfl) zT (ls := [b.rM ((M, cM), (I, cI), (K, cK)), b.rI ((M, cM), (I, cI), (K, cK)), b.rK ((M, cM), (I, cI), (K, cK))]) zT zL zF ?_
        rintro ⟨⟩
        refine Jl.as (.int .i64 (j : Int)) (by rw [hf]; rfl) ?_
        refine Jl.qn ?_
        refine Dh.Jq.segV zX ?_ zK
        refine Dh.JH.nil ?_
        refine Dh.JB.pv rfl ⟨_, rfl, rfl⟩ (fun _ => PR.geq true rfl rfl (decide_eq_true (by omega))) ?_
        refine Dh.JB.pv rfl trivial (fun _ => PR.pickF rfl rfl) ?_
        refine Dh.JB.nil<|Dh.JL.nil<|Jq.qt<|Jc.condT rfl<|Jc.ret<|Jq.thenR ?_
        exact Jq.fin ((M, cM), (I, cI), (K, cK)) (.inl rfl) rfl RetVs.nil rfl zT zF
        -- hint not used: one
      | none =>
        rw [mk1_yes hi ht hid hf]
        refine Ct.of _ Tryz.func86 Tryz.ntmps86 rfl rfl (fun X W => ?_)
        refine Jc.qs ?_
        refine Jc.drawn [0, 1, 3, 0, 8, 24, 63, 127] ([(7, false)], []) [⟨[(0, false), (1, false), (2, false), (3, false), (4, false), (5, false)], [], 6⟩] tmx (by kernel_rfl) ?_
        refine Dh.JH.cons<|Dh.JB.pv rfl trivial (fun _ => PR.qm rfl) ?_
        refine Dh.JB.pv rfl trivial (fun _ => PR.nilCheck rfl) ?_
        refine Dh.JB.rd [.blk _ _ _] rfl trivial zT (fun _ => PR.loadA rfl tsh38 Has.here (by rfl)) ?_
        refine Dh.JB.pv rfl trivial (fun _ => PR.qm rfl) ?_
        refine Dh.JB.pv rfl trivial (fun _ => PR.idx1 0 rfl rfl tsl23 zM rfl rfl (by simp)) ?_
        refine Dh.JB.pv rfl trivial (fun _ => PR.loadR rfl tsh3 zM rfl) ?_
        refine Dh.JB.nil<|Dh.JL.nil ?_
        refine Dh.JE.mk rfl (fun _ h => by cases h) (fun C0_6 => ?_)
        refine Jl.calll (fs := []) (cs := []) (btok_ct b ((M, cM), (I, cI), (K, cK)) t (by omega)) en115 rfl (by rfl) (by rfl) zT (ls := [b.rM ((M, cM), (I, cI), (K, cK)), b.rI ((M, cM), (I, cI), (K, cK)), b.rK ((M, cM), (I, cI), (K, cK))]) zT zL zF ?_
        rintro ⟨⟩
        refine Jl.as (.int .i64 (i : Int)) (by rw [ht]; rfl) ?_
        refine Jl.qn ?_
        refine Dh.Jq.segV zX ?_ zK
        refine Dh.JH.nil ?_
        refine Dh.JB.pv rfl trivial (fun _ => PR.qa rfl) ?_
        refine Dh.JB.nil<|Dh.JL.nil<|Jq.qt<|Jc.qs<|Jc.qs ?_
        refine Jc.drawn [0, 1, 3, 7, 15, 31, 63, 127, 255, 511, 1023, 2047, 511, 4607, 12799, 32767, 65535, 131071] ([(16, false), (17, false)], []) [⟨[(0, false), (1, false), (2, false), (3, false), (4, false), (5, false), (6, false), (7, false), (8, false), (9, false), (10, false), (11, false), (12, false), (13, false), (14, false)], [], 15⟩] tmx (by kernel_rfl) ?_
        refine Dh.JH.cons<|Dh.JB.pv rfl trivial (fun _ => PR.qm rfl) ?_
        refine Dh.JB.pv rfl trivial (fun _ => PR.lss false rfl rfl (decide_eq_false (by omega))) ?_
        refine Dh.JB.pv rfl trivial (fun _ => PR.qm rfl) ?_
        refine Dh.JB.pv rfl ⟨_, rfl, rfl⟩ (fun _ => PR.qm rfl) ?_
        refine Dh.JB.pv rfl ⟨_, rfl, rfl⟩ (fun _ => PR.idx1 1 rfl rfl tsl23 zM rfl rfl (by simp)) ?_
        refine Dh.JB.pv rfl ⟨_, rfl, rfl⟩ (fun _ => PR.loadR rfl tsh3 zM rfl) ?_
        refine Dh.JB.pv rfl ⟨_, rfl, rfl⟩ (fun _ => PR.lss false rfl rfl (decide_eq_false hid)) ?_
        refine Dh.JB.pv rfl trivial (fun _ => PR.pickF rfl rfl) ?_
        refine Dh.JB.pv rfl trivial (fun _ => PR.qm rfl) ?_
        refine Dh.JB.pv rfl ⟨_, rfl, rfl⟩ (fun _ => PR.qm rfl) ?_
        refine Dh.JB.pv rfl ⟨_, rfl, rfl⟩ (fun _ => PR.nilCheck rfl) ?_
        refine Dh.JB.rd [.blk _ _ _] rfl ⟨_, rfl, rfl⟩ zT (fun _ => PR.loadA rfl tsh38 Has.here (by rfl)) ?_
        refine Dh.JB.pv rfl ⟨_, rfl, rfl⟩ (fun _ => PR.qm rfl) ?_
        refine Dh.JB.pv rfl ⟨_, rfl, rfl⟩ (fun _ => PR.idx1 1 rfl rfl tsl23 zM rfl rfl (by simp)) ?_
        refine Dh.JB.pv rfl ⟨_, rfl, rfl⟩ (fun _ => PR.loadR rfl tsh3 zM rfl) ?_
        refine Dh.JB.nil<|Dh.JL.nil ?_
        refine Dh.JE.mk rfl (fun _ h => by cases h) (fun C1_15 => ?_)
        refine Jl.on rfl rfl ?_
        refine Jl.calll (fs := []) (cs := []) (bfind_ct b ((M, cM), (I, cI), (K, cK)) id (by omega)) en116 rfl (by rfl) (by rfl) zT (ls := [b.rM ((M, cM), (I, cI), (K, cK)), b.rI ((M, cM), (I, cI), (K, cK)), b.rK ((M, cM), (I, cI), (K, cK))]) zT zL zF ?_
        rintro ⟨⟩
        refine Jl.as (.int .i64 (-1)) (by rw [hf]; rfl) ?_
        refine Jl.qn ?_
        refine Dh.Jq.segV zX ?_ zK
        refine Dh.JH.nil ?_
        refine Dh.JB.pv rfl ⟨_, rfl, rfl⟩ (fun _ => PR.geq false rfl rfl (by decide)) ?_
        refine Dh.JB.pv rfl trivial (fun _ => PR.pickF rfl rfl) ?_
        refine Dh.JB.nil<|Dh.JL.nil<|Jq.qt<|Jc.condF rfl<|Jc.skip<|Jq.qt<|Jc.qs<|Jc.qr<|Jl.pv (PR.qm rfl)<|Jl.pv (PR.nilCheck rfl)<|Jl.pv (PR.qf rfl tfl38_4) ?_
        refine Jl.pv (PR.load1 rfl tsh33 zH (by rfl)) ?_
        refine Jl.pv (PR.qm rfl) ?_
        refine Jl.pv (PR.idxO i rfl rfl tsl33 zD (by decide) rfl hi) ?_
        refine Jl.pv (PR.loadOA rfl tsh70 zD (by decide) (its_at hi)) ?_
        refine Jl.alloc tze70 ?_
        intro b5
        refine Jl.storeW rfl tsh70 rfl (by rfl) (by first | exact Br.cs_one _ _ | simp [Value.oneCell', Br.cs, It1.cs]) zS (by rfl) ?_
        refine Jl.pv (PR.qa rfl)<|Jl.qn<|Jq.qt ?_
        refine Jc.mid (σ := Unit) (fun _ => [(6, .int .u8 ((if b.its[i].warm = true then (9 : UInt8) else 1).toNat : Int)), (5, ptr b5), (4, .int .i64 (i : Int)), (0, ptr bb), (1, .slice L [t, id, now].length cL)]) (fun _ => .blk b5 70 b.its[i].cs :: b.st bb ((M, cM), (I, cI), (K, cK))) (fun _ => [.rd L (i64s [t, id, now])]) ?_ ?_
        · refine Jc.qs<|Jc.qr<|Jl.pv (PR.qf rfl tfl70_3) ?_
          refine Jl.pv (PR.load1 rfl tsh4 zH (by rfl)) ?_
          refine Jl.qn<|Jq.qt ?_
          refine Jc.cond rfl (fun hw => ?_) (fun hw => ?_)
          · try replace hw := zV hw
            refine Jc.qr<|Jl.pv (PR.qa rfl)<|Jl.qn ?_
            exact Jq.midT () (by exact ⟨congrArg (fun v => some (Value.int .u8 v)) (by rw [if_pos hw]; rfl), rfl, rfl, rfl, rfl, trivial⟩) zT zF
          try replace hw := zW hw
          refine Jc.skip ?_
          exact Jq.midT () (by exact ⟨congrArg (fun v => some (Value.int .u8 v)) (by rw [if_neg (by simp [hw])]; rfl), rfl, rfl, rfl, rfl, trivial⟩) zT zF
        rintro ⟨⟩
        refine Jc.qs<|Jc.qr<|Jl.pv (PR.qm rfl)<|Jl.pv (PR.qm rfl)<|Jl.pv (PR.nilCheck rfl)<|Jl.pv (PR.qf rfl tfl38_4) ?_
        refine Jl.pv (PR.load1 rfl tsh33 zH (by rfl)) ?_
        refine Jl.pv (PR.qm rfl)<|Jl.pv (PR.qm rfl) ?_
        refine Jl.pv (PR.add ((i + 1 : Nat) : Int) rfl rfl (by rw [w64 (by omega) (by omega)]; omega)) ?_
        refine Jl.call (tdel_ct I cI b.its i hi (by omega)) en117 (by rfl) zT zF ?_
        rintro ⟨⟩
        refine Jl.pv (PR.nilCheck rfl)<|Jl.pv (PR.qf rfl tfl38_4) ?_
        refine Jl.store1 rfl tsh33 rfl (by rfl) zS (by rfl) ?_
        refine Jl.qn<|Jq.qt<|Jc.qs ?_
        refine Jc.drawn [0, 0, 2, 6, 0, 16, 0, 64, 0, 256, 0, 0, 2048, 6144, 16382, 32767] ([], []) [⟨[(0, false), (1, false), (2, false), (3, false), (4, false), (5, false), (6, false), (7, false), (8, false), (9, false), (10, false), (11, false), (12, false), (13, false), (14, false)], [], 15⟩] tmx (by kernel_rfl) ?_
        refine Dh.JH.cons<|Dh.JB.pv rfl trivial (fun _ => PR.qm rfl)<|Dh.JB.pv rfl trivial (fun _ => PR.qm rfl) ?_
        refine Dh.JB.pv rfl trivial (fun _ => PR.idx1 1 rfl rfl tsl23 zM rfl rfl (by simp)) ?_
        refine Dh.JB.pv rfl trivial (fun _ => PR.loadR rfl tsh3 zM rfl) ?_
        refine Dh.JB.pv rfl trivial (fun _ => PR.qf rfl tfl70_0) ?_
        refine Dh.JB.rd [.blk _ _ _] rfl trivial zT (fun _ => PR.load1 rfl tsh3 Has.here (by rfl)) ?_
        refine Dh.JB.pv rfl trivial (fun _ => PR.qf rfl tfl70_1) ?_
        refine Dh.JB.rd [.blk _ _ _] rfl trivial zT (fun _ => PR.load1 rfl tsh3 Has.here (by rfl)) ?_
        refine Dh.JB.pv rfl trivial (fun _ => PR.qf rfl tfl70_2) ?_
        refine Dh.JB.rd [.blk _ _ _] rfl trivial zT (fun _ => PR.load1 rfl tsh3 Has.here (by rfl)) ?_
        refine Dh.JB.pv rfl trivial (fun _ => PR.qm rfl)<|Dh.JB.pv rfl trivial (fun _ => PR.qm rfl) ?_
        refine Dh.JB.pv rfl trivial (fun _ => PR.idx1 2 rfl rfl tsl23 zM rfl rfl (by simp)) ?_
        refine Dh.JB.pv rfl trivial (fun _ => PR.loadR rfl tsh3 zM rfl) ?_
        refine Dh.JB.pv rfl trivial (fun _ => PR.build (by rfl) tze72 tpl72_0_1_2_3_4_5 (by rfl)) ?_
        refine Dh.JB.nil<|Dh.JL.nil ?_
        refine Dh.JE.mk rfl (fun _ h => by cases h) (fun C6_15 => ?_)
        refine Jl.call (bkeep_ct { b with its := eraL b.its i } ((M, cM), (I, cI), (K, cK)) bb (madeK b.its[i] id now) hm) en118 (by rfl) zT zF ?_
        rintro ⟨⟨M2, m2⟩, ⟨I2, i2⟩, ⟨K2, k2⟩⟩
        refine Jl.qn ?_
        refine Dh.Jq.segV zX ?_ zK
        refine Dh.JH.nil ?_
        refine Dh.JB.nil<|Dh.JL.nil<|Jq.qt<|Jc.qs<|Jc.qr<|Jl.pv (PR.qm rfl)<|Jl.pv (PR.nilCheck rfl)<|Jl.pv (PR.qf rfl tfl38_6)<|Jl.pv (PR.qf rfl tfl36_0) ?_
        refine Jl.pv (PR.load1 rfl tsh5 zH (by rfl)) ?_
        refine Jl.pv (PR.eql _ rfl rfl rfl) ?_
        refine Jl.qn<|Jq.qt ?_
        refine Jc.cond rfl (fun ha => ?_) (fun ha => ?_)
        · try replace ha := zV ha
          refine Jc.qr<|Jl.pv (PR.qm rfl)<|Jl.pv (PR.nilCheck rfl)<|Jl.pv (PR.qf rfl tfl38_6)<|Jl.pv (PR.qf rfl tfl36_6) ?_
          refine Jl.store1 rfl tsh3 rfl (by rfl) zS (by rfl) ?_
          refine Jl.qn ?_
          rw [made_act (b := b) ha]
          exact Jq.fin ((M2, m2), (I2, i2), (K2, k2)) (.inr rfl) rfl RetVs.nil rfl zT zF
        try replace ha := zW ha
        refine Jc.skip ?_
        rw [made_na (b := b) ha]
        exact Jq.fin ((M2, m2), (I2, i2), (K2, k2)) (.inr rfl) rfl RetVs.nil rfl zT zF
end Go.Proofs.YtakbgccddokbbaaGreatDoor
namespace Go.Proofs.YtakbgccddokbbaaGreatDoor
open Go.RowKit
def u8V (l : List Nat) : List Value := l.map fun n : Nat => .int .u8 (n : Int)
theorem u8V_len (l : List Nat) : (u8V l).length = l.length := List.length_map ..
def chgV (As : Nat → AdC) : List Value := (List.range 11).map fun i => .slice (As i).1 (legalL.getD i []).length (As i).2
def Fact.chg : Fact where
 p := fun X W => ∃ As : Nat → AdC, (Fact.rd (some ⟨0, 0, none⟩) (chgV As)).p X W ∧ ∀ i, i < 11 → (Fact.rd (As i).1 (u8V (legalL.getD i []))).p X W
 fr := fun X X' W W' h hf hx => by
  obtain ⟨As, h1, h2⟩ := h
  exact ⟨As, (Fact.rd _ _).fr X X' W W' h1 hf hx, fun i hi => (Fact.rd _ _).fr X X' W W' (h2 i hi) hf hx⟩
theorem Jc.chg {P : Program} {r : Option Nat} {C : Cx} {n : Nat × List Nat} {Q : Exit → Act → World → Prop} {c : Code} {env : List (Nat × Value)} {R : List Res} {Φ : List Fact} {ops : Array Oper} {i : Nat} (hm : Mem .chg Φ) (hi : i < 11)
 (k : ∀ As, Jc P r C n Q c env R (.rd (some ⟨0, 0, none⟩) (chgV As) :: .rd (As i).1 (u8V (legalL.getD i [])) :: Φ)) : Jc P r C n Q c env R Φ := fun a W he hs => by
 obtain ⟨As, h1, h2⟩ := hs.facts _ hm.mem
 exact k As a W he ((hs.add (h2 i hi)).add (by
  have h := (hs.add (h2 i hi))
  exact h1))
attribute [local irreducible] Res.blk Res.row Fact.rd
theorem chg_at (As : Nat → AdC) {i : Nat} (hi : i < 11) : (chgV As)[i]? = some (.slice (As i).1 (legalL.getD i []).length (As i).2) := by
 simp [chgV, hi]
theorem chg_at' (As : Nat → AdC) {i : Nat} (hi : i < 11) : (chgV As)[i * 1]? = some (.slice (As i).1 (legalL.getD i []).length (As i).2) := by
 rw [Nat.mul_one]; exact chg_at As hi
theorem legal_len (i : Nat) : (legalL.getD i []).length ≤ 2 := by
 match i with
 | 0 => decide
 | 1 => decide
 | 2 => decide
 | 3 => decide
 | 4 => decide
 | 5 => decide
 | 6 => decide
 | 7 => decide
 | 8 => decide
 | 9 => decide
 | 10 => decide
 | n + 11 => simp [legalL]
theorem u8idx_ct (K : Option Addr) (c : Nat) (l : List Nat) (n : Nat) (hn : l.length ≤ 1000) :
 Ct Tryz.prog 142 [.slice K l.length c, .int .u8 (n : Int)] [] [.rd K (u8V l)] (fun _ : Unit => .int .i64 (plcI (l.findIdx? fun x => decide (n = x)))) (fun _ => []) (fun _ => []) := by
 have hl8 := u8V_len l
 refine Ct.of _ Tryz.func142 Tryz.ntmps142 rfl rfl (fun X W => ?_)
 refine Jc.qs<|Jc.qr<|Jl.pv (PR.qa rfl)<|Jl.qn<|Jq.qt<|Jc.qs<|Jc.qs<|Jc.qr<|Jl.pv (PR.qm rfl) ?_
 refine Jl.pv (PR.len rfl tsl25) ?_
 refine Jl.pv (PR.qm rfl)<|Jl.qn<|Jq.qt ?_
 refine Jc.block ?_
 refine Jc.loop (σ := { k : Nat // k ≤ l.length ∧ ∀ j (h : j < l.length), j < k → decide (n = l[j]) = false }) (fun s => [(8, .int .i64 (s.1 : Int)), (7, .int .i64 (l.length : Int)), (1, .int .u8 (n : Int)), (0, .slice K l.length c)]) (fun _ => []) (fun _ => [.rd K (u8V l)]) (fun s => l.length - s.1) ⟨0, Nat.zero_le _, fun j h h2 => by omega⟩ (by repeat (first | exact trivial | refine And.intro rfl ?_)) rfl zF ?_
 rintro ⟨k, hk, hq⟩
 show Jc _ _ _ _ _ _ [(8, Value.int .i64 (k : Int)), (7, .int .i64 (l.length : Int)), (1, .int .u8 (n : Int)), (0, .slice K l.length c)] [] [.rd K (u8V l)]
 refine Jc.qs<|Jc.qr ?_
 refine Jl.pv (PR.lss _ rfl rfl rfl) ?_
 refine Jl.qn<|Jq.qt<|Jc.qs ?_
 refine Jc.cond rfl (fun h0 => ?_) (fun h0 => ?_)
 · try replace h0 := zV h0
   have hlt : k < l.length := by omega
   refine Jc.skip<|Jq.qt<|Jc.qs ?_
   refine Jc.block ?_
   refine Jc.qs<|Jc.qr<|Jl.pv (PR.qm rfl)<|Jl.pv (PR.qa rfl)<|Jl.qn<|Jq.qt<|Jc.qs<|Jc.qr<|Jl.pv (PR.qm rfl)<|Jl.pv (PR.qm rfl)<|Jl.pv (PR.qm rfl) ?_
   refine Jl.pv (PR.idx1 k rfl rfl tsl25 zM (u8V_len _) (by omega) hlt) ?_
   refine Jl.pv (PR.loadR rfl tsh5 zM (getm hlt)) ?_
   refine Jl.pv (PR.eql _ rfl rfl rfl) ?_
   refine Jl.qn<|Jq.qt ?_
   refine Jc.cond rfl (fun h1 => ?_) (fun h1 => ?_)
   · try replace h1 := zV h1
     refine Jc.qs<|Jc.qr<|Jl.pv (PR.qm rfl)<|Jl.pv (PR.qa rfl)<|Jl.qn<|Jq.qt<|Jc.ret ?_
     refine Jq.blkR ?_
     refine Jq.thenR<|Jq.thenR ?_
     refine Jq.blkR ?_
     refine Jq.thenR ?_
     exact Jq.fin () (.inl rfl) rfl (RetVs.tmp rfl RetVs.nil) (by rw [fidx_at hlt (decide_eq_true (by omega)) hq]; rfl) zT zF
   try replace h1 := zW h1
   refine Jc.skip ?_
   refine Jq.blkN ?_
   refine Jq.qt<|Jc.qr ?_
   refine Jl.pv (PR.add ((k + 1 : Nat) : Int) rfl rfl (by rw [w64 (by omega) (by omega)]; rfl)) ?_
   refine Jl.pv (PR.qm rfl)<|Jl.qn ?_
   exact Jq.againT ⟨k + 1, hlt, fun j hj hjk => by rcases Nat.lt_succ_iff_lt_or_eq.1 hjk with h | rfl; exact hq j hj h; exact decide_eq_false (by omega)⟩ (by simp only; omega) (by repeat (first | exact trivial | refine And.intro rfl ?_)) zT zF
 try replace h0 := zW h0
 refine Jc.exit ?_
 refine Jq.thenX ?_
 refine Jq.thenX ?_
 refine Jq.blkX ?_
 refine Jq.qt<|Jc.qs<|Jc.qr<|Jl.pv (PR.qa rfl)<|Jl.qn<|Jq.qt<|Jc.ret ?_
 exact Jq.fin () (.inl rfl) rfl (RetVs.tmp rfl RetVs.nil) (by rw [fidx_none fun j hj => hq j hj (by omega)]; rfl) zT zF
theorem idx_has (l : List Nat) (n : Nat) : decide (0 ≤ plcI (l.findIdx? fun x => decide (n = x))) = l.contains n := by
  rw [Bool.eq_iff_iff, decide_eq_true_iff, List.contains_iff_mem]
  cases h : l.findIdx? fun x => decide (n = x) with
  | none =>
    rw [List.findIdx?_eq_none_iff] at h
    refine ⟨fun h2 => absurd h2 (by decide), fun h2 => ?_⟩
    have := h _ h2
    simp at this
  | some i =>
    obtain ⟨hi, h2⟩ := findIdx_some h
    refine ⟨fun _ => ?_, fun _ => Int.natCast_nonneg i⟩
    rw [of_decide_eq_true h2]
    exact List.getElem_mem hi
theorem u8has_ct (K : Option Addr) (c : Nat) (l : List Nat) (n : Nat) (hn : l.length ≤ 1000) :
 Ct Tryz.prog 120 [.slice K l.length c, .int .u8 (n : Int)] [] [.rd K (u8V l)] (fun _ : Unit => .bool (l.contains n)) (fun _ => []) (fun _ => []) := by
 have h := idx_has l n
 refine Ct.of _ Tryz.func120 Tryz.ntmps120 rfl rfl (fun X W => ?_)
 refine Jc.qs<|Jc.qr<|Jl.pv (PR.qa rfl)<|Jl.qn<|Jq.qt<|Jc.qs<|Jc.qr<|Jl.pv (PR.qm rfl)<|Jl.pv (PR.qm rfl) ?_
 refine Jl.call (u8idx_ct K c l n hn) en142 (by rfl) zT zF ?_
 rintro ⟨⟩
 refine Jl.pv (PR.geq _ rfl rfl rfl) ?_
 refine Jl.pv (PR.qa rfl)<|Jl.qn<|Jq.qt<|Jc.ret ?_
 exact Jq.fin () (.inl rfl) rfl (RetVs.tmp rfl RetVs.nil) (congrArg Value.bool h.symm) zT zF
theorem legal_ct (f : UInt8) (t : Int) (ht : 0 ≤ t) : Ct Tryz.prog 90 [.int .u8 (f.toNat : Int), .int .i64 t] [] [.chg] (fun _ : Unit => .bool (legal f.toNat t)) (fun _ => []) (fun _ => []) := by
 by_cases hf : f.toNat < 11
 · by_cases h11 : t < 11
   · have hf' := hf
     refine Ct.of _ Tryz.func90 Tryz.ntmps90 rfl rfl (fun X W => ?_)
     refine Jc.chg (ops := #[]) (i := f.toNat) zM hf (fun As => ?_)
     refine Jc.qs<|Jc.qr<|Jl.pv (PR.qa rfl)<|Jl.qn<|Jq.qt<|Jc.qs<|Jc.qr<|Jl.pv (PR.qm rfl) ?_
     refine Jl.pv (PR.lss true rfl rfl (decide_eq_true (by omega))) ?_
     refine Jl.pv (PR.qm rfl)<|Jl.on rfl rfl<|Jl.pv (PR.qm rfl)<|Jl.on rfl rfl ?_
     refine Jl.pv (PR.lss true rfl rfl (decide_eq_true h11)) ?_
     refine Jl.pv (PR.pickT rfl rfl)<|Jl.pv (PR.qm rfl)<|Jl.on rfl rfl<|Jl.pv (PR.qm rfl)<|Jl.on rfl rfl ?_
     refine Jl.pv (PR.idxRA f.toNat rfl rfl tar153 rfl hf) ?_
     refine Jl.on rfl rfl ?_
     refine Jl.pv (PR.loadR rfl tsh25 zM (chg_at' As hf)) ?_
     refine Jl.on rfl rfl<|Jl.pv (PR.qm rfl)<|Jl.on rfl rfl ?_
     refine Jl.pv (PR.conv ((t.toNat : Nat) : Int) rfl Tryz.underlying3 Tryz.underlying5 (by rw [IntKind.wrap_u8]; omega)) ?_
     refine Jl.on rfl rfl ?_
     refine Jl.call (u8has_ct (As f.toNat).1 (As f.toNat).2 (legalL.getD f.toNat []) t.toNat (by have := legal_len f.toNat; omega)) en120 (by rfl) zT zF ?_
     rintro ⟨⟩
     refine Jl.pv (PR.pickT rfl rfl)<|Jl.pv (PR.qa rfl)<|Jl.qn<|Jq.qt<|Jc.ret ?_
     exact Jq.fin () (.inl rfl) rfl (RetVs.tmp rfl RetVs.nil) (congrArg Value.bool (by rw [legal, decide_eq_true h11, Bool.true_and])) zT zF
   · have hf' := hf
     refine Ct.of _ Tryz.func90 Tryz.ntmps90 rfl rfl (fun X W => ?_)
     refine Jc.qs<|Jc.qr<|Jl.pv (PR.qa rfl)<|Jl.qn<|Jq.qt<|Jc.qs<|Jc.qr<|Jl.pv (PR.qm rfl) ?_
     refine Jl.pv (PR.lss true rfl rfl (decide_eq_true (by omega))) ?_
     refine Jl.pv (PR.qm rfl)<|Jl.on rfl rfl<|Jl.pv (PR.qm rfl)<|Jl.on rfl rfl ?_
     refine Jl.pv (PR.lss false rfl rfl (decide_eq_false h11)) ?_
     refine Jl.pv (PR.pickT rfl rfl)<|Jl.pv (PR.qm rfl)<|Jl.qo rfl rfl rfl<|Jl.qo rfl rfl rfl<|Jl.qo rfl rfl rfl<|Jl.qo rfl rfl rfl<|Jl.qo rfl rfl rfl<|Jl.qo rfl rfl rfl<|Jl.pv (PR.pickF rfl rfl)<|Jl.pv (PR.qa rfl)<|Jl.qn<|Jq.qt<|Jc.ret ?_
     exact Jq.fin () (.inl rfl) rfl (RetVs.tmp rfl RetVs.nil) (congrArg Value.bool (by rw [legal, decide_eq_false h11, Bool.false_and])) zT zF
 · have hf' := hf
   refine Ct.of _ Tryz.func90 Tryz.ntmps90 rfl rfl (fun X W => ?_)
   refine Jc.qs<|Jc.qr<|Jl.pv (PR.qa rfl)<|Jl.qn<|Jq.qt<|Jc.qs<|Jc.qr<|Jl.pv (PR.qm rfl) ?_
   refine Jl.pv (PR.lss false rfl rfl (decide_eq_false (by omega))) ?_
   refine Jl.pv (PR.qm rfl)<|Jl.qo rfl rfl rfl<|Jl.qo rfl rfl rfl<|Jl.pv (PR.pickF rfl rfl)<|Jl.pv (PR.qm rfl)<|Jl.qo rfl rfl rfl<|Jl.qo rfl rfl rfl<|Jl.qo rfl rfl rfl<|Jl.qo rfl rfl rfl<|Jl.qo rfl rfl rfl<|Jl.qo rfl rfl rfl<|Jl.pv (PR.pickF rfl rfl)<|Jl.pv (PR.qa rfl)<|Jl.qn<|Jq.qt<|Jc.ret ?_
   exact Jq.fin () (.inl rfl) rfl (RetVs.tmp rfl RetVs.nil) (congrArg Value.bool (by rw [legal, show legalL.getD f.toNat [] = [] by rw [List.getD_eq_getElem?_getD, List.getElem?_eq_none (by show 11 ≤ _; omega)]; rfl]; simp)) zT zF
theorem dphase_ct (b : Br) (z : BrA) (bb : Nat) (L : Option Addr) (cL : Nat) (id p now : Int) (i : Nat) (hi : i < b.kps.length) (hp : 0 ≤ p) : Ct Tryz.prog 89 [ptr bb, .int .i64 (i : Int), .slice L [id, p, now].length cL] (b.st bb z) [.rd L (i64s [id, p, now]), .chg] (fun _ : Unit => .tuple #[]) (fun _ => (if legal (b.kAt i).ph.toNat p = true then b.onK1 i { b.kAt i with ph := UInt8.ofNat p.toNat, si := now, co := false } else b).st bb z) (fun _ => []) := by
 obtain ⟨⟨M, cM⟩, ⟨I, cI⟩, ⟨K, cK⟩⟩ := z
 have hl8 := kpsV_len b.kps
 have hl8a := kpsV_len (b.kps.set i { b.kps[i] with ph := UInt8.ofNat p.toNat })
 have hl8b := kpsV_len (b.kps.set i { b.kps[i] with ph := UInt8.ofNat p.toNat, si := now })
 rw [List.length_set] at hl8a hl8b
 rw [kAt_eq hi]
 refine Ct.of _ Tryz.func89 Tryz.ntmps89 rfl rfl (fun X W => ?_)
 refine Jc.qs<|Jc.qr<|Jl.pv (PR.qm rfl)<|Jl.pv (PR.nilCheck rfl)<|Jl.pv (PR.qf rfl tfl38_5) ?_
 refine Jl.pv (PR.load1 rfl tsh34 zH (by rfl)) ?_
 refine Jl.pv (PR.qm rfl) ?_
 refine Jl.pv (PR.idxO i rfl rfl tsl34 zD (by decide) rfl hi) ?_
 refine Jl.pv (PR.qa rfl)<|Jl.qn<|Jq.qt<|Jc.qs ?_
 refine Jc.drawn [0, 1, 3, 7, 0, 16, 48, 127] ([], []) [⟨[(0, false), (1, false), (2, false), (3, false), (4, false), (5, false), (6, false)], [], 7⟩] tmx (by kernel_rfl) ?_
 refine Dh.JH.cons<|Dh.JB.pv rfl trivial (fun _ => PR.qm rfl) ?_
 refine Dh.JB.rd [.row _ _ _ _ _] rfl trivial zT (fun _ => PR.nilCheckO rfl Del.here (by omega)) ?_
 refine Dh.JB.rd [.row _ _ _ _ _] rfl trivial zT (fun _ => PR.fieldAddrO rfl tfl72_4 Del.here (by omega)) ?_
 refine Dh.JB.rd [.row _ _ _ _ _] rfl trivial zT (fun _ => PR.loadO rfl tsh5 Del.here (kps_f hi 4 rfl)) ?_
 refine Dh.JB.pv rfl trivial (fun _ => PR.qm rfl) ?_
 refine Dh.JB.pv rfl trivial (fun _ => PR.idx1 1 rfl rfl tsl23 zM rfl rfl (by simp)) ?_
 refine Dh.JB.pv rfl trivial (fun _ => PR.loadR rfl tsh3 zM rfl) ?_
 refine Dh.JB.nil<|Dh.JL.nil ?_
 refine Dh.JE.mk rfl (fun _ h => by cases h) (fun C1_7 => ?_)
 refine Jl.call (legal_ct b.kps[i].ph p hp) en90 (by rfl) zT zF ?_
 rintro ⟨⟩
 refine Jl.qn ?_
 refine Dh.Jq.segV zX ?_ zK
 refine Dh.JH.nil ?_
 refine Dh.JB.nil<|Dh.JL.nil<|Jq.qt ?_
 refine Jc.cond rfl (fun hl => ?_) (fun hl => ?_)
 · try replace hl := zV hl
   refine Jc.drawn [0, 0, 0, 0, 8, 24, 56, 0, 128, 384, 1017, 2041, 4089, 8187, 16379, 32763, 65535, 131071, 262143] ([], []) [⟨[(0, false), (1, false), (2, false), (3, false), (4, false), (5, false), (6, false), (7, false), (8, false), (9, false), (10, false), (11, false)], [], 12⟩, ⟨[(13, false), (14, false)], [], 15⟩, ⟨[(16, false), (17, false)], [], 18⟩] tmx (by kernel_rfl) ?_
   refine Dh.JH.cons<|Dh.JB.pv rfl trivial (fun _ => PR.qm rfl)<|Dh.JB.pv rfl trivial (fun _ => PR.qm rfl)<|Dh.JB.pv rfl trivial (fun _ => PR.qm rfl)<|Dh.JB.pv rfl trivial (fun _ => PR.qm rfl) ?_
   refine Dh.JB.pv rfl trivial (fun _ => PR.idx1 1 rfl rfl tsl23 zM rfl rfl (by simp)) ?_
   refine Dh.JB.pv rfl trivial (fun _ => PR.loadR rfl tsh3 zM rfl) ?_
   refine Dh.JB.pv rfl trivial (fun _ => PR.conv ((UInt8.ofNat p.toNat).toNat : Int) rfl Tryz.underlying3 Tryz.underlying5 (by rw [IntKind.wrap_u8]; simp; omega)) ?_
   refine Dh.JB.pv rfl trivial (fun _ => PR.qm rfl) ?_
   refine Dh.JB.pv rfl trivial (fun _ => PR.idx1 2 rfl rfl tsl23 zM rfl rfl (by simp)) ?_
   refine Dh.JB.pv rfl trivial (fun _ => PR.loadR rfl tsh3 zM rfl) ?_
   refine Dh.JB.rd [.row _ _ _ _ _] rfl trivial zT (fun _ => PR.nilCheckO rfl Del.here (by omega)) ?_
   refine Dh.JB.rd [.row _ _ _ _ _] rfl trivial zT (fun _ => PR.fieldAddrO rfl tfl72_4 Del.here (by omega)) ?_
   refine Dh.JB.nil<|Dh.JL.nil ?_
   refine Dh.JE.mk rfl (fun _ h => by cases h) (fun C2_12 => ?_)
   refine Jl.storeO rfl tsh5 rfl (by rfl) zS (by omega) (kps_set (x := { b.kps[i] with ph := UInt8.ofNat p.toNat }) hi (by decide) rfl) ?_
   refine Jl.qn ?_
   refine Dh.Jq.segN zX ?_ zK
   refine Dh.JH.cons ?_
   refine Dh.JB.rd [.row _ _ _ _ _] rfl trivial zT (fun _ => PR.nilCheckO rfl Del.here (by omega)) ?_
   refine Dh.JB.rd [.row _ _ _ _ _] rfl trivial zT (fun _ => PR.fieldAddrO rfl tfl72_5 Del.here (by omega)) ?_
   refine Dh.JB.nil<|Dh.JL.nil ?_
   refine Dh.JE.mk rfl (fun _ h => by cases h) (fun C2_15 => ?_)
   refine Jl.storeO rfl tsh3 rfl (by rfl) zS (by omega) ((kps_set (l := b.kps.set i { b.kps[i] with ph := UInt8.ofNat p.toNat }) (x := { b.kps[i] with ph := UInt8.ofNat p.toNat, si := now }) (by rw [List.length_set]; exact hi) (by decide) (by rw [List.getElem_set_self]; rfl)).trans (by rw [List.set_set])) ?_
   refine Jl.qn ?_
   refine Dh.Jq.segN zX ?_ zK
   refine Dh.JH.cons ?_
   refine Dh.JB.rd [.row _ _ _ _ _] rfl trivial zT (fun _ => PR.nilCheckO rfl Del.here (by omega)) ?_
   refine Dh.JB.rd [.row _ _ _ _ _] rfl trivial zT (fun _ => PR.fieldAddrO rfl tfl72_7 Del.here (by omega)) ?_
   refine Dh.JB.nil<|Dh.JL.nil ?_
   refine Dh.JE.mk rfl (fun _ h => by cases h) (fun C2_18 => ?_)
   refine Jl.storeO rfl tsh4 rfl (by rfl) zS (by omega) ((kps_set (l := b.kps.set i { b.kps[i] with ph := UInt8.ofNat p.toNat, si := now }) (x := { b.kps[i] with ph := UInt8.ofNat p.toNat, si := now, co := false }) (by rw [List.length_set]; exact hi) (by decide) (by rw [List.getElem_set_self]; rfl)).trans (by rw [List.set_set])) ?_
   refine Jl.qn ?_
   refine Dh.Jq.segN zX ?_ zK
   refine Dh.JH.nil ?_
   refine Dh.JB.nil<|Dh.JL.nil ?_
   rw [if_pos hl, onK1_st]
   exact Jq.fin () (.inr rfl) rfl RetVs.nil rfl zT zF
 try replace hl := zW hl
 refine Jc.skip ?_
 rw [if_neg (by simp [hl])]
 exact Jq.fin () (.inr rfl) rfl RetVs.nil rfl zT zF
end Go.Proofs.YtakbgccddokbbaaGreatDoor
namespace Go.Proofs.YtakbgccddokbbaaGreatDoor
open Go.RowKit
attribute [local irreducible] Res.blk Res.row Fact.rd Res.mapV
def rcvals (zs : Rcs) (k : Nat) : List Value := match zs[k]? with
 | some z => [z.2.v z.1]
 | none => [Rc.zero.v (none, 0)]
theorem rcvals_at {zs : Rcs} {k : Nat} (h : k < zs.length) : rcvals zs k = [zs[k].2.v zs[k].1] := by rw [rcvals, List.getElem?_eq_getElem h]
theorem rcvals_len (zs : Rcs) (k : Nat) : (rcvals zs k).length = 1 := by unfold rcvals; split <;> rfl
theorem records_ct (L : Option Addr) (n cL : Nat) : Ct Tryz.prog 53 [.slice L n cL] [] [] (fun b : Nat => .func (.func 72) #[] #[.pointer (some ⟨b, 0, none⟩)]) (fun b => [.blk b 22 [.slice L n cL]]) (fun _ => []) := by
 refine Ct.of _ Tryz.func53 Tryz.ntmps53 rfl rfl (fun X W => ?_)
 refine Jc.qs<|Jc.qr ?_
 refine Jl.box rfl (by rfl) ?_
 intro b1
 refine Jl.pv (PR.qa rfl)<|Jl.qn<|Jq.qt<|Jc.qs<|Jc.qr ?_
 refine Jl.pv (PR.makeFunc rfl rfl) ?_
 refine Jl.pv (PR.qa rfl)<|Jl.qn<|Jq.qt<|Jc.ret ?_
 exact Jq.fin b1 (.inl rfl) rfl (RetVs.tmp rfl RetVs.nil) rfl zT zF
theorem records1_it (L : Option Addr) (cL b0 : Nat) (zs : Rcs) (hn : zs.length ≤ 1000000) : It Tryz.prog 72 [.pointer (some ⟨b0, 0, none⟩)] [.blk b0 22 [.slice L zs.length cL]] [.rd L (rcsV zs)] zs.length (rcvals zs) := by
 refine It.of _ Tryz.func72 Tryz.ntmps72 rfl rfl (by rfl) (by simp only [List.mem_singleton]; rintro φ rfl; exact Fact.rd_old _ _) (fun W l cl clx hy => ?_)
 have hrl := rcsV_len zs
 refine Jc.qs<|Jc.qr ?_
 refine Jl.pv (PR.load1 rfl tsh22 zH (by rfl)) ?_
 refine Jl.pv (PR.len rfl tsl22) ?_
 refine Jl.pv (PR.qm rfl)<|Jl.qn<|Jq.qt ?_
 refine Jc.block ?_
 refine Jc.loop (σ := { k : Nat // k ≤ zs.length }) (fun s => [(7, .int .i64 (s.1 : Int)), (6, .int .i64 (zs.length : Int)), (5, .slice L zs.length cL), (0, .func (.yield l) #[] #[])]) (fun _ => [.blk b0 22 [.slice L zs.length cL]]) (fun s => [cl s.1, .rd L (rcsV zs)]) (fun s => zs.length - s.1) ⟨0, Nat.zero_le _⟩ (by repeat (first | exact trivial | refine And.intro rfl ?_)) rfl zF ?_
 rintro ⟨k, hk⟩
 show Jc _ _ _ _ _ _ [(7, Value.int .i64 (k : Int)), (6, .int .i64 (zs.length : Int)), (5, .slice L zs.length cL), (0, .func (.yield l) #[] #[])] [.blk b0 22 [.slice L zs.length cL]] [cl k, .rd L (rcsV zs)]
 refine Jc.qs<|Jc.qr ?_
 refine Jl.pv (PR.lss _ rfl rfl rfl) ?_
 refine Jl.qn<|Jq.qt<|Jc.qs ?_
 refine Jc.cond rfl (fun h0 => ?_) (fun h0 => ?_)
 · try replace h0 := zV h0
   have hlt : k < zs.length := by omega
   refine Jc.skip<|Jq.qt<|Jc.qs ?_
   refine Jc.block ?_
   refine Jc.qs<|Jc.qr ?_
   refine Jl.pv (PR.idx k rfl rfl tsl22 zM (rcsV_len _) (by omega) rfl hlt) ?_
   refine Jl.pv (PR.loadRA rfl tsh54 zM (by decide) (rcs_at hlt)) ?_
   refine Jl.alloc tze54 ?_
   intro b4
   refine Jl.storeW rfl tsh54 rfl (by rfl) (by simp [Value.oneCell', Rc.cs]) zS (by rfl) ?_
   refine Jl.qn<|Jq.qt<|Jc.qs<|Jc.qr<|Jl.pv (PR.qm rfl) ?_
   refine Jl.pv (PR.loadW rfl tsh54 zH (by rfl)) ?_
   refine hy _ _ _ _ _ _ _ _ _ _ _ _ _ _ k (by omega) rfl (by rw [rcvals_at hlt]; rfl) zM rfl ?_ ?_
   · refine Jl.pv (PR.not rfl) ?_
     refine Jl.qn<|Jq.qt<|Jc.condF rfl<|Jc.skip ?_
     refine Jq.blkN ?_
     refine Jq.qt<|Jc.qr ?_
     refine Jl.pv (PR.add ((k + 1 : Nat) : Int) rfl rfl (by rw [w64 (by omega) (by omega)]; rfl)) ?_
     refine Jl.pv (PR.qm rfl)<|Jl.qn ?_
     exact Jq.againT ⟨k + 1, hlt⟩ (by simp only; omega) (by repeat (first | exact trivial | refine And.intro rfl ?_)) zT zF
   refine Jl.pv (PR.not rfl) ?_
   refine Jl.qn<|Jq.qt<|Jc.condT rfl<|Jc.ret ?_
   refine Jq.blkR ?_
   refine Jq.thenR<|Jq.thenR ?_
   refine Jq.blkR ?_
   exact Jq.itStop (k := k) (.inl rfl) (by omega) zM
 try replace h0 := zW h0
 obtain rfl : k = zs.length := by omega
 refine Jc.exit ?_
 refine Jq.thenX ?_
 refine Jq.thenX ?_
 refine Jq.blkX ?_
 exact Jq.itDone (.inr rfl) zM
def allK (b : Br) (zs : Rcs) (k : Nat) : Br := (zs.take k).foldl (fun b z => b.apply z.2) b
theorem allK_succ (b : Br) {zs : Rcs} {k : Nat} (h : k < zs.length) : allK b zs (k + 1) = (allK b zs k).apply zs[k].2 := by
 rw [allK, List.take_succ_eq_append_getElem h, List.foldl_append]; rfl
theorem allK_end (b : Br) (zs : Rcs) : allK b zs zs.length = zs.foldl (fun b z => b.apply z.2) b := by rw [allK, List.take_length]
structure StepOk (φ : Fact) (b : Br) (r : Rc) (x : AdC) : Prop where
 len : r.l.length ≤ 1000
 cap : r.l.length ≤ x.2
 deed : ∀ z, r.k.toNat ≠ 2 → dT r.k.toNat = true → (r.l.length : Int) = dM r.k.toNat → numsOk r.l = true → DeedOk φ b z r x
 no : r.k.toNat ≠ 2 → ¬ (dT r.k.toNat = true ∧ (r.l.length : Int) = dM r.k.toNat) → b.deed r.k.toNat r.l = b
theorem ball_ct (φ : Fact) (b : Br) (z : BrA) (L : Option Addr) (cL : Nat) (zs : Rcs) (hn : b.its.length ≤ 1000000) (hm : b.kps.length ≤ 1000000) (hms : b.cf.ms.length ≤ 1000000) (hz : zs.length ≤ 1000000) (hS : ∀ k (h : k < zs.length), StepOk φ (allK b zs k) zs[k].2 zs[k].1) :
 Ct Tryz.prog 29 [b.v z, .slice L zs.length cL] [] (b.rd z ++ [.rd L (rcsV zs), .rcs zs, .lim, φ]) (fun x : BrA => (allK b zs zs.length).v x) (fun x => (allK b zs zs.length).rows x) (fun _ => []) := by
 obtain ⟨⟨M, cM⟩, ⟨I, cI⟩, ⟨K, cK⟩⟩ := z
 refine Ct.of _ Tryz.func29 Tryz.ntmps29 rfl rfl (fun X W => ?_)
 refine Jc.qs<|Jc.qr ?_
 refine Jl.box rfl (by rfl) ?_
 intro b2
 refine Jl.alloc tze38 ?_
 intro b4
 refine Jl.qn<|Jq.qt<|Jc.qs<|Jc.qr ?_
 refine Jl.pv (PR.loadW rfl tsh38 zH (by rfl)) ?_
 refine Jl.call (bown_ct b ((M, cM), (I, cI), (K, cK)) hn hm hms) en28 (by rfl) zT zF ?_
 rintro ⟨⟨A1, c1⟩, ⟨A2, c2⟩, ⟨A3, c3⟩⟩
 refine Jl.storeW rfl tsh38 rfl (by rfl) (by first | exact Br.cs_one _ _ | simp [Value.oneCell', Rc.cs]) zS (by rfl) ?_
 refine Jl.qn<|Jq.qt<|Jc.qs<|Jc.qs<|Jc.qr<|Jl.pv (PR.qm rfl) ?_
 refine Jl.call (records_ct L zs.length cL) en53 (by rfl) zT zF ?_
 rintro b9
 refine Jl.qn<|Jq.qt ?_
 refine Jc.block ?_
 refine Jc.lessR (rs := .blk b9 22 [.slice L zs.length cL] :: .blk b4 38 ((⟨0, 0, false, Cf.zero, [], [], ⟨0, 0, 0, 0, false, 0, 0⟩⟩ : Br).cs ((none, 0), (none, 0), (none, 0))) :: (allK b zs 0).st b2 ((A1, c1), (A2, c2), (A3, c3))) zT ?_
 refine Jc.range (σ := Nat × BrA) (τ := Empty) (Inv := fun k s => s.1 = k) (Rs := fun s => .blk b4 38 ((⟨0, 0, false, Cf.zero, [], [], ⟨0, 0, 0, 0, false, 0, 0⟩⟩ : Br).cs ((none, 0), (none, 0), (none, 0))) :: (allK b zs s.1).st b2 s.2) (Φs := fun _ => [.rd L (rcsV zs), .rcs zs, .lim, φ]) (InvX := fun _ _ x => x.elim) (RsX := fun x => x.elim) (ΦsX := fun x => x.elim) (vals := rcvals zs) rfl en72 (records1_it L cL b9 zs hz) zT zF (rcvals_len zs) rfl (0, ((A1, c1), (A2, c2), (A3, c3))) rfl rfl zF ?_ ?_ ?_
 · rintro k ⟨j, z'⟩ hk hj l C1
   obtain rfl : j = k := hj
   rw [rcvals_at hk]
   refine Jc.fact (.rd zs[j].1.1 (i64s zs[j].2.l)) (φ := .rcs zs) zM (fun X W h => h _ (List.getElem_mem hk)) ?_
   show Jc _ _ _ _ _ _ (psetL [10] [zs[j].2.v zs[j].1] _) (.blk b4 38 ((⟨0, 0, false, Cf.zero, [], [], ⟨0, 0, 0, 0, false, 0, 0⟩⟩ : Br).cs ((none, 0), (none, 0), (none, 0))) :: (allK b zs j).st b2 z') [.rd zs[j].1.1 (i64s zs[j].2.l), .rd L (rcsV zs), .rcs zs, .lim, φ]
   have hs := hS j hk
   refine Jc.qr ?_
   refine Jl.alloc tze54 ?_
   intro b5
   refine Jl.storeW rfl tsh54 rfl (by rfl) (by first | exact Br.cs_one _ _ | simp [Value.oneCell', Rc.cs]) zS (by rfl) ?_
   refine Jl.qn ?_
   refine Jq.assigned (fun C2 => ?_)
   refine Jc.block ?_
   refine Jc.qr ?_
   refine Jl.pv (PR.loadW rfl tsh54 zH (by rfl)) ?_
   refine Jl.call (apply_ct φ (allK b zs j) z' b2 zs[j].2 zs[j].1 hs.len hs.cap (hs.deed z') hs.no) en54 (by rfl) zT zF ?_
   rintro z''
   refine Jl.qn ?_
   refine Jq.blkN ?_
   rw [← allK_succ b hk]
   refine Jq.lessR (rs := .blk b4 38 ((⟨0, 0, false, Cf.zero, [], [], ⟨0, 0, 0, 0, false, 0, 0⟩⟩ : Br).cs ((none, 0), (none, 0), (none, 0))) :: (allK b zs (j + 1)).st b2 z'') zT ?_
   exact Jq.next (j + 1, z'') rfl rfl zF
 · rintro ⟨j, z'⟩ D0 hj
   obtain rfl : j = zs.length := hj
   refine Jq.blkN ?_
   refine Jq.qt<|Jc.qs<|Jc.qr ?_
   refine Jl.pv (PR.loadW rfl tsh38 zH (by rfl)) ?_
   refine Jl.storeW rfl tsh38 rfl (by rfl) (by first | exact Br.cs_one _ _ | simp [Value.oneCell', Rc.cs]) zS (by rfl) ?_
   refine Jl.qn<|Jq.qt<|Jc.ret ?_
   exact Jq.finM (Ds := [D0]) z' (.inl rfl) rfl zT (RetVs.cellA rfl zH tsh38 (by rfl) RetVs.nil) rfl zT zF
 exact fun _ _ t => t.elim
theorem bapply_ct (φ : Fact) (b : Br) (z : BrA) (r : Rc) (x : AdC) (hn : b.its.length ≤ 1000000) (hm : b.kps.length ≤ 1000000) (hms : b.cf.ms.length ≤ 1000000) (hS : StepOk φ b r x) :
 Ct Tryz.prog 61 [b.v z, r.v x] [] (b.rd z ++ [.rd x.1 (i64s r.l), .lim, φ]) (fun y : BrA => (b.apply r).v y) (fun y => (b.apply r).rows y) (fun _ => []) := by
 obtain ⟨⟨M, cM⟩, ⟨I, cI⟩, ⟨K, cK⟩⟩ := z
 obtain ⟨A, cA⟩ := x
 refine Ct.of _ Tryz.func61 Tryz.ntmps61 rfl rfl (fun X W => ?_)
 refine Jc.qs<|Jc.qr ?_
 refine Jl.box rfl (by rfl) ?_
 intro b2
 refine Jl.box rfl (by rfl) ?_
 intro b3
 refine Jl.alloc tze38 ?_
 intro b4
 refine Jl.qn<|Jq.qt<|Jc.qs<|Jc.qr ?_
 refine Jl.pv (PR.loadW rfl tsh38 zH (by rfl)) ?_
 refine Jl.pv (PR.loadW rfl tsh54 zH (by rfl)) ?_
 refine Jl.buildSlice (by rfl) tsl22 tzr22_1 (by rfl) (by rfl) ?_
 intro b7
 refine Jl.seal zD ?_
 refine Jl.fact (.rcs [((A, cA), r)]) (φ := .rd A (i64s r.l)) zM (fun X W h z hz => by rw [List.mem_singleton] at hz; subst hz; exact h) ?_
 refine Jl.call (ball_ct φ b ((M, cM), (I, cI), (K, cK)) (some ⟨b7, 0, none⟩) 1 [((A, cA), r)] hn hm hms (by simp) (fun k h => by obtain rfl : k = 0 := (by simp at h; omega); exact hS)) en29 (by rfl) zT zF ?_
 rintro y
 refine Jl.storeW rfl tsh38 rfl (by rfl) (by first | exact Br.cs_one _ _ | simp [Value.oneCell', Rc.cs]) zS (by rfl) ?_
 refine Jl.qn<|Jq.qt<|Jc.ret ?_
 exact Jq.fin y (.inl rfl) rfl (RetVs.cellA rfl zH tsh38 (by rfl) RetVs.nil) rfl zT zF
end Go.Proofs.YtakbgccddokbbaaGreatDoor
namespace Go.Proofs.YtakbgccddokbbaaGreatDoor
open Go.RowKit
attribute [local irreducible] Res.blk Res.row Fact.rd Res.mapV Fact.chg
theorem kept2_ct (b : Br) (z : BrA) (bb bd : Nat) (L : Option Addr) (cL : Nat) (id : Int) (l : List Int) (hm : b.kps.length ≤ 1000000) (inner : FuncId) (hen : ∀ args w, (callFunc inner args).run Tryz.prog w = .ok (.enter inner args) w) (T : Br)
    (hno : b.findK id = none → T = b) (hin : ∀ i, b.findK id = some i → Ct Tryz.prog inner [ptr bb, .int .i64 (i : Int), .slice L (id :: l).length cL] (b.st bb z) [.rd L (i64s (id :: l)), .chg] (fun _ : Unit => .tuple #[]) (fun _ => T.st bb z) (fun _ => [])) :
    Ct Tryz.prog 119 [ptr bb, .slice L (id :: l).length cL, ptr bd] (.blk bd 136 [.func (.func inner) #[] #[]] :: b.st bb z) [.rd L (i64s (id :: l)), .chg] (fun _ : Unit => .tuple #[]) (fun _ => T.st bb z) (fun _ => []) := by
  obtain ⟨⟨M, cM⟩, ⟨I, cI⟩, ⟨K, cK⟩⟩ := z
  cases hf : b.findK id with
  | none =>
    obtain rfl := hno hf
    refine Ct.of _ Tryz.func119 Tryz.ntmps119 rfl rfl (fun X W => ?_)
    refine Jc.qs ?_
    refine Jc.drawn [0, 1, 3, 0, 8, 24, 63, 127] ([(7, false)], []) [⟨[(0, false), (1, false), (2, false), (3, false), (4, false), (5, false)], [], 6⟩] tmx (by kernel_rfl) ?_
    refine Dh.JH.cons<|Dh.JB.pv rfl trivial (fun _ => PR.qm rfl) ?_
    refine Dh.JB.pv rfl trivial (fun _ => PR.nilCheck rfl) ?_
    refine Dh.JB.rd [.blk _ _ _] rfl trivial zT (fun _ => PR.loadA rfl tsh38 Has.here (by rfl)) ?_
    refine Dh.JB.pv rfl trivial (fun _ => PR.qm rfl) ?_
    refine Dh.JB.pv rfl trivial (fun _ => PR.idx1 0 rfl rfl tsl23 zM (by simp [i64s]) rfl (by simp)) ?_
    refine Dh.JB.pv rfl trivial (fun _ => PR.loadR rfl tsh3 zM rfl) ?_
    refine Dh.JB.nil<|Dh.JL.nil ?_
    refine Dh.JE.mk rfl (fun _ h => by cases h) (fun C0_6 => ?_)
    refine Jl.calll (fs := []) (cs := []) (bfind_ct T ((M, cM), (I, cI), (K, cK)) id hm) en116 rfl (by rfl) (by rfl) zT (ls := [T.rM ((M, cM), (I, cI), (K, cK)), T.rI ((M, cM), (I, cI), (K, cK)), T.rK ((M, cM), (I, cI), (K, cK))]) zT zL zF ?_
    rintro ⟨⟩
    refine Jl.as (.int .i64 (-1)) (by rw [hf]; rfl) ?_
    refine Jl.qn ?_
    refine Dh.Jq.segV zX ?_ zK
    refine Dh.JH.nil ?_
    refine Dh.JB.pv rfl trivial (fun _ => PR.qa rfl) ?_
    refine Dh.JB.nil<|Dh.JL.nil<|Jq.qt<|Jc.qs<|Jc.qr<|Jl.pv (PR.qm rfl) ?_
    refine Jl.pv (PR.geq false rfl rfl (by decide)) ?_
    refine Jl.qn<|Jq.qt<|Jc.condF rfl<|Jc.skip ?_
    exact Jq.fin () (.inr rfl) rfl RetVs.nil rfl zT zF
  | some i =>
    have hct := hin i hf
    refine Ct.of _ Tryz.func119 Tryz.ntmps119 rfl rfl (fun X W => ?_)
    refine Jc.qs ?_
    refine Jc.drawn [0, 1, 3, 0, 8, 24, 63, 127] ([(7, false)], []) [⟨[(0, false), (1, false), (2, false), (3, false), (4, false), (5, false)], [], 6⟩] tmx (by kernel_rfl) ?_
    refine Dh.JH.cons<|Dh.JB.pv rfl trivial (fun _ => PR.qm rfl) ?_
    refine Dh.JB.pv rfl trivial (fun _ => PR.nilCheck rfl) ?_
    refine Dh.JB.rd [.blk _ _ _] rfl trivial zT (fun _ => PR.loadA rfl tsh38 Has.here (by rfl)) ?_
    refine Dh.JB.pv rfl trivial (fun _ => PR.qm rfl) ?_
    refine Dh.JB.pv rfl trivial (fun _ => PR.idx1 0 rfl rfl tsl23 zM (by simp [i64s]) rfl (by simp)) ?_
    refine Dh.JB.pv rfl trivial (fun _ => PR.loadR rfl tsh3 zM rfl) ?_
    refine Dh.JB.nil<|Dh.JL.nil ?_
    refine Dh.JE.mk rfl (fun _ h => by cases h) (fun C0_6 => ?_)
    refine Jl.calll (fs := []) (cs := []) (bfind_ct b ((M, cM), (I, cI), (K, cK)) id hm) en116 rfl (by rfl) (by rfl) zT (ls := [b.rM ((M, cM), (I, cI), (K, cK)), b.rI ((M, cM), (I, cI), (K, cK)), b.rK ((M, cM), (I, cI), (K, cK))]) zT zL zF ?_
    rintro ⟨⟩
    refine Jl.as (.int .i64 (i : Int)) (by rw [hf]; rfl) ?_
    refine Jl.qn ?_
    refine Dh.Jq.segV zX ?_ zK
    refine Dh.JH.nil ?_
    refine Dh.JB.pv rfl trivial (fun _ => PR.qa rfl) ?_
    refine Dh.JB.nil<|Dh.JL.nil<|Jq.qt<|Jc.qs<|Jc.qr<|Jl.pv (PR.qm rfl) ?_
    refine Jl.pv (PR.geq true rfl rfl (decide_eq_true (by omega))) ?_
    refine Jl.qn<|Jq.qt<|Jc.condT rfl<|Jc.qr ?_
    refine Jl.pv (PR.load1 rfl tsh136 zH (by rfl)) ?_
    refine Jl.pv (PR.qm rfl)<|Jl.pv (PR.qm rfl)<|Jl.pv (PR.qm rfl) ?_
    refine Jl.callv hct hen rfl (by rfl) (by rfl) zT zF ?_
    rintro ⟨⟩
    refine Jl.qn ?_
    exact Jq.fin () (.inr rfl) rfl RetVs.nil rfl zT zF
theorem len3 {l : List Int} (h : (l.length : Int) = 3) : ∃ a b c, l = [a, b, c] := by
 match l, h with
 | [a, b, c], _ => exact ⟨a, b, c, rfl⟩
 | [], h => exact absurd h (by simp)
 | [a], h => exact absurd h (by simp)
 | [a, b], h => exact absurd h (by simp)
 | a :: b :: c :: d :: l, h => exact absurd h (by simp; omega)
theorem len5 {l : List Int} (h : (l.length : Int) = 5) : ∃ a b c d e, l = [a, b, c, d, e] := by
 match l, h with
 | [a, b, c, d, e], _ => exact ⟨a, b, c, d, e, rfl⟩
 | [], h => exact absurd h (by simp)
 | [a], h => exact absurd h (by simp)
 | [a, b], h => exact absurd h (by simp)
 | [a, b, c], h => exact absurd h (by simp)
 | [a, b, c, d], h => exact absurd h (by simp)
 | a :: b :: c :: d :: e :: f :: l, h => exact absurd h (by simp; omega)
structure Br.Fit (b : Br) : Prop where
 ep : -9223372036854775808 ≤ b.ep
 sq : -9223372036854775808 ≤ b.sq
 its : b.its.length ≤ 900000
 kps : b.kps.length ≤ 900000
theorem phaseT (b : Br) (id p now : Int) : (b.findK id = none → b.phase id p now = b) ∧ ∀ i, b.findK id = some i → b.phase id p now = if legal (b.kAt i).ph.toNat p = true then b.onK1 i { b.kAt i with ph := UInt8.ofNat p.toNat, si := now, co := false } else b :=
 ⟨fun h => by rw [Br.phase, h], fun i h => by rw [Br.phase, h]⟩
theorem goneT (b : Br) (id : Int) : (b.findK id = none → b.goneK id = b) ∧ ∀ i, b.findK id = some i → b.goneK id = { b with kps := b.kps.take i ++ b.kps.drop (i + 1) } :=
 ⟨fun h => by rw [Br.goneK, h], fun i h => by rw [Br.goneK, h]⟩
theorem deed_all (b : Br) (z : BrA) (r : Rc) (x : AdC) (hb : b.Fit) (h2 : r.k.toNat ≠ 2) (hk : dT r.k.toNat = true) (hl : (r.l.length : Int) = dM r.k.toNat) (hnum : numsOk r.l = true) : DeedOk .chg b z r x := by
 by_cases ha : admK r.k.toNat = true
 · exact deed_adm .chg b z r x (Nat.le_trans hb.kps (by decide)) ha hl
 obtain ⟨k, l⟩ := r
 obtain ⟨L, cL⟩ := x
 obtain ⟨q1, q2, q3, q4⟩ := hb
 intro p bb
 simp only [admK, Bool.or_eq_true, decide_eq_true_eq] at ha
 simp only [dT, decide_eq_true_eq] at hk
 have hk' : k.toNat = 1 ∨ k.toNat = 3 ∨ k.toNat = 4 ∨ k.toNat = 5 ∨ k.toNat = 6 ∨ k.toNat = 7 ∨ k.toNat = 8 ∨ k.toNat = 14 ∨ k.toNat = 16 := by omega
 rcases hk' with h | h | h | h | h | h | h | h | h <;> (simp only [h] at hl ⊢)
 · obtain rfl := len0 hl
   exact ⟨_, [], rfl, en84, Ct.facts (pre := [.rd L (i64s [])]) zF (Ct.unit z (Ct.more zT (dboot_ct b z bb L cL q1)) rfl rfl)⟩
 · obtain ⟨v, zo, w, rfl⟩ := len3 hl
   exact ⟨_, [], rfl, en85, Ct.facts (pre := [.rd L (i64s [v, zo, w])]) zF (Ct.more zT (dintent_ct b z bb L cL v zo w q2 q3))⟩
 · obtain ⟨t, id, now, rfl⟩ := len3 hl
   exact ⟨_, [], rfl, en86, Ct.facts (pre := [.rd L (i64s [t, id, now])]) zF (Ct.more zT (dmade_ct b z bb L cL t id now q3 q4))⟩
 · obtain ⟨n, rfl⟩ := len1 hl
   exact ⟨_, [ptr p.k5], rfl, en121, Ct.facts (pre := [.rd L (i64s [n])]) zF (Ct.unit z (Ct.more zT (active1_ct b z bb p.k5 L cL [n] 97 en97 _ b.fail rfl fun _ => dfail_ct b z bb L cL n)) rfl rfl)⟩
 · obtain ⟨id, ph, now, rfl⟩ := len3 hl
   have hp : 0 ≤ ph := by simp [numsOk] at hnum; omega
   refine ⟨_, [ptr p.k6], rfl, en119, Ct.facts (pre := [.rd L (i64s [id, ph, now]), .chg]) zF (Ct.unit z (Ct.more zT (kept2_ct b z bb p.k6 L cL id [ph, now] (by omega) 89 en89 (b.phase id ph now) (phaseT b id ph now).1 fun i hi => ?_)) rfl rfl)⟩
   rw [(phaseT b id ph now).2 i hi]
   exact dphase_ct b z bb L cL id ph now i (findK_some hi).1 hp
 · obtain ⟨id, rfl⟩ := len1 hl
   refine ⟨_, [ptr p.k7], rfl, en119, Ct.facts (pre := [.rd L (i64s [id])]) zF (Ct.unit z (Ct.more zT (kept1_ct b z bb p.k7 L cL id [] (by omega) 91 en91 (b.goneK id) (goneT b id).1 fun i hi => ?_)) rfl rfl)⟩
   rw [(goneT b id).2 i hi]
   exact dgone_ct b z bb L cL id i (findK_some hi).1 q4
 · obtain ⟨id, t, v, zo, now, rfl⟩ := len5 hl
   exact ⟨_, [], rfl, en87, Ct.facts (pre := [.rd L (i64s [id, t, v, zo, now])]) zF (Ct.more zT (dtake_ct b z bb L cL id t v zo now q4))⟩
 · obtain ⟨now, rfl⟩ := len1 hl
   exact ⟨_, [ptr p.k14], rfl, en121, Ct.facts (pre := [.rd L (i64s [now])]) zF (Ct.unit z (Ct.more zT (active1_ct b z bb p.k14 L cL [now] 100 en100 _ (b.pause now) rfl fun _ => dpause_ct b z bb L cL now)) rfl rfl)⟩
 · obtain rfl := len0 hl
   exact ⟨_, [ptr p.k16], rfl, en121, Ct.facts (pre := [.rd L (i64s [])]) zF (Ct.unit z (Ct.more zT (active1_ct b z bb p.k16 L cL [] 102 en102 _ b.done1 rfl fun _ => ddone_ct b z bb L cL)) rfl rfl)⟩
end Go.Proofs.YtakbgccddokbbaaGreatDoor
namespace Go.Proofs.YtakbgccddokbbaaGreatDoor
open Go.RowKit
attribute [local irreducible] Res.blk Res.row Fact.rd
def bz0 : Br := ⟨0, 0, false, Cf.zero, [], [], ⟨0, 0, 0, 0, false, 0, 0⟩⟩
abbrev nilZ : BrA := ((none, 0), (none, 0), (none, 0))
end Go.Proofs.YtakbgccddokbbaaGreatDoor
namespace Go.Proofs.YtakbgccddokbbaaGreatDoor
open Go.RowKit
attribute [local irreducible] Res.blk Res.row Fact.rd
end Go.Proofs.YtakbgccddokbbaaGreatDoor
namespace Go.Proofs.YtakbgccddokbbaaGreatDoor
open Go.RowKit
attribute [local irreducible] Res.blk Res.row Fact.rd
end Go.Proofs.YtakbgccddokbbaaGreatDoor
namespace Go.Proofs.YtakbgccddokbbaaGreatDoor
open Go.RowKit
attribute [local irreducible] Res.blk Res.row Fact.rd
end Go.Proofs.YtakbgccddokbbaaGreatDoor
namespace Go.Proofs.YtakbgccddokbbaaGreatDoor
open Go.RowKit
attribute [local irreducible] Res.blk Res.row Fact.rd
end Go.Proofs.YtakbgccddokbbaaGreatDoor
namespace Go.Proofs.YtakbgccddokbbaaGreatDoor
open Go.RowKit
def TL (sq : Int) (l : List It1) : Prop := l.Pairwise (fun a c => a.tok < c.tok) ∧ ∀ x ∈ l, 1 ≤ x.tok ∧ x.tok ≤ sq
def KL (l : List Kp) : Prop := l.Pairwise (fun a c => a.id < c.id) ∧ ∀ x ∈ l, (1 ≤ x.id ∧ x.id ≤ 1099511627776) ∧ 1 ≤ x.ph.toNat ∧ x.ph.toNat ≤ 10
theorem tk_lt {b : Br} (h : ∀ k, k < b.its.length → b.TokOk k) {j : Nat} : ∀ {i : Nat}, j < i → i < b.its.length → b.tk j < b.tk i
  | 0, h1, _ => by omega
  | i + 1, h1, h2 => by
    have h3 : b.tk i < b.tk (i + 1) := (h (i + 1) h2).lo
    rcases Nat.lt_succ_iff_lt_or_eq.1 h1 with h4 | rfl
    · have := tk_lt h h4 (by omega); omega
    · exact h3
theorem tl_of {b : Br} (h : ∀ k, k < b.its.length → b.TokOk k) : TL b.sq b.its := by
 refine ⟨List.pairwise_iff_getElem.2 fun i j hi hj hij => ?_, fun x hx => ?_⟩
 · have := tk_lt h hij hj
   rw [tk_at hi, tk_at hj] at this
   exact this
 · obtain ⟨k, hk, rfl⟩ := List.mem_iff_getElem.1 hx
   have h1 := (h k hk).hi
   have h0 : (0 : Int) < b.tk 0 := (h 0 (by omega)).lo
   rw [tk_at hk] at h1
   refine ⟨?_, h1⟩
   rw [← tk_at hk]
   rcases Nat.eq_zero_or_pos k with rfl | hp
   · omega
   · have := tk_lt h hp hk; omega
theorem of_tl {b : Br} (h : TL b.sq b.its) : ∀ k, k < b.its.length → b.TokOk k := fun k hk => by
  have h2 := h.2 _ (List.getElem_mem hk)
  refine ⟨?_, by rw [tk_at hk]; exact h2.2⟩
  rw [tk_at hk]
  cases k with
  | zero => show (0 : Int) < _; omega
  | succ k =>
    show b.tk k < _
    rw [tk_at (show k < b.its.length by omega)]
    exact List.pairwise_iff_getElem.1 h.1 k (k + 1) (by omega) hk (by omega)
theorem idn_lt' {b : Br} (h : ∀ k, k < b.kps.length → b.KpOk k) {j : Nat} : ∀ {i : Nat}, j < i → i < b.kps.length → b.idn j < b.idn i
  | 0, h1, _ => by omega
  | i + 1, h1, h2 => by
    have h3 : b.idn i < b.idn (i + 1) := (h (i + 1) h2).lo
    rcases Nat.lt_succ_iff_lt_or_eq.1 h1 with h4 | rfl
    · have := idn_lt' h h4 (by omega); omega
    · exact h3
theorem kl_of {b : Br} (h : ∀ k, k < b.kps.length → b.KpOk k) : KL b.kps := by
 refine ⟨List.pairwise_iff_getElem.2 fun i j hi hj hij => ?_, fun x hx => ?_⟩
 · have := idn_lt' h hij hj
   rw [idn_at hi, idn_at hj] at this
   exact this
 · obtain ⟨k, hk, rfl⟩ := List.mem_iff_getElem.1 hx
   have h1 := h k hk
   have h0 : (0 : Int) < b.idn 0 := (h 0 (by omega)).lo
   have h2 := h1.hi
   have h3 := h1.p1
   have h4 := h1.p2
   rw [phn_at hk] at h3 h4
   rw [idn_at hk] at h2
   refine ⟨⟨?_, h2⟩, h3, h4⟩
   rw [← idn_at hk]
   rcases Nat.eq_zero_or_pos k with rfl | hp
   · omega
   · have := idn_lt' h hp hk; omega
theorem of_kl {b : Br} (h : KL b.kps) : ∀ k, k < b.kps.length → b.KpOk k := fun k hk => by
  obtain ⟨h2, h3, h4⟩ := h.2 _ (List.getElem_mem hk)
  refine ⟨?_, by rw [idn_at hk]; exact h2.2, by rw [phn_at hk]; exact h3, by rw [phn_at hk]; exact h4⟩
  rw [idn_at hk]
  cases k with
  | zero => show (0 : Int) < _; omega
  | succ k =>
    show b.idn k < _
    rw [idn_at (show k < b.kps.length by omega)]
    exact List.pairwise_iff_getElem.1 h.1 k (k + 1) (by omega) hk (by omega)
theorem Br.Ok.mkL {b : Br} (he : 0 ≤ b.ep ∧ b.ep ≤ 1099511627776) (hs : 0 ≤ b.sq ∧ b.sq ≤ 1099511627776) (ht : TL b.sq b.its) (hk : KL b.kps) (hr : b.rf.st.toNat = 1 → (1 ≤ b.rf.fr ∧ b.rf.fr ≤ 1099511627776) ∧ 1 ≤ b.rf.ta ∧ b.rf.ta ≤ 1099511627776)
 (hu : b.set = false → b.its.length = 0 ∧ b.rf.st.toNat = 0) (hc : b.set = true → b.cf.ok = true) : b.Ok := ⟨he, hs, of_tl ht, of_kl hk, hr, hu, hc⟩
theorem kl_set {l : List Kp} (h : KL l) {i : Nat} (hi : i < l.length) {x : Kp} (hx : x.id = l[i].id) (hp : 1 ≤ x.ph.toNat ∧ x.ph.toNat ≤ 10) : KL (l.set i x) := by
 refine ⟨List.pairwise_iff_getElem.2 fun a c ha hc hac => ?_, fun y hy => ?_⟩
 · rw [List.length_set] at ha hc
   have := List.pairwise_iff_getElem.1 h.1 a c ha hc hac
   rw [List.getElem_set, List.getElem_set]
   split <;> split
   · omega
   · rename_i e _; subst e; rw [hx]; exact this
   · rename_i _ e; subst e; rw [hx]; exact this
   · exact this
 · rcases List.mem_or_eq_of_mem_set hy with hy | rfl
   · exact h.2 y hy
   · have := (h.2 _ (List.getElem_mem hi)).1
     rw [← hx] at this
     exact ⟨this, hp⟩
theorem kl_era {l : List Kp} (h : KL l) (i : Nat) : KL (l.take i ++ l.drop (i + 1)) := by
 rw [← List.eraseIdx_eq_take_drop_succ]
 exact ⟨h.1.sublist (List.eraseIdx_sublist ..), fun y hy => h.2 y ((List.eraseIdx_sublist ..).subset hy)⟩
theorem tl_era {sq : Int} {l : List It1} (h : TL sq l) (i : Nat) : TL sq (eraL l i) := by
 rw [eraL, ← List.eraseIdx_eq_take_drop_succ]
 exact ⟨h.1.sublist (List.eraseIdx_sublist ..), fun y hy => h.2 y ((List.eraseIdx_sublist ..).subset hy)⟩
theorem tl_add {sq : Int} {l : List It1} (h : TL sq l) (hs : 0 ≤ sq) {x : It1} (hx : x.tok = sq + 1) : TL (sq + 1) (l ++ [x]) := by
 refine ⟨List.pairwise_append.2 ⟨h.1, List.pairwise_singleton .., fun a ha c hc => ?_⟩, fun y hy => ?_⟩
 · rw [List.mem_singleton] at hc; subst hc
   have := (h.2 a ha).2; omega
 · rcases List.mem_append.1 hy with hy | hy
   · have := h.2 y hy; omega
   · rw [List.mem_singleton] at hy; subst hy; omega
theorem insAt_le (l : List Kp) (id : Int) : insAt l id ≤ l.length := List.findIdx_le_length
theorem kl_ins {l : List Kp} (h : KL l) {x : Kp} (hno : ∀ y ∈ l, y.id ≠ x.id) (hx : (1 ≤ x.id ∧ x.id ≤ 1099511627776) ∧ 1 ≤ x.ph.toNat ∧ x.ph.toNat ≤ 10) : KL (insL l (insAt l x.id) x) := by
 have hle := insAt_le l x.id
 have hlo : ∀ y ∈ l.take (insAt l x.id), y.id < x.id := fun y hy => by
  obtain ⟨j, hj, rfl⟩ := List.mem_iff_getElem.1 hy
  rw [List.length_take] at hj
  rw [List.getElem_take]
  have h1 := List.not_of_lt_findIdx (show j < l.findIdx fun k => decide (x.id < k.id) from by have : insAt l x.id = l.findIdx fun k => decide (x.id < k.id) := rfl; omega)
  simp only [Bool.not_eq_true, decide_eq_false_iff_not] at h1
  have h2 := hno _ (List.getElem_mem (show j < l.length by omega))
  omega
 have hhi : ∀ y ∈ l.drop (insAt l x.id), x.id < y.id := fun y hy => by
  obtain ⟨j, hj, rfl⟩ := List.mem_iff_getElem.1 hy
  rw [List.length_drop] at hj
  rw [List.getElem_drop]
  have ha : insAt l x.id < l.length := by omega
  have h1 : decide (x.id < (l[insAt l x.id]'ha).id) = true := List.findIdx_getElem (p := fun k : Kp => decide (x.id < k.id)) (xs := l) (w := ha)
  have h1 := of_decide_eq_true h1
  rcases Nat.eq_zero_or_pos j with rfl | hp
  · exact h1
  · have := List.pairwise_iff_getElem.1 h.1 (insAt l x.id) (insAt l x.id + j) ha (by omega) (by omega)
    omega
 refine ⟨List.pairwise_append.2 ⟨List.pairwise_append.2 ⟨h.1.sublist (List.take_sublist ..), List.pairwise_singleton .., fun a ha c hc => ?_⟩, h.1.sublist (List.drop_sublist ..), fun a ha c hc => ?_⟩, fun y hy => ?_⟩
 · rw [List.mem_singleton] at hc; subst hc; exact hlo a ha
 · rcases List.mem_append.1 ha with ha | ha
   · have := hlo a ha; have := hhi c hc; omega
   · rw [List.mem_singleton] at ha; subst ha; exact hhi c hc
 · rcases List.mem_append.1 hy with hy | hy
   · rcases List.mem_append.1 hy with hy | hy
     · exact h.2 y (List.mem_of_mem_take hy)
     · rw [List.mem_singleton] at hy; subst hy; exact hx
   · exact h.2 y (List.mem_of_mem_drop hy)
theorem findK_none {b : Br} {id : Int} (h : b.findK id = none) : ∀ y ∈ b.kps, y.id ≠ id := fun y hy => by
 have := List.findIdx?_eq_none_iff.1 h y hy
 simpa using this
theorem legal_in {f : Nat} {p : Int} (hp : 0 ≤ p) (h : legal f p = true) : 1 ≤ (UInt8.ofNat p.toNat).toNat ∧ (UInt8.ofNat p.toNat).toNat ≤ 10 := by
 rw [legal, Bool.and_eq_true, decide_eq_true_eq] at h
 obtain ⟨h1, h2⟩ := h
 have h3 : p.toNat ≠ 0 := fun e => by
  rw [e] at h2
  have hf : f < 11 ∨ 11 ≤ f := Nat.lt_or_ge ..
  rcases hf with hf | hf
  · have : f = 0 ∨ f = 1 ∨ f = 2 ∨ f = 3 ∨ f = 4 ∨ f = 5 ∨ f = 6 ∨ f = 7 ∨ f = 8 ∨ f = 9 ∨ f = 10 := by omega
    rcases this with rfl | rfl | rfl | rfl | rfl | rfl | rfl | rfl | rfl | rfl | rfl <;> exact absurd h2 (by decide)
  · rw [List.getD_eq_getElem?_getD, List.getElem?_eq_none (show legalL.length ≤ _ from hf)] at h2
    exact absurd h2 (by simp)
 rw [show (UInt8.ofNat p.toNat).toNat = p.toNat by simp; omega]
 omega
section
variable {b : Br}
theorem ok_boot (h : b.Ok) : b.boot.Ok := by
 unfold Br.boot
 split
 · have := h.ep
   exact Br.Ok.mkL ⟨by show 0 ≤ b.ep + 1; omega, by show b.ep + 1 ≤ _; omega⟩ h.sq (tl_of (b := b) h.its) (kl_of (b := b) h.kps) h.rf h.un h.cf
 · exact h
theorem ok_intent (h : b.Ok) (v z w : Int) : (b.intent v z w).Ok := by
 unfold Br.intent
 split
 · rename_i hc
   simp only [Bool.and_eq_true, decide_eq_true_eq] at hc
   have := h.sq
   refine Br.Ok.mkL h.ep ⟨by show 0 ≤ b.sq + 1; omega, by show b.sq + 1 ≤ _; omega⟩ (tl_add (tl_of (b := b) h.its) h.sq.1 rfl) (kl_of (b := b) h.kps) h.rf (fun hs => ?_) h.cf
   have hs : b.set = false := hs
   rw [hc.1.1] at hs; cases hs
 · exact h
theorem ok_mk1 (h : b.Ok) (t id now : Int) (hid : id ≤ 1099511627776) : (b.mk1 t id now).Ok := by
  cases ht : b.findT t with
  | none => rw [Br.mk1, ht]; exact h
  | some i =>
    rw [Br.mk1, ht]
    dsimp only
    split
    · exact h
    · rename_i hc
      simp only [Bool.or_eq_true, decide_eq_true_eq, not_or, Option.not_isSome_iff_eq_none] at hc
      obtain ⟨hi, _⟩ := findT_some ht
      have hset : b.set = true := by
        cases hs : b.set
        · have := (h.un hs).1; omega
        · rfl
      refine Br.Ok.mkL h.ep h.sq (tl_era (tl_of (b := b) h.its) i) (kl_ins (x := madeK (b.its.getD i ⟨0, 0, 0, false⟩) id now) (kl_of (b := b) h.kps) (findK_none hc.2) ⟨⟨by show 1 ≤ id; omega, hid⟩, ?_⟩) ?_ (fun hs => ?_) h.cf
      · show 1 ≤ (if _ then (9 : UInt8) else 1).toNat ∧ (if _ then (9 : UInt8) else 1).toNat ≤ 10
        split <;> decide
      · have e3 : b.rf0.st = b.rf.st ∧ b.rf0.fr = b.rf.fr ∧ b.rf0.ta = b.rf.ta := by unfold Br.rf0; split <;> exact ⟨rfl, rfl, rfl⟩
        show b.rf0.st.toNat = 1 → (1 ≤ b.rf0.fr ∧ b.rf0.fr ≤ 1099511627776) ∧ 1 ≤ b.rf0.ta ∧ b.rf0.ta ≤ 1099511627776
        rw [e3.1, e3.2.1, e3.2.2]
        exact h.rf
      · have hs : b.set = false := hs
        rw [hset] at hs; cases hs
theorem ok_fail (h : b.Ok) : b.fail.Ok := by
 unfold Br.fail
 split
 · rename_i ha
   split
   · exact h.of rfl rfl rfl rfl (fun _ => ⟨(act_rf h ha).1, (act_rf h ha).1⟩) (fun hs => by have hs' : b.set = false := hs; rw [set_of_act h ha] at hs'; cases hs') h.cf
   · exact h.of rfl rfl rfl rfl (fun _ => act_rf (b := b) h ha) (fun hs => by have hs' : b.set = false := hs; rw [set_of_act h ha] at hs'; cases hs') h.cf
 · exact h
theorem ok_kps (h : b.Ok) {l : List Kp} (hl : KL l) : ({ b with kps := l } : Br).Ok := Br.Ok.mkL h.ep h.sq (tl_of (b := b) h.its) hl h.rf h.un h.cf
theorem ok_phase (h : b.Ok) (id p now : Int) (hp : 0 ≤ p) : (b.phase id p now).Ok := by
 unfold Br.phase
 split
 · exact h
 · rename_i i hf
   obtain ⟨hi, _⟩ := findK_some hf
   split
   · rename_i hl
     exact ok_kps h (kl_set (kl_of (b := b) h.kps) hi (by rw [kAt_eq hi]) (legal_in hp hl))
   · exact h
theorem ok_goneK (h : b.Ok) (id : Int) : (b.goneK id).Ok := by
 unfold Br.goneK
 split
 · exact h
 · exact ok_kps h (kl_era (kl_of (b := b) h.kps) _)
theorem ok_take1 (h : b.Ok) (id t v z now : Int) (hid : id ≤ 1099511627776) : (b.take1 id t v z now).Ok := by
 unfold Br.take1
 split
 · rename_i hc
   simp only [Bool.and_eq_true, decide_eq_true_eq, Option.isNone_iff_eq_none] at hc
   exact ok_kps h (kl_ins (x := ⟨id, t, v, z, 8, now, false, false⟩) (kl_of (b := b) h.kps) (findK_none hc.2) ⟨⟨hc.1, hid⟩, by show 1 ≤ (8 : UInt8).toNat ∧ (8 : UInt8).toNat ≤ 10; decide⟩)
 · exact h
theorem ok_pause (h : b.Ok) (now : Int) : (b.pause now).Ok := by
 unfold Br.pause
 split
 · rename_i ha
   split
   · exact h
   · exact h.of rfl rfl rfl rfl (fun _ => act_rf (b := b) h ha) (fun hs => by have hs' : b.set = false := hs; rw [set_of_act h ha] at hs'; cases hs') h.cf
 · exact h
theorem ok_done1 (h : b.Ok) : b.done1.Ok := by
 unfold Br.done1
 split
 · rename_i ha
   exact h.of rfl rfl rfl rfl (fun hx => absurd (show (2 : Nat) = 1 from hx) (by decide)) (fun hs => by have hs' : b.set = false := hs; rw [set_of_act h ha] at hs'; cases hs') (fun hs => okc_ve (h.cf hs) (act_rf h ha).2)
 · exact h
theorem ok_apply (h : b.Ok) (r : Rc) : (b.apply r).Ok := by
 unfold Br.apply
 split
 · rename_i hn
   have hin := numsOk_iff.1 hn
   split
   · exact ok_group h r.l
   · unfold Br.deed
     split <;> (try simp only [*] at hin) <;> first
      | exact h
      | exact ok_boot h
      | exact ok_intent h ..
      | exact ok_fail h
      | exact ok_goneK h ..
      | exact ok_guard h ..
      | exact ok_compl h ..
      | exact ok_canc h
      | exact ok_roll h
      | exact ok_pause h ..
      | exact ok_go1 h
      | exact ok_done1 h
      | exact ok_mk1 h _ _ _ (hin 1 (by simp)).2
      | exact ok_phase h _ _ _ (hin 1 (by simp)).1
      | exact ok_take1 h _ _ _ _ _ (hin 0 (by simp)).2
      | exact ok_begin h (hin 0 (by simp)).2
 · exact h
end
end Go.Proofs.YtakbgccddokbbaaGreatDoor
namespace Go.Proofs.YtakbgccddokbbaaGreatDoor
open Go.RowKit
attribute [local irreducible] Res.blk Res.row Fact.rd Fact.chg
structure Br.In (b : Br) (n : Nat) : Prop where
 ok : b.Ok
 its : b.its.length ≤ n
 kps : b.kps.length ≤ n
 ms : b.cf.ms.length ≤ 1000
 ep : b.ep ≤ n
theorem Br.In.fit {b : Br} {n : Nat} (h : b.In n) (hn : n ≤ 900000) : b.Fit := ⟨by have := h.ok.ep; omega, by have := h.ok.sq; omega, by have := h.its; omega, by have := h.kps; omega⟩
theorem bz0_in : bz0.In 0 := ⟨Br.Ok.mkL (by decide) (by decide) ⟨List.Pairwise.nil, fun x hx => absurd hx List.not_mem_nil⟩ ⟨List.Pairwise.nil, fun x hx => absurd hx List.not_mem_nil⟩ (fun h => absurd h (by decide)) (fun _ => ⟨rfl, rfl⟩) (fun h => by cases h), Nat.le_refl _, Nat.le_refl _, by decide, by decide⟩
def Br.Gr (b c : Br) (l : List Int) : Prop := c.its.length ≤ b.its.length + 1 ∧ c.kps.length ≤ b.kps.length + 1 ∧ c.cf.ms.length ≤ max b.cf.ms.length l.length ∧ c.ep ≤ b.ep + 1
theorem gr_self (b : Br) (l : List Int) : b.Gr b l := ⟨by omega, by omega, by omega, by omega⟩
theorem gr_apply (b : Br) (r : Rc) : b.Gr (b.apply r) r.l := by
 unfold Br.apply
 split
 · split
   · unfold Br.group
     split
     · refine ⟨by show b.its.length ≤ _; omega, by show b.kps.length ≤ _; omega, ?_, by show b.ep ≤ _; omega⟩
       have := cfOf_ms r.l
       show (if b.set = true then { cfOf r.l with ve := b.cf.ve } else cfOf r.l).ms.length ≤ _
       split
       · show (cfOf r.l).ms.length ≤ _; omega
       · omega
     · exact gr_self b _
   · generalize r.l = l
     have hset : ∀ (i : Nat) (x : Kp), b.Gr (b.onK1 i x) l := fun i x => ⟨by show b.its.length ≤ _; omega, by show (b.kps.set i x).length ≤ _; rw [List.length_set]; omega, by show b.cf.ms.length ≤ _; omega, by show b.ep ≤ _; omega⟩
     have hrf : ∀ (x : Rf) (v : Int), b.Gr { b with rf := x, cf := { b.cf with ve := v } } l := fun x v => ⟨by show b.its.length ≤ _; omega, by show b.kps.length ≤ _; omega, by show b.cf.ms.length ≤ _; omega, by show b.ep ≤ _; omega⟩
     have hrf' : ∀ (x : Rf), b.Gr { b with rf := x } l := fun x => ⟨by show b.its.length ≤ _; omega, by show b.kps.length ≤ _; omega, by show b.cf.ms.length ≤ _; omega, by show b.ep ≤ _; omega⟩
     unfold Br.deed
     split
     · unfold Br.boot; split
       · exact ⟨by show b.its.length ≤ _; omega, by show b.kps.length ≤ _; omega, by show b.cf.ms.length ≤ _; omega, by show b.ep + 1 ≤ _; omega⟩
       · exact gr_self ..
     · unfold Br.intent; split
       · exact ⟨by show (b.its ++ [_]).length ≤ _; rw [List.length_append]; exact Nat.le_refl _, by show b.kps.length ≤ _; omega, by show b.cf.ms.length ≤ _; omega, by show b.ep ≤ _; omega⟩
       · exact gr_self ..
     · unfold Br.mk1; split
       · exact gr_self ..
       · split
         · exact gr_self ..
         · rename_i i hi _
           obtain ⟨hi, _⟩ := findT_some hi
           exact ⟨by show (eraL b.its i).length ≤ _; rw [eraL_len hi]; omega, by show (insL b.kps _ _).length ≤ _; rw [insL_len _ (insAt_le ..)]; omega, by show b.cf.ms.length ≤ _; omega, by show b.ep ≤ _; omega⟩
     · unfold Br.fail; split <;> (try split) <;> first | exact hrf' _ | exact gr_self ..
     · unfold Br.phase; split <;> (try split) <;> first | exact hset _ _ | exact gr_self ..
     · unfold Br.goneK; split
       · exact gr_self ..
       · exact ⟨by show b.its.length ≤ _; omega, by show (b.kps.take _ ++ b.kps.drop _).length ≤ _; rw [List.length_append, List.length_take, List.length_drop]; omega, by show b.cf.ms.length ≤ _; omega, by show b.ep ≤ _; omega⟩
     · unfold Br.take1; split
       · exact ⟨by show b.its.length ≤ _; omega, by show (insL b.kps _ _).length ≤ _; rw [insL_len _ (insAt_le ..)]; omega, by show b.cf.ms.length ≤ _; omega, by show b.ep ≤ _; omega⟩
       · exact gr_self ..
     · unfold Br.guard; split <;> (try split) <;> first | exact hset _ _ | exact gr_self ..
     · unfold Br.compl; split <;> first | exact hset _ _ | exact gr_self ..
     · unfold Br.begin1; split <;> first | exact hrf' _ | exact gr_self ..
     · unfold Br.canc; split <;> first | exact hrf' _ | exact gr_self ..
     · unfold Br.roll; split <;> first | exact hrf' _ | exact gr_self ..
     · unfold Br.pause; split <;> (try split) <;> first | exact hrf' _ | exact gr_self ..
     · unfold Br.go1; split <;> (try split) <;> first | exact hrf' _ | exact gr_self ..
     · unfold Br.done1; split <;> first | exact hrf _ _ | exact gr_self ..
     · exact gr_self ..
 · exact gr_self ..
theorem Br.In.step {b : Br} {n : Nat} (h : b.In n) {r : Rc} (hr : r.l.length ≤ 1000) : (b.apply r).In (n + 1) := by
 obtain ⟨g1, g2, g3, g4⟩ := gr_apply b r
 have h1 := h.its
 have h2 := h.kps
 have h3 := h.ms
 have h4 := h.ep
 exact ⟨ok_apply h.ok r, by omega, by omega, by omega, by omega⟩
theorem allK_in {b : Br} {n : Nat} (h : b.In n) {zs : Rcs} (hz : ∀ k (h : k < zs.length), zs[k].2.l.length ≤ 1000) : ∀ k, k ≤ zs.length → (allK b zs k).In (n + k)
  | 0, _ => by rw [allK, List.take_zero]; exact h
  | k + 1, hk => by
    rw [allK_succ b (show k < zs.length by omega), ← Nat.add_assoc]
    exact (allK_in h hz k (by omega)).step (hz k (by omega))
theorem step_any {b : Br} {n : Nat} (h : b.In n) (hn : n ≤ 900000) {r : Rc} {x : AdC} (h1 : r.l.length ≤ 1000) (h2 : r.l.length ≤ x.2) : StepOk .chg b r x :=
 ⟨h1, h2, fun z h3 h4 h5 h6 => deed_all b z r x (h.fit hn) h3 h4 h5 h6, fun h3 h4 => deed_no h3 h4⟩
def RcsSm (zs : Rcs) : Prop := ∀ k (h : k < zs.length), zs[k].2.l.length ≤ 1000 ∧ zs[k].2.l.length ≤ zs[k].1.2
theorem ball_any (b : Br) (n : Nat) (z : BrA) (L : Option Addr) (cL : Nat) (zs : Rcs) (h : b.In n) (hn : n + zs.length ≤ 900000) (hz : RcsSm zs) :
 Ct Tryz.prog 29 [b.v z, .slice L zs.length cL] [] (b.rd z ++ [.rd L (rcsV zs), .rcs zs, .lim, .chg]) (fun x : BrA => (allK b zs zs.length).v x) (fun x => (allK b zs zs.length).rows x) (fun _ => []) := by
 have h1 := h.its
 have h2 := h.kps
 have h3 := h.ms
 exact ball_ct .chg b z L cL zs (by omega) (by omega) (by omega) (by omega) fun k hk => step_any (allK_in h (fun k hk => (hz k hk).1) k (by omega)) (by omega) (hz k hk).1 (hz k hk).2
theorem bapply_any (b : Br) (n : Nat) (z : BrA) (r : Rc) (x : AdC) (h : b.In n) (hn : n ≤ 900000) (hl : r.l.length ≤ 1000) (hc : r.l.length ≤ x.2) :
 Ct Tryz.prog 61 [b.v z, r.v x] [] (b.rd z ++ [.rd x.1 (i64s r.l), .lim, .chg]) (fun y : BrA => (b.apply r).v y) (fun y => (b.apply r).rows y) (fun _ => []) := by
 have h1 := h.its
 have h2 := h.kps
 have h3 := h.ms
 exact bapply_ct .chg b z r x (by omega) (by omega) (by omega) (step_any h hn hl hc)
end Go.Proofs.YtakbgccddokbbaaGreatDoor
namespace Go.Proofs.YtakbgccddokbbaaGreatDoor
open Go.RowKit
attribute [local irreducible] Res.blk Res.row Fact.rd Fact.chg
def Br.all (b : Br) (l : List Rc) : Br := l.foldl Br.apply b
theorem allK_all (b : Br) (zs : Rcs) : allK b zs zs.length = b.all (rcsN zs) := by
 rw [allK_end, Br.all, rcsN, List.foldl_map]
theorem rcsSm_of {b : List UInt8} (x : RcsOf (logN b)) : RcsSm x.1 := by
 obtain ⟨zs, hz, hc⟩ := x
 intro k hk
 have hm : zs[k] ∈ zs := List.getElem_mem hk
 have hr : zs[k].2 ∈ logN b := by rw [← hz]; exact List.mem_map.2 ⟨_, hm, rfl⟩
 have := (Rc.ok_len (log_ok b _ hr)).2.2
 exact ⟨by show zs[k].2.l.length ≤ 1000; omega, hc _ hm⟩
theorem rcsOf_n {b : List UInt8} (x : RcsOf (logN b)) : x.1.length = (scanN b).length := by rw [x.len, logN, List.length_map]
def ofB (d : Dk) : Br := bz0.all (logN d.own.b)
def safeB (d : Dk) : Br := bz0.all (logN (d.own.b.take d.own.s.toNat))
theorem ball_log {b : List UInt8} (x : RcsOf (logN b)) (A : Option Addr) (c : Nat) (hb : b.length ≤ 500000) :
 Ct Tryz.prog 29 [bz0.v nilZ, .slice A (scanN b).length c] [] (bz0.rd nilZ ++ [.rd A (rcsV x.1), .rcs x.1, .lim, .chg]) (fun y : BrA => (bz0.all (logN b)).v y) (fun y => (bz0.all (logN b)).rows y) (fun _ => []) := by
 have hn := rcsOf_n x
 have hl := scanN_len b
 have h := ball_any bz0 0 nilZ A c x.1 bz0_in (by omega) (rcsSm_of x)
 rw [allK_all, x.2.1, hn] at h
 exact h
abbrev OfR (d : Dk) := { x : AdC // (openD d).b.length ≤ x.2 } × BrA
theorem of_ctR (d : Dk) (x : AdC) (mm : Nat → AdC) (hd : d.b.length ≤ 500000) (hc : d.b.length ≤ x.2) :
 Ct Tryz.prog 12 [d.v x] [] [.rd x.1 (u8s d.b), .many mm, .lim, .chg] (fun y : OfR d => .tuple #[(openD d).v y.1.1, (ofB d).v y.2]) (fun y => (ofB d).rows y.2) (fun y => [.rd y.1.1.1 (u8s (openD d).b)]) := by
 obtain ⟨A, c⟩ := x
 have hol := d.own_len
 refine Ct.of _ Tryz.func12 Tryz.ntmps12 rfl rfl (fun X W => ?_)
 refine Jc.qs<|Jc.qr ?_
 refine Jl.box rfl (by rfl) ?_
 intro b1
 refine Jl.alloc tze27 ?_
 intro b2
 refine Jl.alloc tze38 ?_
 intro b3
 refine Jl.qn<|Jq.qt<|Jc.qs<|Jc.qr ?_
 refine Jl.pv (PR.loadW rfl tsh27 zH (by rfl)) ?_
 refine Jl.call (open_ct d (A, c) mm hd hc) en30 (by rfl) zT zF ?_
 rintro ⟨⟨⟨A7, c7⟩, hA7⟩, zs, ⟨B7, d7⟩⟩
 refine Jl.sealR zD ?_
 refine Jl.fact0 (.rd none []) (fun X W => Fact.rd_nil none X W) ?_
 refine Jl.pv (PR.qm rfl) ?_
 refine Jl.pv (PR.extract rfl (by rfl)) ?_
 refine Jl.pv (PR.extract rfl (by rfl)) ?_
 refine Jl.storeW rfl tsh27 rfl (by rfl) (by first | exact Br.cs_one _ _ | simp [Value.oneCell', Dk.cs]) zS (by rfl) ?_
 refine Jl.pv (PR.qa rfl)<|Jl.qn<|Jq.qt<|Jc.qs ?_
 refine Jc.drawn [0, 0, 0, 6, 15, 31] ([], []) [⟨[(0, false), (1, false), (2, false)], [], 3⟩, ⟨[], [], 4⟩, ⟨[], [], 5⟩] tmx (by kernel_rfl) ?_
 refine Dh.JH.cons ?_
 refine Dh.JB.rd [.blk _ _ _] rfl trivial zT (fun _ => PR.loadW rfl tsh27 Has.here (by rfl)) ?_
 refine Dh.JB.pv rfl trivial (fun _ => PR.build (by rfl) tze38 tpl38_ (by rfl)) ?_
 refine Dh.JB.pv rfl trivial (fun _ => PR.qm rfl)<|Dh.JB.nil<|Dh.JL.nil ?_
 refine Dh.JE.mk rfl (fun _ h => by cases h) (fun C2_3 => ?_)
 refine Jl.call (ball_log zs B7 d7 (by omega)) en29 (by rfl) zT zF ?_
 rintro z
 refine Jl.qn ?_
 refine Dh.Jq.segV zX ?_ zK
 refine Dh.JH.cons<|Dh.JB.nil<|Dh.JL.nil ?_
 refine Dh.JE.mk rfl (fun _ h => by cases h) (fun C2_4 => ?_)
 refine Jl.storeW rfl tsh27 rfl (by rfl) (by first | exact Br.cs_one _ _ | simp [Value.oneCell', Dk.cs]) zS (by rfl) ?_
 refine Jl.qn ?_
 refine Dh.Jq.segN zX ?_ zK
 refine Dh.JH.cons<|Dh.JB.nil<|Dh.JL.nil ?_
 refine Dh.JE.mk rfl (fun _ h => by cases h) (fun C2_5 => ?_)
 refine Jl.storeW rfl tsh38 rfl (by rfl) (by first | exact Br.cs_one _ _ | simp [Value.oneCell', Dk.cs]) zS (by rfl) ?_
 refine Jl.qn ?_
 refine Dh.Jq.segN zX ?_ zK
 refine Dh.JH.nil ?_
 refine Dh.JB.nil<|Dh.JL.nil<|Jq.qt<|Jc.ret ?_
 exact Jq.fin (⟨(A7, c7), hA7⟩, z) (.inl rfl) rfl (RetVs.cellA rfl zH tsh27 (by rfl) (RetVs.cellA rfl zH tsh38 (by rfl) RetVs.nil)) rfl zT zF
theorem safe_ctR (d : Dk) (x : AdC) (mm : Nat → AdC) (hd : d.b.length ≤ 500000) (hc : d.b.length ≤ x.2) :
 Ct Tryz.prog 14 [d.v x] [] [.rd x.1 (u8s d.b), .many mm, .lim, .chg] (fun z : BrA => (safeB d).v z) (fun z => (safeB d).rows z) (fun _ => []) := by
 obtain ⟨A, c⟩ := x
 have hol := d.own_len
 have htl : (d.own.b.take d.own.s.toNat).length ≤ d.own.b.length := by rw [List.length_take]; omega
 refine Ct.of _ Tryz.func14 Tryz.ntmps14 rfl rfl (fun X W => ?_)
 refine Jc.qs<|Jc.qr ?_
 refine Jl.box rfl (by rfl) ?_
 intro b1
 refine Jl.alloc tze38 ?_
 intro b2
 refine Jl.qn<|Jq.qt<|Jc.qs<|Jc.qr ?_
 refine Jl.pv (PR.build (by rfl) tze38 tpl38_ (by rfl)) ?_
 refine Jl.pv (PR.loadW rfl tsh27 zH (by rfl)) ?_
 refine Jl.call (safe_ct d (A, c) mm hd hc) en32 (by rfl) zT zF ?_
 rintro ⟨zs, ⟨B5, d5⟩⟩
 refine Jl.sealR zD ?_
 refine Jl.fact0 (.rd none []) (fun X W => Fact.rd_nil none X W) ?_
 refine Jl.call (ball_log zs B5 d5 (by omega)) en29 (by rfl) zT zF ?_
 rintro z
 refine Jl.storeW rfl tsh38 rfl (by rfl) (by first | exact Br.cs_one _ _ | simp [Value.oneCell', Dk.cs]) zS (by rfl) ?_
 refine Jl.qn<|Jq.qt<|Jc.ret ?_
 exact Jq.fin z (.inl rfl) rfl (RetVs.cellA rfl zH tsh38 (by rfl) RetVs.nil) rfl zT zF
theorem addD_le (d : Dk) (zs : Rcs) : (addD d zs).b.length ≤ 65536 := by
 unfold addD
 split
 · have h := d.app_ok (recsB (rcsN zs))
   have h1 := h.1
   have h2 := h.2.2.2
   omega
 · have := d.own_fit; omega
theorem added0_ct (d : Dk) (x : AdC) (L : Option Addr) (cL : Nat) (zs : Rcs) (mm : Nat → AdC) (G : Dk → Dk) (f : FuncId) (hd : d.b.length ≤ 500000) (hc : d.b.length ≤ x.2) (hn : zs.length ≤ 90) (hl : ∀ z ∈ zs, z.2.l.length ≤ 1000000)
 (hen : ∀ args w, (callFunc f args).run Tryz.prog w = .ok (.enter f args) w)
 (hG : ∀ (A : Option Addr) (c : Nat), (addD d zs).b.length ≤ c → Ct Tryz.prog f [(addD d zs).v (A, c)] [] [.rd A (u8s (addD d zs).b)] (fun y : AdC => (G (addD d zs)).v y) (fun y => [(G (addD d zs)).row y]) (fun _ => [])) :
 Ct Tryz.prog 26 [d.v x, .slice L zs.length cL, .func (.func f) #[] #[]] [] [.rd x.1 (u8s d.b), .rd L (rcsV zs), .rcs zs, .many mm] (fun y : AdC => .tuple #[(if addE d zs = 0 then G (addD d zs) else d.own).v y, .int .i64 (addE d zs)]) (fun y => [(if addE d zs = 0 then G (addD d zs) else d.own).row y]) (fun _ => []) := by
 obtain ⟨A, c⟩ := x
 refine Ct.of _ Tryz.func26 Tryz.ntmps26 rfl rfl (fun X W => ?_)
 refine Jc.qs<|Jc.qr ?_
 refine Jl.box rfl (by rfl) ?_
 intro b3
 refine Jl.alloc tze27 ?_
 intro b6
 refine Jl.pv (PR.qa rfl)<|Jl.qn<|Jq.qt ?_
 refine Jc.scope (σ := { _u : Unit // addE d zs ≠ 0 }) (fun _ => [(3, .pointer (some ⟨b3, 0, none⟩)), (6, .pointer (some ⟨b6, 0, none⟩)), (9, .int .i64 (addE d zs))]) (fun _ => [.blk b3 27 (d.cs (A, c)), .blk b6 27 [.slice none 0 0, .int .i64 0, .int .i64 0]]) (fun _ => [.rd A (u8s d.b)]) (fun _ => 0) (l := 0) rfl ?_ ?_
 · rintro ⟨⟨⟩, he⟩
   refine Jc.qs<|Jc.qr ?_
   refine Jl.pv (PR.loadW rfl tsh27 zH (by rfl)) ?_
   refine Jl.call (own_ct A c d hd hc) en47 (by rfl) zT zF ?_
   rintro ⟨A22, c22⟩
   refine Jl.pv (PR.qm rfl) ?_
   refine Jl.storeW rfl tsh27 rfl (by rfl) (by simp [Value.oneCell', Dk.cs]) zS (by rfl) ?_
   refine Jl.pv (PR.qa rfl)<|Jl.qn<|Jq.qt<|Jc.ret ?_
   refine Jq.jmpR ?_
   rw [if_neg he]
   exact Jq.fin (A22, c22) (.inl rfl) rfl (RetVs.cellA rfl zH tsh27 (by rfl) (RetVs.tmp rfl RetVs.nil)) rfl zT zF
 intro hfirst0
 refine Jc.qs<|Jc.qr ?_
 refine Jl.pv (PR.loadW rfl tsh27 zH (by rfl)) ?_
 refine Jl.pv (PR.qm rfl) ?_
 refine Jl.call (add_ct d (A, c) L cL zs mm hd hc hn hl) en46 (by rfl) zT zF ?_
 rintro ⟨A13, c13⟩
 refine Jl.sealC zD (fun hc13 => ?_)
 refine Jl.pv (PR.qm rfl) ?_
 refine Jl.pv (PR.extract rfl (by rfl)) ?_
 refine Jl.pv (PR.extract rfl (by rfl)) ?_
 refine Jl.alloc tze27 ?_
 intro b8
 refine Jl.storeW rfl tsh27 rfl (by rfl) (by simp [Value.oneCell', Dk.cs]) zS (by rfl) ?_
 refine Jl.pv (PR.qa rfl)<|Jl.qn<|Jq.qt<|Jc.qs<|Jc.qs<|Jc.qr<|Jl.pv (PR.qm rfl) ?_
 refine Jl.pv (PR.neq _ rfl rfl rfl) ?_
 refine Jl.qn<|Jq.qt ?_
 refine Jc.cond rfl (fun h0 => ?_) (fun h0 => ?_)
 · try replace h0 := zV h0
   have he : addE d zs ≠ 0 := by simpa using h0
   refine Jc.goto ?_
   refine Jq.thenG ?_
   refine Jq.lessR (rs := [.blk b3 27 (d.cs (A, c)), .blk b6 27 [.slice none 0 0, .int .i64 0, .int .i64 0]]) zT ?_
   exact Jq.jmpA ⟨(), he⟩ (by repeat (first | exact trivial | refine And.intro rfl ?_)) rfl zF
 try replace h0 := zW h0
 have he : addE d zs = 0 := by simpa using h0
 refine Jc.skip<|Jq.qt<|Jc.qs<|Jc.qs<|Jc.qr<|Jl.pv (PR.qm rfl) ?_
 refine Jl.pv (PR.loadW rfl tsh27 zH (by rfl)) ?_
 refine Jl.callv (hG A13 c13 hc13) hen rfl (by rfl) (by rfl) zT zF ?_
 rintro ⟨A20, c20⟩
 refine Jl.storeW rfl tsh27 rfl (by rfl) (by simp [Value.oneCell', Dk.cs]) zS (by rfl) ?_
 refine Jl.pv (PR.qa rfl)<|Jl.qn<|Jq.qt<|Jc.ret<|Jq.thenR ?_
 refine Jq.jmpR ?_
 rw [if_pos he]
 exact Jq.fin (A20, c20) (.inl rfl) rfl (RetVs.cellA rfl zH tsh27 (by rfl) (RetVs.tmp rfl RetVs.nil)) (by rw [he]; rfl) zT zF
theorem added1_ct (d : Dk) (x : AdC) (L : Option Addr) (cL : Nat) (zs : Rcs) (mm : Nat → AdC) (G : Dk → Dk) (f : FuncId) (bk : Nat) (keep : Int) (hd : d.b.length ≤ 500000) (hc : d.b.length ≤ x.2) (hn : zs.length ≤ 90) (hl : ∀ z ∈ zs, z.2.l.length ≤ 1000000)
 (hen : ∀ args w, (callFunc f args).run Tryz.prog w = .ok (.enter f args) w)
 (hG : ∀ (A : Option Addr) (c : Nat), (addD d zs).b.length ≤ c → Ct Tryz.prog f [(addD d zs).v (A, c), .pointer (some ⟨bk, 0, none⟩)] [.blk bk 3 [.int .i64 keep]] [.rd A (u8s (addD d zs).b)] (fun y : AdC => (G (addD d zs)).v y) (fun y => [(G (addD d zs)).row y, .blk bk 3 [.int .i64 keep]]) (fun _ => [])) :
 Ct Tryz.prog 26 [d.v x, .slice L zs.length cL, .func (.func f) #[] #[.pointer (some ⟨bk, 0, none⟩)]] [.blk bk 3 [.int .i64 keep]] [.rd x.1 (u8s d.b), .rd L (rcsV zs), .rcs zs, .many mm] (fun y : AdC => .tuple #[(if addE d zs = 0 then G (addD d zs) else d.own).v y, .int .i64 (addE d zs)]) (fun y => [(if addE d zs = 0 then G (addD d zs) else d.own).row y, .blk bk 3 [.int .i64 keep]]) (fun _ => []) := by
 obtain ⟨A, c⟩ := x
 refine Ct.of _ Tryz.func26 Tryz.ntmps26 rfl rfl (fun X W => ?_)
 refine Jc.qs<|Jc.qr ?_
 refine Jl.box rfl (by rfl) ?_
 intro b3
 refine Jl.alloc tze27 ?_
 intro b6
 refine Jl.pv (PR.qa rfl)<|Jl.qn<|Jq.qt ?_
 refine Jc.scope (σ := { _u : Unit // addE d zs ≠ 0 }) (fun _ => [(3, .pointer (some ⟨b3, 0, none⟩)), (6, .pointer (some ⟨b6, 0, none⟩)), (9, .int .i64 (addE d zs))]) (fun _ => [.blk b3 27 (d.cs (A, c)), .blk b6 27 [.slice none 0 0, .int .i64 0, .int .i64 0], .blk bk 3 [.int .i64 keep]]) (fun _ => [.rd A (u8s d.b)]) (fun _ => 0) (l := 0) rfl ?_ ?_
 · rintro ⟨⟨⟩, he⟩
   refine Jc.qs<|Jc.qr ?_
   refine Jl.pv (PR.loadW rfl tsh27 zH (by rfl)) ?_
   refine Jl.call (own_ct A c d hd hc) en47 (by rfl) zT zF ?_
   rintro ⟨A22, c22⟩
   refine Jl.pv (PR.qm rfl) ?_
   refine Jl.storeW rfl tsh27 rfl (by rfl) (by simp [Value.oneCell', Dk.cs]) zS (by rfl) ?_
   refine Jl.pv (PR.qa rfl)<|Jl.qn<|Jq.qt<|Jc.ret ?_
   refine Jq.jmpR ?_
   rw [if_neg he]
   exact Jq.fin (A22, c22) (.inl rfl) rfl (RetVs.cellA rfl zH tsh27 (by rfl) (RetVs.tmp rfl RetVs.nil)) rfl zT zF
 intro hfirst0
 refine Jc.qs<|Jc.qr ?_
 refine Jl.pv (PR.loadW rfl tsh27 zH (by rfl)) ?_
 refine Jl.pv (PR.qm rfl) ?_
 refine Jl.call (add_ct d (A, c) L cL zs mm hd hc hn hl) en46 (by rfl) zT zF ?_
 rintro ⟨A13, c13⟩
 refine Jl.sealC zD (fun hc13 => ?_)
 refine Jl.pv (PR.qm rfl) ?_
 refine Jl.pv (PR.extract rfl (by rfl)) ?_
 refine Jl.pv (PR.extract rfl (by rfl)) ?_
 refine Jl.alloc tze27 ?_
 intro b8
 refine Jl.storeW rfl tsh27 rfl (by rfl) (by simp [Value.oneCell', Dk.cs]) zS (by rfl) ?_
 refine Jl.pv (PR.qa rfl)<|Jl.qn<|Jq.qt<|Jc.qs<|Jc.qs<|Jc.qr<|Jl.pv (PR.qm rfl) ?_
 refine Jl.pv (PR.neq _ rfl rfl rfl) ?_
 refine Jl.qn<|Jq.qt ?_
 refine Jc.cond rfl (fun h0 => ?_) (fun h0 => ?_)
 · try replace h0 := zV h0
   have he : addE d zs ≠ 0 := by simpa using h0
   refine Jc.goto ?_
   refine Jq.thenG ?_
   refine Jq.lessR (rs := [.blk b3 27 (d.cs (A, c)), .blk b6 27 [.slice none 0 0, .int .i64 0, .int .i64 0], .blk bk 3 [.int .i64 keep]]) zT ?_
   exact Jq.jmpA ⟨(), he⟩ (by repeat (first | exact trivial | refine And.intro rfl ?_)) rfl zF
 try replace h0 := zW h0
 have he : addE d zs = 0 := by simpa using h0
 refine Jc.skip<|Jq.qt<|Jc.qs<|Jc.qs<|Jc.qr<|Jl.pv (PR.qm rfl) ?_
 refine Jl.pv (PR.loadW rfl tsh27 zH (by rfl)) ?_
 refine Jl.callv (hG A13 c13 hc13) hen rfl (by rfl) (by rfl) zT zF ?_
 rintro ⟨A20, c20⟩
 refine Jl.storeW rfl tsh27 rfl (by rfl) (by simp [Value.oneCell', Dk.cs]) zS (by rfl) ?_
 refine Jl.pv (PR.qa rfl)<|Jl.qn<|Jq.qt<|Jc.ret<|Jq.thenR ?_
 refine Jq.jmpR ?_
 rw [if_pos he]
 exact Jq.fin (A20, c20) (.inl rfl) rfl (RetVs.cellA rfl zH tsh27 (by rfl) (RetVs.tmp rfl RetVs.nil)) (by rw [he]; rfl) zT zF
end Go.Proofs.YtakbgccddokbbaaGreatDoor
namespace Go.Proofs.YtakbgccddokbbaaGreatDoor
open Go.RowKit
attribute [local irreducible] Res.blk Res.row Fact.rd Fact.chg
def stepD (d : Dk) (zs : Rcs) : Dk := if addE d zs = 0 then (addD d zs).sync else d.own
def stepB (d : Dk) (b : Br) (zs : Rcs) : Br := if addE d zs = 0 then b.all (rcsN zs) else b
theorem step_ct (d : Dk) (x : AdC) (b : Br) (n : Nat) (z : BrA) (L : Option Addr) (cL : Nat) (zs : Rcs) (mm : Nat → AdC) (hd : d.b.length ≤ 500000) (hc : d.b.length ≤ x.2) (hn : zs.length ≤ 90) (hz : RcsSm zs) (hb : b.In n) (hn2 : n ≤ 800000) :
 Ct Tryz.prog 11 [d.v x, b.v z, .slice L zs.length cL] [] (.rd x.1 (u8s d.b) :: (b.rd z ++ [.rd L (rcsV zs), .rcs zs, .many mm, .lim, .chg])) (fun y : AdC × BrA => .tuple #[(stepD d zs).v y.1, (stepB d b zs).v y.2, .int .i64 (addE d zs)]) (fun y => (stepD d zs).row y.1 :: (stepB d b zs).rows y.2) (fun _ => []) := by
 obtain ⟨A, c⟩ := x
 obtain ⟨⟨M, cM⟩, ⟨I, cI⟩, ⟨K, cK⟩⟩ := z
 have hl : ∀ w ∈ zs, w.2.l.length ≤ 1000000 := fun w hw => by
  obtain ⟨k, hk, rfl⟩ := List.mem_iff_getElem.1 hw
  have := (hz k hk).1; omega
 have hi1 := hb.its
 have hi2 := hb.kps
 have hi3 := hb.ms
 have hadd := addD_le d zs
 have h0 := added0_ct d (A, c) L cL zs mm Dk.sync 27 hd hc hn hl en27 (fun A c hc => sync_ct A c (addD d zs) (by omega) hc)
 have h1 := ball_any b n ((M, cM), (I, cI), (K, cK)) L cL zs hb (by omega) hz
 rw [allK_all] at h1
 by_cases he : addE d zs = 0
 · rw [if_pos he] at h0
   rw [show stepD d zs = (addD d zs).sync from if_pos he, show stepB d b zs = b.all (rcsN zs) from if_pos he]
   refine Ct.of _ Tryz.func11 Tryz.ntmps11 rfl rfl (fun X W => ?_)
   refine Jc.qs<|Jc.qr ?_
   refine Jl.box rfl (by rfl) ?_
   intro b3
   refine Jl.box rfl (by rfl) ?_
   intro b4
   refine Jl.alloc tze27 ?_
   intro b6
   refine Jl.alloc tze38 ?_
   intro b7
   refine Jl.pv (PR.qa rfl)<|Jl.qn<|Jq.qt<|Jc.qs<|Jc.qr ?_
   refine Jl.pv (PR.loadW rfl tsh27 zH (by rfl)) ?_
   refine Jl.pv (PR.qm rfl) ?_
   refine Jl.call h0 en26 (by rfl) zT zF ?_
   rintro ⟨A13, c13⟩
   refine Jl.pv (PR.qm rfl) ?_
   refine Jl.pv (PR.extract rfl (by rfl)) ?_
   refine Jl.pv (PR.extract rfl (by rfl)) ?_
   refine Jl.storeW rfl tsh27 rfl (by rfl) (by first | exact Br.cs_one _ _ | simp [Value.oneCell', Dk.cs]) zS (by rfl) ?_
   refine Jl.pv (PR.qa rfl)<|Jl.qn<|Jq.qt<|Jc.qs<|Jc.qs<|Jc.qr<|Jl.pv (PR.qm rfl) ?_
   refine Jl.pv (PR.neq false rfl rfl (by rw [he]; rfl)) ?_
   refine Jl.qn<|Jq.qt<|Jc.condF rfl<|Jc.skip<|Jq.qt<|Jc.qs ?_
   refine Jc.drawn [0, 0, 0, 6, 15, 31, 63] ([(6, false)], []) [⟨[(0, false), (1, false), (2, false)], [], 3⟩, ⟨[], [], 4⟩, ⟨[], [], 5⟩] tmx (by kernel_rfl) ?_
   refine Dh.JH.cons ?_
   refine Dh.JB.rd [.blk _ _ _] rfl trivial zT (fun _ => PR.loadW rfl tsh27 Has.here (by rfl)) ?_
   refine Dh.JB.rd [.blk _ _ _] rfl trivial zT (fun _ => PR.loadW rfl tsh38 Has.here (by rfl)) ?_
   refine Dh.JB.pv rfl trivial (fun _ => PR.qm rfl)<|Dh.JB.nil<|Dh.JL.nil ?_
   refine Dh.JE.mk rfl (fun _ h => by cases h) (fun C4_3 => ?_)
   refine Jl.call h1 en29 (by rfl) zT zF ?_
   rintro z'
   refine Jl.qn ?_
   refine Dh.Jq.segV zX ?_ zK
   refine Dh.JH.cons<|Dh.JB.nil<|Dh.JL.nil ?_
   refine Dh.JE.mk rfl (fun _ h => by cases h) (fun C4_4 => ?_)
   refine Jl.storeW rfl tsh27 rfl (by rfl) (by first | exact Br.cs_one _ _ | simp [Value.oneCell', Dk.cs]) zS (by rfl) ?_
   refine Jl.qn ?_
   refine Dh.Jq.segN zX ?_ zK
   refine Dh.JH.cons<|Dh.JB.nil<|Dh.JL.nil ?_
   refine Dh.JE.mk rfl (fun _ h => by cases h) (fun C4_5 => ?_)
   refine Jl.storeW rfl tsh38 rfl (by rfl) (by first | exact Br.cs_one _ _ | simp [Value.oneCell', Dk.cs]) zS (by rfl) ?_
   refine Jl.qn ?_
   refine Dh.Jq.segN zX ?_ zK
   refine Dh.JH.nil ?_
   refine Dh.JB.pv rfl trivial (fun _ => PR.qa rfl) ?_
   refine Dh.JB.nil<|Dh.JL.nil<|Jq.qt<|Jc.ret ?_
   exact Jq.fin ((A13, c13), z') (.inl rfl) rfl (RetVs.cellA rfl zH tsh27 (by rfl) (RetVs.cellA rfl zH tsh38 (by rfl) (RetVs.tmp rfl RetVs.nil))) (by rw [he]; rfl) zT zF
 · rw [if_neg he] at h0
   rw [show stepD d zs = d.own from if_neg he, show stepB d b zs = b from if_neg he]
   refine Ct.of _ Tryz.func11 Tryz.ntmps11 rfl rfl (fun X W => ?_)
   refine Jc.qs<|Jc.qr ?_
   refine Jl.box rfl (by rfl) ?_
   intro b3
   refine Jl.box rfl (by rfl) ?_
   intro b4
   refine Jl.alloc tze27 ?_
   intro b6
   refine Jl.alloc tze38 ?_
   intro b7
   refine Jl.pv (PR.qa rfl)<|Jl.qn<|Jq.qt<|Jc.qs<|Jc.qr ?_
   refine Jl.pv (PR.loadW rfl tsh27 zH (by rfl)) ?_
   refine Jl.pv (PR.qm rfl) ?_
   refine Jl.call h0 en26 (by rfl) zT zF ?_
   rintro ⟨A13, c13⟩
   refine Jl.pv (PR.qm rfl) ?_
   refine Jl.pv (PR.extract rfl (by rfl)) ?_
   refine Jl.pv (PR.extract rfl (by rfl)) ?_
   refine Jl.storeW rfl tsh27 rfl (by rfl) (by first | exact Br.cs_one _ _ | simp [Value.oneCell', Dk.cs]) zS (by rfl) ?_
   refine Jl.pv (PR.qa rfl)<|Jl.qn<|Jq.qt<|Jc.qs<|Jc.qs<|Jc.qr<|Jl.pv (PR.qm rfl) ?_
   refine Jl.pv (PR.neq true rfl rfl (by simpa using he)) ?_
   refine Jl.qn<|Jq.qt<|Jc.condT rfl<|Jc.qs ?_
   refine Jc.drawn [0, 0, 2, 0, 7, 23, 63] ([(6, false)], []) [⟨[(0, false), (1, false), (3, false)], [], 2⟩, ⟨[], [], 4⟩, ⟨[], [], 5⟩] tmx (by kernel_rfl) ?_
   refine Dh.JH.cons ?_
   refine Dh.JB.rd [.blk _ _ _] rfl trivial zT (fun _ => PR.loadW rfl tsh27 Has.here (by rfl)) ?_
   refine Dh.JB.rd [.blk _ _ _] rfl trivial zT (fun _ => PR.loadW rfl tsh38 Has.here (by rfl)) ?_
   refine Dh.JB.pv rfl trivial (fun _ => PR.qm rfl)<|Dh.JB.nil<|Dh.JL.nil ?_
   refine Dh.JE.mk rfl (fun _ h => by cases h) (fun C3_2 => ?_)
   refine Jl.call (bown_ct b ((M, cM), (I, cI), (K, cK)) (by omega) (by omega) (by omega)) en28 (by rfl) zT zF ?_
   rintro ⟨⟨A1, c1⟩, ⟨A2, c2⟩, ⟨A3, c3⟩⟩
   refine Jl.qn ?_
   refine Dh.Jq.segV zX ?_ zK
   refine Dh.JH.cons<|Dh.JB.nil<|Dh.JL.nil ?_
   refine Dh.JE.mk rfl (fun _ h => by cases h) (fun C3_4 => ?_)
   refine Jl.storeW rfl tsh27 rfl (by rfl) (by first | exact Br.cs_one _ _ | simp [Value.oneCell', Dk.cs]) zS (by rfl) ?_
   refine Jl.qn ?_
   refine Dh.Jq.segN zX ?_ zK
   refine Dh.JH.cons<|Dh.JB.nil<|Dh.JL.nil ?_
   refine Dh.JE.mk rfl (fun _ h => by cases h) (fun C3_5 => ?_)
   refine Jl.storeW rfl tsh38 rfl (by rfl) (by first | exact Br.cs_one _ _ | simp [Value.oneCell', Dk.cs]) zS (by rfl) ?_
   refine Jl.qn ?_
   refine Dh.Jq.segN zX ?_ zK
   refine Dh.JH.nil ?_
   refine Dh.JB.pv rfl trivial (fun _ => PR.qa rfl) ?_
   refine Dh.JB.nil<|Dh.JL.nil<|Jq.qt<|Jc.ret<|Jq.thenR ?_
   exact Jq.fin ((A13, c13), ((A1, c1), (A2, c2), (A3, c3))) (.inl rfl) rfl (RetVs.cellA rfl zH tsh27 (by rfl) (RetVs.cellA rfl zH tsh38 (by rfl) (RetVs.tmp rfl RetVs.nil))) rfl zT zF
def tornD (d : Dk) (keep : Int) (zs : Rcs) : Dk := if addE d zs = 0 then (addD d zs).crash keep else d.crash keep
theorem torn1_ct (d : Dk) (x : AdC) (bk : Nat) (keep : Int) (hd : d.b.length ≤ 500000) (hc : d.b.length ≤ x.2) :
 Ct Tryz.prog 34 [d.v x, .pointer (some ⟨bk, 0, none⟩)] [.blk bk 3 [.int .i64 keep]] [.rd x.1 (u8s d.b)] (fun y : AdC => (d.crash keep).v y) (fun y => [(d.crash keep).row y, .blk bk 3 [.int .i64 keep]]) (fun _ => []) := by
 obtain ⟨A, c⟩ := x
 refine Ct.of _ Tryz.func34 Tryz.ntmps34 rfl rfl (fun X W => ?_)
 refine Jc.qs<|Jc.qr ?_
 refine Jl.box rfl (by rfl) ?_
 intro b2
 refine Jl.alloc tze27 ?_
 intro b3
 refine Jl.qn<|Jq.qt<|Jc.qs<|Jc.qr ?_
 refine Jl.pv (PR.loadW rfl tsh27 zH (by rfl)) ?_
 refine Jl.pv (PR.load1 rfl tsh3 zH (by rfl)) ?_
 refine Jl.call (crash_ct A c d keep hd hc) en35 (by rfl) zT zF ?_
 rintro ⟨A6, c6⟩
 refine Jl.storeW rfl tsh27 rfl (by rfl) (by simp [Value.oneCell', Dk.cs]) zS (by rfl) ?_
 refine Jl.qn<|Jq.qt<|Jc.ret ?_
 exact Jq.fin (A6, c6) (.inl rfl) rfl (RetVs.cellA rfl zH tsh27 (by rfl) RetVs.nil) rfl zT zF
theorem torn_ct (d : Dk) (x : AdC) (keep : Int) (L : Option Addr) (cL : Nat) (zs : Rcs) (mm : Nat → AdC) (hd : d.b.length ≤ 500000) (hc : d.b.length ≤ x.2) (hn : zs.length ≤ 90) (hz : RcsSm zs) :
 Ct Tryz.prog 16 [d.v x, .int .i64 keep, .slice L zs.length cL] [] [.rd x.1 (u8s d.b), .rd L (rcsV zs), .rcs zs, .many mm] (fun y : AdC => (tornD d keep zs).v y) (fun y => [(tornD d keep zs).row y]) (fun _ => []) := by
 obtain ⟨A, c⟩ := x
 have hl : ∀ w ∈ zs, w.2.l.length ≤ 1000000 := fun w hw => by
  obtain ⟨k, hk, rfl⟩ := List.mem_iff_getElem.1 hw
  have := (hz k hk).1; omega
 have hadd := addD_le d zs
 have h0 : ∀ bk, _ := fun bk => added1_ct d (A, c) L cL zs mm (fun d => d.crash keep) 34 bk keep hd hc hn hl en34 (fun A c hc => torn1_ct (addD d zs) (A, c) bk keep (by omega) hc)
 by_cases he : addE d zs = 0
 · rw [show tornD d keep zs = (addD d zs).crash keep from if_pos he]
   rw [if_pos he] at h0
   refine Ct.of _ Tryz.func16 Tryz.ntmps16 rfl rfl (fun X W => ?_)
   refine Jc.qs<|Jc.qr ?_
   refine Jl.box rfl (by rfl) ?_
   intro b3
   refine Jl.box rfl (by rfl) ?_
   intro b4
   refine Jl.alloc tze27 ?_
   intro b6
   refine Jl.qn<|Jq.qt<|Jc.qs<|Jc.qr ?_
   refine Jl.pv (PR.makeFunc rfl rfl) ?_
   refine Jl.pv (PR.qa rfl)<|Jl.qn<|Jq.qt<|Jc.qs<|Jc.qr ?_
   refine Jl.pv (PR.loadW rfl tsh27 zH (by rfl)) ?_
   refine Jl.pv (PR.qm rfl)<|Jl.pv (PR.qm rfl) ?_
   refine Jl.call (h0 b4) en26 (by rfl) zT zF ?_
   rintro ⟨A15, c15⟩
   refine Jl.pv (PR.qm rfl) ?_
   refine Jl.pv (PR.extract rfl (by rfl)) ?_
   refine Jl.pv (PR.extract rfl (by rfl)) ?_
   refine Jl.alloc tze27 ?_
   intro b8
   refine Jl.storeW rfl tsh27 rfl (by rfl) (by simp [Value.oneCell', Dk.cs]) zS (by rfl) ?_
   refine Jl.pv (PR.qa rfl)<|Jl.qn<|Jq.qt<|Jc.qs<|Jc.qs<|Jc.qr<|Jl.pv (PR.qm rfl) ?_
   refine Jl.pv (PR.neq false rfl rfl (by rw [he]; rfl)) ?_
   refine Jl.qn<|Jq.qt<|Jc.condF rfl<|Jc.skip<|Jq.qt<|Jc.qs<|Jc.qr ?_
   refine Jl.pv (PR.loadW rfl tsh27 zH (by rfl)) ?_
   refine Jl.storeW rfl tsh27 rfl (by rfl) (by simp [Value.oneCell', Dk.cs]) zS (by rfl) ?_
   refine Jl.qn<|Jq.qt<|Jc.ret ?_
   exact Jq.fin (A15, c15) (.inl rfl) rfl (RetVs.cellA rfl zH tsh27 (by rfl) RetVs.nil) rfl zT zF
 · rw [show tornD d keep zs = d.crash keep from if_neg he]
   rw [if_neg he] at h0
   refine Ct.of _ Tryz.func16 Tryz.ntmps16 rfl rfl (fun X W => ?_)
   refine Jc.qs<|Jc.qr ?_
   refine Jl.box rfl (by rfl) ?_
   intro b3
   refine Jl.box rfl (by rfl) ?_
   intro b4
   refine Jl.alloc tze27 ?_
   intro b6
   refine Jl.qn<|Jq.qt<|Jc.qs<|Jc.qr ?_
   refine Jl.pv (PR.makeFunc rfl rfl) ?_
   refine Jl.pv (PR.qa rfl)<|Jl.qn<|Jq.qt<|Jc.qs<|Jc.qr ?_
   refine Jl.pv (PR.loadW rfl tsh27 zH (by rfl)) ?_
   refine Jl.pv (PR.qm rfl)<|Jl.pv (PR.qm rfl) ?_
   refine Jl.call (h0 b4) en26 (by rfl) zT zF ?_
   rintro ⟨A15, c15⟩
   refine Jl.pv (PR.qm rfl) ?_
   refine Jl.pv (PR.extract rfl (by rfl)) ?_
   refine Jl.pv (PR.extract rfl (by rfl)) ?_
   refine Jl.alloc tze27 ?_
   intro b8
   refine Jl.storeW rfl tsh27 rfl (by rfl) (by simp [Value.oneCell', Dk.cs]) zS (by rfl) ?_
   refine Jl.pv (PR.qa rfl)<|Jl.qn<|Jq.qt<|Jc.qs<|Jc.qs<|Jc.qr<|Jl.pv (PR.qm rfl) ?_
   refine Jl.pv (PR.neq true rfl rfl (by simpa using he)) ?_
   refine Jl.qn<|Jq.qt<|Jc.condT rfl<|Jc.qs<|Jc.qr<|Jl.pv (PR.qm rfl) ?_
   refine Jl.pv (PR.loadW rfl tsh27 zH (by rfl)) ?_
   refine Jl.callv (torn1_ct d (A, c) b4 keep hd hc) en34 rfl (by rfl) (by rfl) zT zF ?_
   rintro ⟨A22, c22⟩
   refine Jl.storeW rfl tsh27 rfl (by rfl) (by simp [Value.oneCell', Dk.cs]) zS (by rfl) ?_
   refine Jl.qn<|Jq.qt<|Jc.ret<|Jq.thenR ?_
   exact Jq.fin (A22, c22) (.inl rfl) rfl (RetVs.cellA rfl zH tsh27 (by rfl) RetVs.nil) rfl zT zF
end Go.Proofs.YtakbgccddokbbaaGreatDoor
namespace Go.Proofs.YtakbgccddokbbaaGreatDoor
open Go.RowKit
attribute [local irreducible] Res.blk Res.row Fact.rd Fact.chg
theorem all_in {b : Br} {n : Nat} (h : b.In n) {l : List Rc} (hl : ∀ r ∈ l, r.l.length ≤ 1000) : (b.all l).In (n + l.length) := by
  induction l generalizing b n with
  | nil => exact h
  | cons r l ih =>
    have := ih (h.step (hl r List.mem_cons_self)) fun r hr => hl r (List.mem_cons_of_mem _ hr)
    rw [List.length_cons, Nat.add_comm l.length 1, ← Nat.add_assoc]
    exact this
theorem log_small (b : List UInt8) : ∀ r ∈ logN b, r.l.length ≤ 1000 := fun r hr => by have := (Rc.ok_len (log_ok b r hr)).2.2; omega
theorem logN_len (b : List UInt8) : 4 * (logN b).length ≤ b.length := by rw [logN, List.length_map]; exact scanN_len b
theorem log_in (b : List UInt8) : (bz0.all (logN b)).In b.length := by
 have h := all_in bz0_in (log_small b)
 have h1 := logN_len b
 have h2 := h.its
 have h3 := h.kps
 have h4 := h.ep
 exact ⟨h.ok, by omega, by omega, h.ms, by omega⟩
abbrev bootR : Rc := ⟨1, []⟩
abbrev zb : Rcs := [((none, 0), bootR)]
theorem zb_sm : RcsSm zb := fun k hk => by
 obtain rfl : k = 0 := by simp [zb] at hk; omega
 exact ⟨Nat.zero_le _, Nat.le_refl _⟩
theorem zb_rcs (X : Nat → Prop) (W : World) : (Fact.rcs zb).p X W := fun z hz => by
 obtain rfl : z = ((none, 0), bootR) := by simpa [zb] using hz
 exact Fact.rd_nil none X W
def bootD (d : Dk) : Dk := stepD (openD d) zb
def bootB (d : Dk) : Br := stepB (openD d) (ofB d) zb
theorem opened_le (d : Dk) : (openD d).b.length ≤ d.own.b.length := by
 have := logU_le d.own.b
 simp only [openD, List.length_take]; omega
theorem boot_ct (d : Dk) (x : AdC) (mm : Nat → AdC) (hd : d.b.length ≤ 500000) (hc : d.b.length ≤ x.2) :
 Ct Tryz.prog 17 [d.v x] [] [.rd x.1 (u8s d.b), .many mm, .lim, .chg] (fun y : AdC × BrA => .tuple #[(bootD d).v y.1, (bootB d).v y.2, .int .i64 (addE (openD d) zb)]) (fun y => (bootD d).row y.1 :: (bootB d).rows y.2) (fun _ => []) := by
 obtain ⟨A, c⟩ := x
 have hol := d.own_len
 have hop := opened_le d
 refine Ct.of _ Tryz.func17 Tryz.ntmps17 rfl rfl (fun X W => ?_)
 refine Jc.qs<|Jc.qr ?_
 refine Jl.box rfl (by rfl) ?_
 intro b1
 refine Jl.alloc tze27 ?_
 intro b2
 refine Jl.alloc tze38 ?_
 intro b3
 refine Jl.pv (PR.qa rfl)<|Jl.qn<|Jq.qt<|Jc.qs<|Jc.qr ?_
 refine Jl.pv (PR.loadW rfl tsh27 zH (by rfl)) ?_
 refine Jl.call (of_ctR d (A, c) mm hd hc) en12 (by rfl) zT zF ?_
 rintro ⟨⟨⟨A8, c8⟩, h8⟩, ⟨M, cM⟩, ⟨I, cI⟩, ⟨K, cK⟩⟩
 refine Jl.sealR (A := M) (m := (ofB d).cf.ms.length) (cap := cM) (xs := i64s (ofB d).cf.ms) zD ?_
 refine Jl.sealR (A := I) (m := (ofB d).its.length) (cap := cI) (xs := itsV (ofB d).its) zD ?_
 refine Jl.sealR (A := K) (m := (ofB d).kps.length) (cap := cK) (xs := kpsV (ofB d).kps) zD ?_
 refine Jl.pv (PR.qm rfl) ?_
 refine Jl.pv (PR.extract rfl (by rfl)) ?_
 refine Jl.pv (PR.extract rfl (by rfl)) ?_
 refine Jl.alloc tze38 ?_
 intro b5
 refine Jl.storeW rfl tsh27 rfl (by rfl) (by first | exact Br.cs_one _ _ | simp [Value.oneCell', Dk.cs, Rc.cs]) zS (by rfl) ?_
 refine Jl.storeW rfl tsh38 rfl (by rfl) (by first | exact Br.cs_one _ _ | simp [Value.oneCell', Dk.cs, Rc.cs]) zS (by rfl) ?_
 refine Jl.qn<|Jq.qt<|Jc.qs<|Jc.qr ?_
 refine Jl.pv (PR.loadW rfl tsh27 zH (by rfl)) ?_
 refine Jl.pv (PR.loadW rfl tsh38 zH (by rfl)) ?_
 refine Jl.pv (PR.build (by rfl) tze54 tpl54_0 (by rfl)) ?_
 refine Jl.buildSlice (by rfl) tsl22 tzr22_1 (by rfl) (by rfl) ?_
 intro b14
 refine Jl.seal (b := b14) zD ?_
 refine Jl.fact0 (.rcs zb) (fun X W => zb_rcs X W) ?_
 refine Jl.call (step_ct (openD d) (A8, c8) (ofB d) d.own.b.length ((M, cM), (I, cI), (K, cK)) (some ⟨b14, 0, none⟩) 1 zb mm (by omega) h8 (by decide) zb_sm (log_in d.own.b) (by omega)) en11 (by rfl) zT zF ?_
 rintro y
 refine Jl.pv (PR.extract rfl (by rfl)) ?_
 refine Jl.pv (PR.extract rfl (by rfl)) ?_
 refine Jl.pv (PR.extract rfl (by rfl)) ?_
 refine Jl.storeW rfl tsh27 rfl (by rfl) (by first | exact Br.cs_one _ _ | simp [Value.oneCell', Dk.cs, Rc.cs]) zS (by rfl) ?_
 refine Jl.storeW rfl tsh38 rfl (by rfl) (by first | exact Br.cs_one _ _ | simp [Value.oneCell', Dk.cs, Rc.cs]) zS (by rfl) ?_
 refine Jl.pv (PR.qa rfl)<|Jl.qn<|Jq.qt<|Jc.ret ?_
 exact Jq.fin y (.inl rfl) rfl (RetVs.cellA rfl zH tsh27 (by rfl) (RetVs.cellA rfl zH tsh38 (by rfl) (RetVs.tmp rfl RetVs.nil))) rfl zT zF
end Go.Proofs.YtakbgccddokbbaaGreatDoor
namespace Go.Proofs.YtakbgccddokbbaaGreatDoor
open Go.RowKit
theorem rcs_old (zs : Rcs) : (Fact.rcs zs).Old := fun X X' W W' h h1 h2 h3 z hz => Fact.rd_old _ _ X X' W W' (h z hz) h1 h2 h3
theorem chg_old : Fact.chg.Old := fun X X' W W' h h1 h2 h3 => by
 obtain ⟨As, h4, h5⟩ := h
 exact ⟨As, Fact.rd_old _ _ X X' W W' h4 h1 h2 h3, fun i hi => Fact.rd_old _ _ X X' W W' (h5 i hi) h1 h2 h3⟩
abbrev Brs := List (BrA × Br)
def brsV (ws : Brs) : List Value := ws.flatMap fun z => z.2.cs z.1
theorem brsV_len (ws : Brs) : (brsV ws).length = ws.length * 27 := by
 induction ws with
 | nil => rfl
 | cons w ws ih => rw [brsV, List.flatMap_cons, List.length_append, ← brsV, ih, List.length_cons, Nat.succ_mul]; simp [Br.cs, Cf.cs, Rf.cs]; omega
theorem brsV_snoc (ws : Brs) (y : BrA) (p : Br) : brsV (ws ++ [(y, p)]) = brsV ws ++ p.cs y := by simp [brsV]
def Fact.brs (ws : Brs) : Fact := ⟨fun X W => ∀ z ∈ ws, ∀ φ ∈ z.2.rd z.1, φ.p X W, fun X X' W W' h hf hx z hz φ hφ => φ.fr X X' W W' (h z hz φ hφ) hf hx⟩
theorem brs_snoc {ws : Brs} {y : BrA} {p : Br} {X : Nat → Prop} {W : World} (h : (Fact.brs ws).p X W) (k : ∀ φ ∈ p.rd y, φ.p X W) : (Fact.brs (ws ++ [(y, p)])).p X W := fun z hz => by
 rcases List.mem_append.1 hz with hz | hz
 · exact h z hz
 · obtain rfl : z = (y, p) := by simpa using hz
   exact k
attribute [local irreducible] Res.blk Res.row Fact.rd Fact.chg
theorem Jl.brs {P : Program} {r : Option Nat} {C : Cx} {n : Nat × List Nat} {ops : Array Oper} {Q : Exit → Act → World → Prop} {rest : List Oper} {env : List (Nat × Value)} {R : List Res} {Φ : List Fact} {ws : Brs} (y : BrA) (p : Br) (hm : Mem (.brs ws) Φ) (h : FSub (p.rd y) Φ)
 (k : Jl P r C n ops Q rest env R (.brs (ws ++ [(y, p)]) :: Φ)) : Jl P r C n ops Q rest env R Φ := fun a W h1 h2 =>
 k a W h1 (h2.add (brs_snoc (h2.fact hm) fun φ hφ => h2.facts φ (h.mem φ hφ)))
def brK (zs : Rcs) (k : Nat) : Br := allK bz0 zs k
def bvals (zs : Rcs) (k : Nat) (y : BrA) : List Value := [(brK zs k).v y]
def bposts (zs : Rcs) (k : Nat) (y : BrA) : List Fact := (brK zs k).rd y
theorem bown_y (b : Br) (z : BrA) (hn : b.its.length ≤ 1000000) (hm : b.kps.length ≤ 1000000) (hms : b.cf.ms.length ≤ 1000000) :
 CtY Tryz.prog 28 [b.v z] [] (b.rd z) (fun x : BrA => b.v x) (fun _ => []) (fun x => [.is True]) (fun x => b.rd x) :=
 Ct.young (fun x : BrA => [(3, 1, x.1, b.cf.ms.length, i64s b.cf.ms), (70, 4, x.2.1, b.its.length, itsV b.its), (72, 8, x.2.2, b.kps.length, kpsV b.kps)]) (bown_ct b z hn hm hms) (fun _ => rfl) (fun _ => True) (fun _ _ => trivial)
theorem bapply_y (b : Br) (n : Nat) (z : BrA) (r : Rc) (x : AdC) (h : b.In n) (hn : n ≤ 900000) (hl : r.l.length ≤ 1000) (hc : r.l.length ≤ x.2) :
 CtY Tryz.prog 61 [b.v z, r.v x] [] (b.rd z ++ [.rd x.1 (i64s r.l), .lim, .chg]) (fun y : BrA => (b.apply r).v y) (fun _ => []) (fun y => [.is True]) (fun y => (b.apply r).rd y) :=
 Ct.young (fun y : BrA => [(3, 1, y.1, (b.apply r).cf.ms.length, i64s (b.apply r).cf.ms), (70, 4, y.2.1, (b.apply r).its.length, itsV (b.apply r).its), (72, 8, y.2.2, (b.apply r).kps.length, kpsV (b.apply r).kps)]) (bapply_any b n z r x h hn hl hc) (fun _ => rfl) (fun _ => True) (fun _ _ => trivial)
theorem brK_in {zs : Rcs} (hz : RcsSm zs) {k : Nat} (hk : k ≤ zs.length) : (brK zs k).In k := by
 have := allK_in bz0_in (fun k hk => (hz k hk).1) k hk
 rwa [Nat.zero_add] at this
theorem brK_succ {zs : Rcs} {k : Nat} (h : k < zs.length) : brK zs (k + 1) = (brK zs k).apply zs[k].2 := allK_succ bz0 h
structure BI (zs : Rcs) where
 k : Nat
 y : BrA
 m : Nat
 Φk : List Fact
 hk : k ≤ zs.length
theorem brains1_it (L : Option Addr) (cL b0 : Nat) (zs : Rcs) (hn : zs.length ≤ 800000) (hz : RcsSm zs) :
 ItZ True Tryz.prog 60 [.pointer (some ⟨b0, 0, none⟩)] [.blk b0 22 [.slice L zs.length cL]] [.rd L (rcsV zs), .rcs zs, .lim, .chg] (zs.length + 1) (bvals zs) (bposts zs) := by
 refine ItZ.of _ Tryz.func60 Tryz.ntmps60 rfl rfl (by rfl) (by simp only [List.mem_cons, List.not_mem_nil, or_false]; rintro φ (rfl | rfl | rfl | rfl); exact Fact.rd_old _ _; exact rcs_old _; exact Fact.rd_old _ _; exact chg_old) (fun W l cl clx hno hy => ?_)
 have hrl := rcsV_len zs
 refine Jc.qs<|Jc.qr ?_
 refine Jl.pv (PR.build (by rfl) tze38 tpl38_ (by rfl)) ?_
 refine Jl.fact0 (.rd none []) (fun X W => Fact.rd_nil none X W) ?_
 refine Jl.call ((bown_y bz0 nilZ (by decide) (by decide) (by decide)).at W.heap.size) en28 (by rfl) zT zF ?_
 rintro y0
 refine Jl.alloc tze38 ?_
 intro b3
 refine Jl.storeW rfl tsh38 rfl (by rfl) (by first | exact Br.cs_one _ _ | simp [Value.oneCell', Rc.cs]) zS (by rfl) ?_
 refine Jl.qn<|Jq.qt<|Jc.qs<|Jc.qr<|Jl.pv (PR.qm rfl) ?_
 refine Jl.pv (PR.loadW rfl tsh38 zH (by rfl)) ?_
 refine hy _ _ _ _ _ _ _ _ _ _ _ _ _ _ 0 W.heap.size y0 [] (bz0.rd y0) (by omega) rfl (by rfl) zM zF (fun φ h => List.mem_append_left _ (List.mem_append_left _ h)) rfl (fun m11 => ?_) ?_
 · refine Jl.pv (PR.qa rfl)<|Jl.qn<|Jq.qt<|Jc.qs<|Jc.qr ?_
   refine Jl.pv (PR.load1 rfl tsh22 zH (by rfl)) ?_
   refine Jl.pv (PR.len rfl tsl22) ?_
   refine Jl.pv (PR.qm rfl)<|Jl.qn<|Jq.qt ?_
   refine Jc.block ?_
   refine Jc.loop (σ := BI zs) (fun s => [(14, .int .i64 (s.k : Int)), (13, .int .i64 (zs.length : Int)), (12, .slice L zs.length cL), (0, .func (.yield l) #[] #[]), (1, .pointer (some ⟨b0, 0, none⟩)), (3, ptr b3), (4, .bool true)]) (fun s => [.blk b3 38 ((brK zs s.k).cs s.y), .blk b0 22 [.slice L zs.length cL]]) (fun s => cl (s.k + 1) s.m s.Φk :: .sz s.m :: ((brK zs s.k).rd s.y ++ [.rd L (rcsV zs), .rcs zs, .lim, .chg])) (fun s => zs.length - s.k) ⟨0, y0, m11, bz0.rd y0 ++ [], Nat.zero_le _⟩ (by repeat (first | exact trivial | refine And.intro rfl ?_)) rfl zF ?_
   rintro ⟨k, y, m, Φk, hk⟩
   show Jc _ _ _ _ _ _ [(14, Value.int .i64 (k : Int)), (13, .int .i64 (zs.length : Int)), (12, .slice L zs.length cL), (0, .func (.yield l) #[] #[]), (1, .pointer (some ⟨b0, 0, none⟩)), (3, ptr b3), (4, .bool true)] [.blk b3 38 ((brK zs k).cs y), .blk b0 22 [.slice L zs.length cL]] (cl (k + 1) m Φk :: .sz m :: ((brK zs k).rd y ++ [.rd L (rcsV zs), .rcs zs, .lim, .chg]))
   refine Jc.qs<|Jc.qr ?_
   refine Jl.pv (PR.lss _ rfl rfl rfl) ?_
   refine Jl.qn<|Jq.qt<|Jc.qs ?_
   refine Jc.cond rfl (fun h0 => ?_) (fun h0 => ?_)
   · try replace h0 := zV h0
     have hlt : k < zs.length := by omega
     have hin := brK_in hz hk
     have hsm := hz k hlt
     refine Jc.fact (.rd zs[k].1.1 (i64s zs[k].2.l)) (φ := .rcs zs) zM (fun X W h => h _ (List.getElem_mem hlt)) ?_
     refine Jc.skip<|Jq.qt<|Jc.qs ?_
     refine Jc.block ?_
     refine Jc.qs<|Jc.qr ?_
     refine Jl.pv (PR.idx k rfl rfl tsl22 zM (rcsV_len _) (by omega) rfl hlt) ?_
     refine Jl.pv (PR.loadRA rfl tsh54 zM (by decide) (rcs_at hlt)) ?_
     refine Jl.alloc tze54 ?_
     intro b6
     refine Jl.storeW rfl tsh54 rfl (by rfl) (by first | exact Br.cs_one _ _ | simp [Value.oneCell', Rc.cs]) zS (by rfl) ?_
     refine Jl.qn<|Jq.qt<|Jc.qs<|Jc.qr ?_
     refine Jl.pv (PR.loadW rfl tsh38 zH (by rfl)) ?_
     refine Jl.pv (PR.loadW rfl tsh54 zH (by rfl)) ?_
     refine Jl.call ((bapply_y (brK zs k) k y zs[k].2 zs[k].1 hin (by omega) hsm.1 hsm.2).at m) en61 (by rfl) zT zF ?_
     rintro y2
     refine Jl.storeW rfl tsh38 rfl (by rfl) (by first | exact Br.cs_one _ _ | simp [Value.oneCell', Rc.cs]) zS (by rfl) ?_
     refine Jl.qn<|Jq.qt<|Jc.qr<|Jl.pv (PR.qm rfl) ?_
     refine Jl.as (.bool true) (congrArg Value.bool rfl) ?_
     refine Jl.pv (PR.qm rfl)<|Jl.on rfl rfl<|Jl.pv (PR.qm rfl)<|Jl.on rfl rfl ?_
     refine Jl.pv (PR.loadW rfl tsh38 zH (by rfl)) ?_
     refine Jl.on rfl rfl ?_
     refine hy _ _ _ _ _ _ _ _ _ _ _ _ _ _ (k + 1) m y2 Φk (((brK zs k).apply zs[k].2).rd y2) (by omega) rfl (by show _ = some [(brK zs (k + 1)).v y2]; rw [brK_succ hlt]; rfl) zM zF (fun φ h => List.mem_append_left _ (List.mem_append_left _ (by rw [bposts, brK_succ hlt] at h; exact h))) rfl (fun m25 => ?_) ?_
     · refine Jl.pv (PR.pickT rfl rfl)<|Jl.pv (PR.qa rfl)<|Jl.qn ?_
       refine Jq.blkN ?_
       refine Jq.qt<|Jc.qr ?_
       refine Jl.pv (PR.add ((k + 1 : Nat) : Int) rfl rfl (by rw [w64 (by omega) (by omega)]; rfl)) ?_
       refine Jl.pv (PR.qm rfl)<|Jl.qn ?_
       rw [← brK_succ hlt]
       exact Jq.againT ⟨k + 1, y2, m25, (brK zs (k + 1)).rd y2 ++ Φk, hlt⟩ (by simp only; omega) (by repeat (first | exact trivial | refine And.intro rfl ?_)) zT (by exact ⟨Mem.here, (Mem.there Mem.here), (Mem.there (Mem.there Mem.here)), (Mem.there (Mem.there (Mem.there Mem.here))), (Mem.there (Mem.there (Mem.there (Mem.there Mem.here)))), (Mem.there (Mem.there (Mem.there (Mem.there (Mem.there (Mem.app Mem.here _)))))), (Mem.there (Mem.there (Mem.there (Mem.there (Mem.there (Mem.app (Mem.there Mem.here) _)))))), (Mem.there (Mem.there (Mem.there (Mem.there (Mem.there (Mem.app (Mem.there (Mem.there Mem.here)) _)))))), (Mem.there (Mem.there (Mem.there (Mem.there (Mem.there (Mem.app (Mem.there (Mem.there (Mem.there Mem.here))) _)))))), trivial⟩)
     exact Jl.noX (hno trivial) zM
   try replace h0 := zW h0
   obtain rfl : k = zs.length := by omega
   refine Jc.exit ?_
   refine Jq.thenX ?_
   refine Jq.thenX ?_
   refine Jq.blkX ?_
   exact Jq.itDoneY (.inr rfl) zM
 exact Jl.noX (hno trivial) zM
theorem brains_ct (L : Option Addr) (n cL : Nat) : Ct Tryz.prog 37 [.slice L n cL] [] [] (fun b : Nat => .func (.func 60) #[] #[.pointer (some ⟨b, 0, none⟩)]) (fun b => [.blk b 22 [.slice L n cL]]) (fun _ => []) := by
 refine Ct.of _ Tryz.func37 Tryz.ntmps37 rfl rfl (fun X W => ?_)
 refine Jc.qs<|Jc.qr ?_
 refine Jl.box rfl (by rfl) ?_
 intro b1
 refine Jl.pv (PR.qa rfl)<|Jl.qn<|Jq.qt<|Jc.qs<|Jc.qr ?_
 refine Jl.pv (PR.makeFunc rfl rfl) ?_
 refine Jl.pv (PR.qa rfl)<|Jl.qn<|Jq.qt<|Jc.ret ?_
 exact Jq.fin b1 (.inl rfl) rfl (RetVs.tmp rfl RetVs.nil) rfl zT zF
structure BS (zs : Rcs) where
 k : Nat
 ws : Brs
 A : Option Addr
 c : Nat
 hw : ws.map (·.2) = (List.range k).map (brK zs)
abbrev BrsOf (zs : Rcs) := { ws : Brs // ws.map (·.2) = (List.range (zs.length + 1)).map (brK zs) }
theorem BrsOf.len {zs : Rcs} (x : BrsOf zs) : x.1.length = zs.length + 1 := by
 have := congrArg List.length x.2
 simpa using this
theorem BrsOf.at_ {zs : Rcs} (x : BrsOf zs) {k : Nat} (h : k < zs.length + 1) : ∃ y, x.1[k]? = some (y, brK zs k) := by
 have h1 : k < x.1.length := by rw [x.len]; exact h
 have h2 := congrArg (fun l => l[k]?) x.2
 simp only [List.getElem?_map, List.getElem?_eq_getElem h1, List.getElem?_range h, Option.map_some, Option.some.injEq] at h2
 exact ⟨x.1[k].1, by rw [List.getElem?_eq_getElem h1, ← h2]⟩
theorem replayBrains_ct (L : Option Addr) (cL : Nat) (zs : Rcs) (hn : zs.length ≤ 800000) (hz : RcsSm zs) :
 Ct Tryz.prog 21 [.slice L zs.length cL] [] [.rd L (rcsV zs), .rcs zs, .lim, .chg] (fun x : BrsOf zs × AdC => .slice x.2.1 (zs.length + 1) x.2.2)
  (fun x => [.row 38 27 (.slice x.2.1 (zs.length + 1) x.2.2) (zs.length + 1) (brsV x.1.1)]) (fun x => [.brs x.1.1]) := by
 refine Ct.of _ Tryz.func21 Tryz.ntmps21 rfl rfl (fun X W => ?_)
 refine Jc.qs<|Jc.qr ?_
 refine Jl.alloc tze56 ?_
 intro b2
 refine Jl.qn<|Jq.qt<|Jc.qs<|Jc.qs<|Jc.qr<|Jl.pv (PR.qm rfl) ?_
 refine Jl.call (brains_ct L zs.length cL) en37 (by rfl) zT zF ?_
 rintro b5
 refine Jl.qn<|Jq.qt ?_
 refine Jc.block ?_
 refine Jc.nilRow 38 27 ?_
 refine Jc.fact0 (.brs []) (fun X W => by intro z hz; simp at hz) ?_
 refine Jc.rangeZ (σ := BS zs) (τ := Empty) (Inv := fun k s => s.k = k) (Rs := fun s => [.row 38 27 (.slice s.A s.k s.c) s.k (brsV s.ws), .blk b2 56 [.slice s.A s.k s.c]]) (Φs := fun s => [.brs s.ws]) (InvX := fun _ _ _ => False) (RsX := fun _ => []) (ΦsX := fun _ => []) (vals := bvals zs) (posts := bposts zs) rfl en60 (brains1_it L cL b5 zs hn hz) (fun _ _ _ _ h => h) zT zF (fun _ _ => rfl) rfl ⟨0, [], none, 0, rfl⟩ rfl (by simp [brsV]) (by exact ⟨Mem.here, trivial⟩) ?_ ?_ ?_
 · rintro k ⟨j, ws, A', c', hw⟩ y hk hj l C1
   obtain rfl : k = j := hj.symm
   have hwl : ws.length = k := by have := congrArg List.length hw; simpa using this
   have hbl := brsV_len ws
   show Jc _ _ _ _ _ _ (psetL [6] [(brK zs k).v y] _) [.row 38 27 (.slice A' k c') k (brsV ws), .blk b2 56 [.slice A' k c']] ((brK zs k).rd y ++ [.brs ws])
   refine Jc.qr ?_
   refine Jl.alloc tze38 ?_
   intro b3
   refine Jl.storeW rfl tsh38 rfl (by rfl) (by first | exact Br.cs_one _ _ | simp [Value.oneCell', Rc.cs]) zS (by rfl) ?_
   refine Jl.qn ?_
   refine Jq.assigned (fun C2 => ?_)
   refine Jc.block ?_
   refine Jc.qr ?_
   refine Jl.pv (PR.load1 rfl tsh56 zH (by rfl)) ?_
   refine Jl.pv (PR.loadW rfl tsh38 zH (by rfl)) ?_
   refine Jl.buildSlice (by rfl) tsl56 tzr56_1 (by rfl) (by rfl) ?_
   intro b9
   refine Jl.seal zD ?_
   refine Jl.append (k + 1) (brsV (ws ++ [(y, brK zs k)])) rfl rfl rfl tsl56 tze38 (by rfl) (by decide) tby38 (fun _ _ => zS) zM rfl (by rw [brsV_snoc]; rfl) rfl (by exact Br.cs_one _ _) (by omega) (by decide) ?_
   intro A10 c10
   refine Jl.brs (ws := ws) y (brK zs k) zM zF ?_
   refine Jl.store1 rfl tsh56 rfl (by rfl) zS (by rfl) ?_
   refine Jl.qn ?_
   refine Jq.blkN ?_
   refine Jq.lessR (rs := [.row 38 27 (.slice A10 (k + 1) c10) (k + 1) (brsV (ws ++ [(y, brK zs k)])), .blk b2 56 [.slice A10 (k + 1) c10]]) zT ?_
   exact Jq.next ⟨k + 1, ws ++ [(y, brK zs k)], A10, c10, by rw [List.map_append, hw, List.range_succ, List.map_append]; rfl⟩ rfl rfl (by exact ⟨zM, trivial⟩)
 · rintro ⟨j, ws, A', c', hw⟩ D0 hj
   obtain rfl : j = zs.length + 1 := hj
   show Jq _ _ _ .normal _ [.mark D0, .row 38 27 (.slice A' (zs.length + 1) c') (zs.length + 1) (brsV ws), .blk b2 56 [.slice A' (zs.length + 1) c']] [.brs ws]
   refine Jq.blkN ?_
   refine Jq.qt<|Jc.qs<|Jc.qr ?_
   refine Jl.pv (PR.load1 rfl tsh56 zH (by rfl)) ?_
   refine Jl.store1 rfl tsh56 rfl (by rfl) zS (by rfl) ?_
   refine Jl.qn<|Jq.qt<|Jc.ret ?_
   exact Jq.finM (Ds := [D0]) (⟨ws, hw⟩, (A', c')) (.inl rfl) rfl zT (RetVs.cell1 rfl zH tsh56 (by rfl) RetVs.nil) rfl zT zF
 exact fun _ _ t => t.elim
end Go.Proofs.YtakbgccddokbbaaGreatDoor
namespace Go.Proofs.YtakbgccddokbbaaGreatDoor
open Go.RowKit
attribute [local irreducible] Res.blk Res.row Fact.rd
instance : DecidableEq Rc := fun a b => decidable_of_iff _ (sameR_iff (a := a) (b := b))
def lgGreat (d : Dk) (zs : Rcs) : Bool := (zs.take 31).any (fun z => decide (45 < z.2.l.length)) || decide (1500 < d.b.length ∨ 30 < zs.length)
theorem lgGreat_no {d : Dk} {zs : Rcs} (h : lgGreat d zs = false) : d.b.length ≤ 1500 ∧ zs.length ≤ 30 ∧ ∀ z ∈ zs, z.2.l.length ≤ 45 := by
 simp only [lgGreat, Bool.or_eq_false_iff, decide_eq_false_iff_not, not_or] at h
 refine ⟨by omega, by omega, fun z hz => ?_⟩
 rw [List.take_of_length_le (by omega), List.any_eq_false] at h
 have := h.1 z hz
 simpa using this
theorem lgGreat_at {d : Dk} {zs : Rcs} {k : Nat} (h : k < zs.length) (h1 : k ≤ 30) (h2 : 45 < zs[k].2.l.length) : lgGreat d zs = true := by
 rw [lgGreat, Bool.or_eq_true]
 left
 rw [List.any_eq_true]
 exact ⟨zs[k], List.mem_iff_getElem.2 ⟨k, by rw [List.length_take]; omega, by simp⟩, by simpa using h2⟩
theorem lgGreat_end {d : Dk} {zs : Rcs} {k : Nat} (h : ∀ j (hj : j < zs.length), j < k → zs[j].2.l.length ≤ 45) (hk : k = zs.length ∨ 31 ≤ k) : lgGreat d zs = decide (1500 < d.b.length ∨ 30 < zs.length) := by
 rw [lgGreat]
 have : (zs.take 31).any (fun z => decide (45 < z.2.l.length)) = false := by
  rw [List.any_eq_false]
  intro z hz
  obtain ⟨j, hj, rfl⟩ := List.mem_iff_getElem.1 hz
  rw [List.length_take] at hj
  rw [List.getElem_take]
  have := h j (by omega) (by omega)
  simpa using this
 rw [this, Bool.false_or]
theorem lgreat_ct (d : Dk) (x : AdC) (L : Option Addr) (cL : Nat) (zs : Rcs) : Ct Tryz.prog 7 [d.v x, .slice L zs.length cL] [] [.rd L (rcsV zs)] (fun _ : Unit => .bool (lgGreat d zs)) (fun _ => []) (fun _ => []) := by
 have hz2 := rcsV_len zs
 refine Ct.of _ Tryz.func7 Tryz.ntmps7 rfl rfl (fun X W => ?_)
 refine Jc.qs<|Jc.qr ?_
 refine Jl.box rfl (by rfl) ?_
 intro b2
 refine Jl.pv (PR.qa rfl)<|Jl.qn<|Jq.qt<|Jc.qs<|Jc.qs<|Jc.qr<|Jl.pv (PR.qa rfl)<|Jl.qn<|Jq.qt ?_
 refine Jc.block ?_
 refine Jc.loop (σ := { k : Nat // (k ≤ zs.length ∧ k ≤ 31) ∧ ∀ j (hj : j < zs.length), j < k → zs[j].2.l.length ≤ 45 }) (fun s => [(5, .int .i64 (s.1 : Int)), (1, .slice L zs.length cL), (2, .pointer (some ⟨b2, 0, none⟩))]) (fun _ => [.blk b2 27 (d.cs x)]) (fun s => [.rd L (rcsV zs)]) (fun s => 31 - s.1) ⟨0, ⟨Nat.zero_le _, Nat.zero_le _⟩, fun j hj h => by omega⟩ (by repeat (first | exact trivial | refine And.intro rfl ?_)) rfl zF ?_
 rintro ⟨k, ⟨hk, hk2⟩, hN⟩
 show Jc _ _ _ _ _ _ [(5, Value.int .i64 (k : Int)), (1, .slice L zs.length cL), (2, .pointer (some ⟨b2, 0, none⟩))] [.blk b2 27 (d.cs x)] [.rd L (rcsV zs)]
 refine Jc.qs<|Jc.qs<|Jc.qr<|Jl.pv (PR.qm rfl)<|Jl.pv (PR.qm rfl) ?_
 refine Jl.pv (PR.len rfl tsl22) ?_
 refine Jl.pv (PR.lss _ rfl rfl rfl) ?_
 refine Jl.pv (PR.qm rfl) ?_
 refine Jl.bsplit (fun g10 => ?_) (fun g10 => ?_)
 · try replace g10 := zV g10
   refine Jl.on rfl rfl<|Jl.pv (PR.qm rfl)<|Jl.on rfl rfl ?_
   refine Jl.pv (PR.leq _ rfl rfl rfl) ?_
   refine Jl.pv (PR.pickT rfl rfl)<|Jl.qn<|Jq.qt ?_
   refine Jc.cond rfl (fun h0 => ?_) (fun h0 => ?_)
   · try replace h0 := zV h0
     have hlt : k < zs.length := by omega
     refine Jc.skip<|Jq.qt<|Jc.qs ?_
     refine Jc.block ?_
     refine Jc.qs<|Jc.qr<|Jl.pv (PR.qm rfl)<|Jl.pv (PR.qm rfl) ?_
     refine Jl.pv (PR.idx k rfl rfl tsl22 zM (rcsV_len _) (by omega) rfl hlt) ?_
     refine Jl.pv (PR.fieldAddrR rfl tfl54_1 zM (by omega)) ?_
     refine Jl.pv (PR.loadR rfl tsh23 zM ((takeL_spec (rcs_at hlt)).2 1 _ rfl)) ?_
     refine Jl.pv (PR.len rfl tsl23) ?_
     refine Jl.pv (PR.gtr _ rfl rfl rfl) ?_
     refine Jl.qn<|Jq.qt ?_
     refine Jc.cond rfl (fun h1 => ?_) (fun h1 => ?_)
     · try replace h1 := zV h1
       refine Jc.qs<|Jc.qr<|Jl.pv (PR.qa rfl)<|Jl.qn<|Jq.qt<|Jc.ret ?_
       refine Jq.blkR ?_
       refine Jq.thenR<|Jq.thenR ?_
       refine Jq.blkR ?_
       refine Jq.thenR ?_
       exact Jq.fin () (.inl rfl) rfl (RetVs.tmp rfl RetVs.nil) (congrArg Value.bool (lgGreat_at hlt (by omega) (by omega))) zT zF
     try replace h1 := zW h1
     refine Jc.skip ?_
     refine Jq.blkN ?_
     refine Jq.qt<|Jc.qr<|Jl.pv (PR.qm rfl) ?_
     refine Jl.pv (PR.add ((k + 1 : Nat) : Int) rfl rfl (by rw [w64 (by omega) (by omega)]; rfl)) ?_
     refine Jl.pv (PR.qa rfl)<|Jl.qn ?_
     exact Jq.againT ⟨k + 1, ⟨hlt, by omega⟩, fun j hj hjk => by rcases Nat.lt_succ_iff_lt_or_eq.1 hjk with h | rfl; exact hN j hj h; omega⟩ (by simp only; omega) (by repeat (first | exact trivial | refine And.intro rfl ?_)) zT zF
   try replace h0 := zW h0
   have hgr := lgGreat_end (d := d) hN (by omega)
   refine Jc.exit ?_
   refine Jq.thenX ?_
   refine Jq.thenX ?_
   refine Jq.blkX ?_
   refine Jq.qt<|Jc.qs<|Jc.qr<|Jl.pv (PR.qf rfl tfl27_0) ?_
   refine Jl.pv (PR.load1 rfl tsh25 zH (by rfl)) ?_
   refine Jl.pv (PR.len rfl tsl25) ?_
   refine Jl.pv (PR.gtr _ rfl rfl rfl) ?_
   refine Jl.pv (PR.qm rfl) ?_
   refine Jl.bsplit (fun g27 => ?_) (fun g27 => ?_)
   · try replace g27 := zV g27
     refine Jl.qo rfl rfl rfl<|Jl.qo rfl rfl rfl<|Jl.qo rfl rfl rfl<|Jl.pv (PR.pickT rfl rfl)<|Jl.pv (PR.qa rfl)<|Jl.qn<|Jq.qt<|Jc.ret ?_
     exact Jq.fin () (.inl rfl) rfl (RetVs.tmp rfl RetVs.nil) (congrArg Value.bool (by rw [hgr, Bool.eq_iff_iff]; simp; omega)) zT zF
   try replace g27 := zW g27
   refine Jl.on rfl rfl<|Jl.pv (PR.qm rfl)<|Jl.on rfl rfl ?_
   refine Jl.pv (PR.len rfl tsl22) ?_
   refine Jl.on rfl rfl ?_
   refine Jl.pv (PR.gtr _ rfl rfl rfl) ?_
   refine Jl.pv (PR.pickF rfl rfl)<|Jl.pv (PR.qa rfl)<|Jl.qn<|Jq.qt<|Jc.ret ?_
   exact Jq.fin () (.inl rfl) rfl (RetVs.tmp rfl RetVs.nil) (congrArg Value.bool (by rw [hgr, Bool.eq_iff_iff]; simp; omega)) zT zF
 try replace g10 := zW g10
 have hgr := lgGreat_end (d := d) hN (by omega)
 refine Jl.qo rfl rfl rfl<|Jl.qo rfl rfl rfl<|Jl.pv (PR.pickF rfl rfl)<|Jl.qn<|Jq.qt<|Jc.condF rfl ?_
 refine Jc.exit ?_
 refine Jq.thenX ?_
 refine Jq.thenX ?_
 refine Jq.blkX ?_
 refine Jq.qt<|Jc.qs<|Jc.qr<|Jl.pv (PR.qf rfl tfl27_0) ?_
 refine Jl.pv (PR.load1 rfl tsh25 zH (by rfl)) ?_
 refine Jl.pv (PR.len rfl tsl25) ?_
 refine Jl.pv (PR.gtr _ rfl rfl rfl) ?_
 refine Jl.pv (PR.qm rfl) ?_
 refine Jl.bsplit (fun g27 => ?_) (fun g27 => ?_)
 · try replace g27 := zV g27
   refine Jl.qo rfl rfl rfl<|Jl.qo rfl rfl rfl<|Jl.qo rfl rfl rfl<|Jl.pv (PR.pickT rfl rfl)<|Jl.pv (PR.qa rfl)<|Jl.qn<|Jq.qt<|Jc.ret ?_
   exact Jq.fin () (.inl rfl) rfl (RetVs.tmp rfl RetVs.nil) (congrArg Value.bool (by rw [hgr, Bool.eq_iff_iff]; simp; omega)) zT zF
 try replace g27 := zW g27
 refine Jl.on rfl rfl<|Jl.pv (PR.qm rfl)<|Jl.on rfl rfl ?_
 refine Jl.pv (PR.len rfl tsl22) ?_
 refine Jl.on rfl rfl ?_
 refine Jl.pv (PR.gtr _ rfl rfl rfl) ?_
 refine Jl.pv (PR.pickF rfl rfl)<|Jl.pv (PR.qa rfl)<|Jl.qn<|Jq.qt<|Jc.ret ?_
 exact Jq.fin () (.inl rfl) rfl (RetVs.tmp rfl RetVs.nil) (congrArg Value.bool (by rw [hgr, Bool.eq_iff_iff]; simp; omega)) zT zF
 -- hint not used: one
 -- hint not used: ret@h0F
 -- hint not used: ret@g10F
end Go.Proofs.YtakbgccddokbbaaGreatDoor
namespace Go.Proofs.YtakbgccddokbbaaGreatDoor
open Go.RowKit
attribute [local irreducible] Res.blk Res.row Fact.rd Fact.chg
theorem in_mono {b : Br} {n m : Nat} (h : b.In n) (hm : n ≤ m) : b.In m := ⟨h.ok, Nat.le_trans h.its hm, Nat.le_trans h.kps hm, h.ms, by have := h.ep; omega⟩
theorem rcsN_len (zs : Rcs) : (rcsN zs).length = zs.length := List.length_map ..
theorem rcsN_small {zs : Rcs} (hz : RcsSm zs) : ∀ r ∈ rcsN zs, r.l.length ≤ 1000 := fun r hr => by
 obtain ⟨w, hw, rfl⟩ := List.mem_map.1 hr
 obtain ⟨k, hk, rfl⟩ := List.mem_iff_getElem.1 hw
 exact (hz k hk).1
theorem stepB_in {d : Dk} {b : Br} {n : Nat} {zs : Rcs} (h : b.In n) (hz : RcsSm zs) : (stepB d b zs).In (n + zs.length) := by
 unfold stepB
 split
 · have := all_in h (rcsN_small hz)
   rwa [rcsN_len] at this
 · exact in_mono h (by omega)
theorem bootB_in (d : Dk) : (bootB d).In (d.own.b.length + 1) := stepB_in (log_in d.own.b) zb_sm
def wD1 : Dk := bootD (Dk.new 500)
def wB1 : Br := bootB (Dk.new 500)
def wD2 : Dk := stepD wD1 zb
def wB2 : Br := stepB wD1 wB1 zb
def wD3 : Dk := tornD wD2 1 zb
theorem wB1_in : wB1.In 1 := by
 have h := bootB_in (Dk.new 500)
 rw [show (Dk.new 500).own.b.length = 0 by decide +kernel] at h
 exact h
theorem wB2_in : wB2.In 2 := stepB_in wB1_in zb_sm
theorem brs1 {ws : Brs} (h : ∃ y, ws[1]? = some (y, brK zb 1)) : (brsV ws)[1 * 27 + 0]? = some (.int .i64 (brK zb 1).ep) := by
  obtain ⟨y, h⟩ := h
  match ws, h with
  | w0 :: w1 :: ws, h =>
    simp only [List.getElem?_cons_succ, List.getElem?_cons_zero, Option.some.injEq] at h
    subst h
    have e : (w0.2.cs w0.1).length = 27 := by simp [Br.cs, Cf.cs, Rf.cs]
    rw [brsV, List.flatMap_cons, List.flatMap_cons, List.getElem?_append_right (by omega), e]
    rfl
theorem rwakes_ct (mm : Nat → AdC) : Ct Tryz.prog 9 [] [] [.many mm, .lim, .chg] (fun _ : Unit => .bool true) (fun _ => []) (fun _ => []) := by
 refine Ct.of _ Tryz.func9 Tryz.ntmps9 rfl rfl (fun X W => ?_)
 refine Jc.fact0 (.rcs zb) (fun X W => zb_rcs X W) ?_
 refine Jc.qs<|Jc.qr<|Jl.pv (PR.qa rfl)<|Jl.qn<|Jq.qt<|Jc.qs<|Jc.qr ?_
 refine Jl.call (rnew_ct 500) en10 (by rfl) zT zF ?_
 rintro ⟨A13, c13⟩
 refine Jl.sealC zD (fun hc13 => ?_)
 refine Jl.call (boot_ct (Dk.new 500) (A13, c13) mm (by decide +kernel) hc13) en17 (by rfl) zT zF ?_
 rintro ⟨⟨A14, c14⟩, z14⟩
 refine Jl.sealC (A := A14) (m := (wD1).b.length) (cap := c14) (xs := u8s (wD1).b) zD (fun hc14 => ?_)
 refine Jl.sealR (A := z14.1.1) (m := (wB1).cf.ms.length) (cap := z14.1.2) (xs := i64s (wB1).cf.ms) zD ?_
 refine Jl.sealR (A := z14.2.1.1) (m := (wB1).its.length) (cap := z14.2.1.2) (xs := itsV (wB1).its) zD ?_
 refine Jl.sealR (A := z14.2.2.1) (m := (wB1).kps.length) (cap := z14.2.2.2) (xs := kpsV (wB1).kps) zD ?_
 refine Jl.pv (PR.qm rfl) ?_
 refine Jl.pv (PR.extract rfl (by rfl)) ?_
 refine Jl.pv (PR.extract rfl (by rfl)) ?_
 refine Jl.pv (PR.extract rfl (by rfl)) ?_
 refine Jl.alloc tze27 ?_
 intro b1
 refine Jl.alloc tze38 ?_
 intro b2
 refine Jl.storeW rfl tsh27 rfl (by rfl) (by first | exact Br.cs_one _ _ | simp [Value.oneCell', Dk.cs, Rc.cs]) zS (by rfl) ?_
 refine Jl.storeW rfl tsh38 rfl (by rfl) (by first | exact Br.cs_one _ _ | simp [Value.oneCell', Dk.cs, Rc.cs]) zS (by rfl) ?_
 refine Jl.pv (PR.qa rfl)<|Jl.qn<|Jq.qt<|Jc.qs<|Jc.qr ?_
 refine Jl.pv (PR.loadW rfl tsh27 zH (by rfl)) ?_
 refine Jl.pv (PR.loadW rfl tsh38 zH (by rfl)) ?_
 refine Jl.pv (PR.build (by rfl) tze54 tpl54_0 (by rfl)) ?_
 refine Jl.buildSlice (by rfl) tsl22 tzr22_1 (by rfl) (by rfl) ?_
 intro b22
 refine Jl.seal (b := b22) zD ?_
 refine Jl.call (step_ct wD1 (A14, c14) wB1 1 z14 (some ⟨b22, 0, none⟩) 1 zb mm (by decide +kernel) hc14 (by decide) zb_sm wB1_in (by decide)) en11 (by rfl) zT zF ?_
 rintro ⟨⟨A23, c23⟩, z23⟩
 refine Jl.sealC (A := A23) (m := (wD2).b.length) (cap := c23) (xs := u8s (wD2).b) zD (fun hc23 => ?_)
 refine Jl.sealR (A := z23.1.1) (m := (wB2).cf.ms.length) (cap := z23.1.2) (xs := i64s (wB2).cf.ms) zD ?_
 refine Jl.sealR (A := z23.2.1.1) (m := (wB2).its.length) (cap := z23.2.1.2) (xs := itsV (wB2).its) zD ?_
 refine Jl.sealR (A := z23.2.2.1) (m := (wB2).kps.length) (cap := z23.2.2.2) (xs := kpsV (wB2).kps) zD ?_
 refine Jl.pv (PR.qm rfl) ?_
 refine Jl.pv (PR.extract rfl (by rfl)) ?_
 refine Jl.pv (PR.extract rfl (by rfl)) ?_
 refine Jl.pv (PR.extract rfl (by rfl)) ?_
 refine Jl.storeW rfl tsh27 rfl (by rfl) (by first | exact Br.cs_one _ _ | simp [Value.oneCell', Dk.cs, Rc.cs]) zS (by rfl) ?_
 refine Jl.storeW rfl tsh38 rfl (by rfl) (by first | exact Br.cs_one _ _ | simp [Value.oneCell', Dk.cs, Rc.cs]) zS (by rfl) ?_
 refine Jl.pv (PR.qa rfl)<|Jl.qn<|Jq.qt<|Jc.qs<|Jc.qr ?_
 refine Jl.pv (PR.loadW rfl tsh27 zH (by rfl)) ?_
 refine Jl.pv (PR.build (by rfl) tze54 tpl54_0 (by rfl)) ?_
 refine Jl.buildSlice (by rfl) tsl22 tzr22_1 (by rfl) (by rfl) ?_
 intro b29
 refine Jl.seal (b := b29) zD ?_
 refine Jl.call (torn_ct wD2 (A23, c23) 1 (some ⟨b29, 0, none⟩) 1 zb mm (by decide +kernel) hc23 (by decide) zb_sm) en16 (by rfl) zT zF ?_
 rintro ⟨A30, c30⟩
 refine Jl.sealC (A := A30) (m := (wD3).b.length) (cap := c30) (xs := u8s (wD3).b) zD (fun hc30 => ?_)
 refine Jl.alloc tze27 ?_
 intro b5
 refine Jl.storeW rfl tsh27 rfl (by rfl) (by first | exact Br.cs_one _ _ | simp [Value.oneCell', Dk.cs, Rc.cs]) zS (by rfl) ?_
 refine Jl.qn<|Jq.qt<|Jc.qs<|Jc.qr ?_
 refine Jl.pv (PR.loadW rfl tsh27 zH (by rfl)) ?_
 refine Jl.call (of_ctR wD3 (A30, c30) mm (by decide +kernel) hc30) en12 (by rfl) zT zF ?_
 rintro ⟨⟨⟨A33, c33⟩, h33⟩, z33⟩
 refine Jl.pv (PR.qm rfl) ?_
 refine Jl.pv (PR.extract rfl (by rfl)) ?_
 refine Jl.pv (PR.extract rfl (by rfl)) ?_
 refine Jl.alloc tze27 ?_
 intro b6
 refine Jl.alloc tze38 ?_
 intro b7
 refine Jl.storeW rfl tsh27 rfl (by rfl) (by first | exact Br.cs_one _ _ | simp [Value.oneCell', Dk.cs, Rc.cs]) zS (by rfl) ?_
 refine Jl.storeW rfl tsh38 rfl (by rfl) (by first | exact Br.cs_one _ _ | simp [Value.oneCell', Dk.cs, Rc.cs]) zS (by rfl) ?_
 refine Jl.qn<|Jq.qt<|Jc.qs ?_
 refine Jc.drawn [0, 0, 0, 4, 15, 31, 63, 63, 63, 0, 0, 1663, 3839, 8191] ([(13, false)], []) [⟨[(1, false), (2, false), (3, true), (9, true), (10, true)], [], 0⟩, ⟨[], [3], 4⟩, ⟨[(5, false), (6, false), (7, false), (8, false)], [9, 10], 11⟩, ⟨[], [], 12⟩] tmx (by kernel_rfl) ?_
 refine Dh.JH.cons ?_
 refine Dh.JB.rd [.blk _ _ _] rfl trivial zT (fun _ => PR.loadW rfl tsh38 Has.here (by rfl)) ?_
 refine Dh.JB.pv rfl trivial (fun _ => PR.build (by rfl) tze54 tpl54_0 (by rfl)) ?_
 refine Dh.JB.buildSlice rfl trivial (by rfl) tsl22 tzr22_1 (by rfl) (by rfl) ?_
 refine Dh.JB.alloc rfl trivial tze27 ?_
 refine Dh.JB.alloc rfl trivial tze38 ?_
 refine Dh.JB.nil<|Dh.JL.nil ?_
 refine Dh.JE.mk rfl (fun _ h => by cases h) (fun C5_0 => ?_)
 refine Jl.call (rnew_ct 1) en10 (by rfl) zT zF ?_
 rintro ⟨A37, c37⟩
 refine Jl.sealC (A := A37) (m := (Dk.new 1).b.length) (cap := c37) (xs := u8s (Dk.new 1).b) zD (fun hc37 => ?_)
 refine Jl.qn ?_
 refine Dh.Jq.segV zX ?_ zK
 refine Dh.JH.cons<|Dh.JB.nil ?_
 refine Dh.JL.sl rfl (by repeat (first | exact Dh.es_here | apply Dh.es_there)) (fun b40 => ?_)
 refine Dh.JL.nil ?_
 refine Dh.JE.mk rfl (fun _ h => by cases h) (fun C5_4 => ?_)
 refine Jl.seal (b := b40) zD ?_
 refine Jl.call (step_ct (Dk.new 1) (A37, c37) wB2 2 z23 (some ⟨b40, 0, none⟩) 1 zb mm (by decide +kernel) hc37 (by decide) zb_sm wB2_in (by decide)) en11 (by rfl) zT zF ?_
 rintro ⟨⟨A41, c41⟩, z41⟩
 refine Jl.qn ?_
 refine Dh.Jq.segV zX ?_ zK
 refine Dh.JH.cons<|Dh.JB.pv rfl trivial (fun _ => PR.qm rfl) ?_
 refine Dh.JB.pv rfl trivial (fun _ => PR.extract rfl (by rfl)) ?_
 refine Dh.JB.pv rfl trivial (fun _ => PR.extract rfl (by rfl)) ?_
 refine Dh.JB.pv rfl trivial (fun _ => PR.extract rfl (by rfl)) ?_
 refine Dh.JB.nil ?_
 refine Dh.JL.ptr rfl (by repeat (first | exact Dh.es_here | apply Dh.es_there)) (fun b8 => ?_)
 refine Dh.JL.ptr rfl (by repeat (first | exact Dh.es_here | apply Dh.es_there)) (fun b9 => ?_)
 refine Dh.JL.nil ?_
 refine Dh.JE.mk rfl (fun _ h => by cases h) (fun C5_11 => ?_)
 refine Jl.storeW rfl tsh27 rfl (by rfl) (by first | exact Br.cs_one _ _ | simp [Value.oneCell', Dk.cs, Rc.cs]) zS (by rfl) ?_
 refine Jl.qn ?_
 refine Dh.Jq.segN zX ?_ zK
 refine Dh.JH.cons<|Dh.JB.nil<|Dh.JL.nil ?_
 refine Dh.JE.mk rfl (fun _ h => by cases h) (fun C5_12 => ?_)
 refine Jl.storeW rfl tsh38 rfl (by rfl) (by first | exact Br.cs_one _ _ | simp [Value.oneCell', Dk.cs, Rc.cs]) zS (by rfl) ?_
 refine Jl.qn ?_
 refine Dh.Jq.segN zX ?_ zK
 refine Dh.JH.nil ?_
 refine Dh.JB.pv rfl trivial (fun _ => PR.qa rfl) ?_
 refine Dh.JB.nil<|Dh.JL.nil<|Jq.qt<|Jc.qs<|Jc.qr ?_
 refine Jl.pv (PR.build (by rfl) tze54 tpl54_0 (by rfl)) ?_
 refine Jl.buildSlice (by rfl) tsl22 tzr22_1 (by rfl) (by rfl) ?_
 intro b46
 refine Jl.seal (b := b46) zD ?_
 refine Jl.call (replayBrains_ct (some ⟨b46, 0, none⟩) 1 zb (by decide) zb_sm) en21 (by rfl) zT zF ?_
 rintro ⟨ws, ⟨A47, c47⟩⟩
 refine Jl.sealR (A := A47) (xs := brsV ws.1) zD ?_
 refine Jl.pv (PR.qa rfl)<|Jl.qn<|Jq.qt<|Jc.qs<|Jc.qr<|Jl.pv (PR.qm rfl) ?_
 refine Jl.pv (PR.eql true rfl rfl (by decide +kernel)) ?_
 refine Jl.pv (PR.qm rfl)<|Jl.on rfl rfl<|Jl.pv (PR.qm rfl)<|Jl.on rfl rfl ?_
 refine Jl.pv (PR.eql true rfl rfl (by decide +kernel)) ?_
 refine Jl.pv (PR.pickT rfl rfl)<|Jl.pv (PR.qm rfl)<|Jl.on rfl rfl<|Jl.pv (PR.qf rfl tfl38_0)<|Jl.on rfl rfl ?_
 refine Jl.pv (PR.load1 rfl tsh3 zH (by rfl)) ?_
 refine Jl.on rfl rfl ?_
 refine Jl.pv (PR.eql true rfl rfl (by decide +kernel)) ?_
 refine Jl.pv (PR.pickT rfl rfl)<|Jl.pv (PR.qm rfl)<|Jl.on rfl rfl<|Jl.pv (PR.qf rfl tfl38_0)<|Jl.on rfl rfl ?_
 refine Jl.pv (PR.load1 rfl tsh3 zH (by rfl)) ?_
 refine Jl.on rfl rfl ?_
 refine Jl.pv (PR.eql true rfl rfl (by decide +kernel)) ?_
 refine Jl.pv (PR.pickT rfl rfl)<|Jl.pv (PR.qm rfl)<|Jl.on rfl rfl<|Jl.pv (PR.qm rfl)<|Jl.on rfl rfl ?_
 refine Jl.pv (PR.eql true rfl rfl (by decide +kernel)) ?_
 refine Jl.pv (PR.pickT rfl rfl)<|Jl.pv (PR.qm rfl)<|Jl.on rfl rfl<|Jl.pv (PR.qm rfl)<|Jl.on rfl rfl ?_
 refine Jl.pv (PR.len rfl tsl56) ?_
 refine Jl.on rfl rfl ?_
 refine Jl.pv (PR.eql true rfl rfl (by decide +kernel)) ?_
 refine Jl.pv (PR.pickT rfl rfl)<|Jl.pv (PR.qm rfl)<|Jl.on rfl rfl<|Jl.pv (PR.qm rfl)<|Jl.on rfl rfl ?_
 refine Jl.pv (PR.idx 1 rfl rfl tsl56 zM (by rw [brsV_len, ws.len]) (by omega) rfl (by decide)) ?_
 refine Jl.on rfl rfl ?_
 refine Jl.pv (PR.fieldAddrR rfl tfl38_0 zM (by rw [brsV_len, ws.len]; decide)) ?_
 refine Jl.on rfl rfl ?_
 refine Jl.pv (PR.loadR rfl tsh3 zM (brs1 (ws.at_ (by decide)))) ?_
 refine Jl.on rfl rfl ?_
 refine Jl.pv (PR.eql true rfl rfl (by decide +kernel)) ?_
 refine Jl.pv (PR.pickT rfl rfl)<|Jl.pv (PR.qm rfl)<|Jl.on rfl rfl ?_
 refine Jl.pv (PR.loadW rfl tsh27 zH (by rfl)) ?_
 refine Jl.on rfl rfl ?_
 refine Jl.call (safe_ctR wD2 (A23, c23) mm (by decide +kernel) hc23) en14 (by rfl) zT zF ?_
 rintro z82
 refine Jl.on rfl rfl ?_
 refine Jl.pv (PR.field1 rfl tfl38_0 ⟨_, _, Tryz.underlying38, rfl, tsh3⟩ (by rfl)) ?_
 refine Jl.on rfl rfl ?_
 refine Jl.pv (PR.eql true rfl rfl (by decide +kernel)) ?_
 refine Jl.pv (PR.pickT rfl rfl)<|Jl.pv (PR.qm rfl)<|Jl.on rfl rfl<|Jl.pv (PR.qf rfl tfl27_1)<|Jl.on rfl rfl ?_
 refine Jl.pv (PR.load1 rfl tsh3 zH (by rfl)) ?_
 refine Jl.on rfl rfl<|Jl.pv (PR.qf rfl tfl27_0)<|Jl.on rfl rfl ?_
 refine Jl.pv (PR.load1 rfl tsh25 zH (by rfl)) ?_
 refine Jl.on rfl rfl ?_
 refine Jl.pv (PR.len rfl tsl25) ?_
 refine Jl.on rfl rfl ?_
 refine Jl.pv (PR.eql true rfl rfl (by decide +kernel)) ?_
 refine Jl.pv (PR.pickT rfl rfl)<|Jl.pv (PR.qa rfl)<|Jl.qn<|Jq.qt<|Jc.ret ?_
 exact Jq.fin () (.inl rfl) rfl (RetVs.tmp rfl RetVs.nil) rfl zT zF
end Go.Proofs.YtakbgccddokbbaaGreatDoor
namespace Go.Proofs.YtakbgccddokbbaaGreatDoor
open Go.RowKit
attribute [local irreducible] Res.blk Res.row Fact.rd
theorem rframes_ct (L : Option Addr) (cL : Nat) (zs : Rcs) (hn : zs.length ≤ 1000) (hl : ∀ z ∈ zs, z.2.l.length ≤ 1000000) :
 Ct Tryz.prog 36 [.slice L zs.length cL] [] [.rd L (rcsV zs), .rcs zs] (fun x : AdC => .tuple #[.slice x.1 (frsN zs).length x.2, .bool (okAll zs)]) (fun x => [.row 5 1 (.slice x.1 (frsN zs).length x.2) (frsN zs).length (u8s (frsN zs))]) (fun _ => []) := by
 have hrl := rcsV_len zs
 refine Ct.of _ Tryz.func36 Tryz.ntmps36 rfl rfl (fun X W => ?_)
 refine Jc.qs<|Jc.qr<|Jl.pv (PR.qa rfl)<|Jl.pv (PR.qa rfl)<|Jl.qn<|Jq.qt<|Jc.qs<|Jc.qr<|Jl.pv (PR.qa rfl)<|Jl.qn<|Jq.qt<|Jc.qs<|Jc.qs<|Jc.qr<|Jl.pv (PR.qa rfl)<|Jl.qn<|Jq.qt ?_
 refine Jc.block ?_
 refine Jc.nilRow 5 1 ?_
 refine Jc.loop (σ := { k : Nat // k ≤ zs.length ∧ ∀ j (hj : j < zs.length), j < k → zs[j].2.ok = true } × AdC) (fun s => [(5, .int .i64 (s.1.1 : Int)), (0, .slice L zs.length cL), (4, .slice s.2.1 (recsB ((rcsN zs).take s.1.1)).length s.2.2)]) (fun s => [.row 5 1 (.slice s.2.1 (recsB ((rcsN zs).take s.1.1)).length s.2.2) (recsB ((rcsN zs).take s.1.1)).length (u8s (recsB ((rcsN zs).take s.1.1)))]) (fun s => [.rd L (rcsV zs), .rcs zs]) (fun s => zs.length - s.1.1) (⟨0, Nat.zero_le _, fun j hj h => by omega⟩, (none, 0)) (by repeat (first | exact trivial | refine And.intro rfl ?_)) rfl zF ?_
 rintro ⟨⟨k, hk, hO⟩, ⟨A2, c2⟩⟩
 show Jc _ _ _ _ _ _ [(5, Value.int .i64 (k : Int)), (0, .slice L zs.length cL), (4, .slice A2 (recsB ((rcsN zs).take k)).length c2)] [.row 5 1 (.slice A2 (recsB ((rcsN zs).take k)).length c2) (recsB ((rcsN zs).take k)).length (u8s (recsB ((rcsN zs).take k)))] [.rd L (rcsV zs), .rcs zs]
 refine Jc.qs<|Jc.qs<|Jc.qr<|Jl.pv (PR.qm rfl)<|Jl.pv (PR.qm rfl) ?_
 refine Jl.pv (PR.len rfl tsl22) ?_
 refine Jl.pv (PR.lss _ rfl rfl rfl) ?_
 refine Jl.qn<|Jq.qt ?_
 refine Jc.cond rfl (fun h0 => ?_) (fun h0 => ?_)
 · try replace h0 := zV h0
   have hlt : k < zs.length := by omega
   have hkz := hl _ (List.getElem_mem hlt)
   have hb1 := recsK_len k hn
   have hb2 := recB_len zs[k].2
   have hb3 := bytes_le (r := zs[k].2)
   refine Jc.fact (.rd zs[k].1.1 (i64s zs[k].2.l)) (φ := .rcs zs) zM (fun X W h => h _ (List.getElem_mem _)) ?_
   refine Jc.skip<|Jq.qt<|Jc.qs ?_
   refine Jc.block ?_
   refine Jc.qs<|Jc.qr<|Jl.pv (PR.qm rfl)<|Jl.pv (PR.qm rfl) ?_
   refine Jl.pv (PR.idx k rfl rfl tsl22 zM (rcsV_len _) (by omega) rfl hlt) ?_
   refine Jl.pv (PR.loadRA rfl tsh54 zM (by decide) (rcs_at hlt)) ?_
   refine Jl.call (rputR_ct zs[k].2 zs[k].1 hkz) en58 (by rfl) zT zF ?_
   rintro ⟨A20, c20⟩
   refine Jl.pv (PR.qm rfl) ?_
   refine Jl.pv (PR.extract rfl (by rfl)) ?_
   refine Jl.pv (PR.extract rfl (by rfl)) ?_
   refine Jl.pv (PR.qa rfl)<|Jl.pv (PR.qa rfl)<|Jl.qn<|Jq.qt<|Jc.qs<|Jc.qs<|Jc.qr<|Jl.pv (PR.qm rfl) ?_
   refine Jl.pv (PR.neq _ rfl rfl rfl) ?_
   refine Jl.qn<|Jq.qt ?_
   refine Jc.cond rfl (fun h1 => ?_) (fun h1 => ?_)
   · try replace h1 := zV h1
     have hno : okAll zs = false := okAll_no hlt (putE_no h1)
     refine Jc.qs<|Jc.qr<|Jl.pv (PR.qa rfl)<|Jl.pv (PR.qa rfl)<|Jl.qn<|Jq.qt<|Jc.ret<|Jq.thenR ?_
     refine Jq.blkR ?_
     refine Jq.thenR<|Jq.thenR ?_
     refine Jq.blkR ?_
     refine Jq.thenR ?_
     rw [show frsN zs = [] from if_neg (by simp [hno]), hno]
     refine Jq.nilRow 5 1 ?_
     exact Jq.fin (none, 0) (.inl rfl) rfl (RetVs.tmp rfl (RetVs.tmp rfl RetVs.nil)) rfl zT zF
   try replace h1 := zW h1
   have hok : zs[k].2.ok = true := putE_yes (by simpa using h1)
   refine Jc.skip<|Jq.qt<|Jc.qs<|Jc.qr<|Jl.pv (PR.qm rfl) ?_
   refine Jl.sealR zD ?_
   refine Jl.call (rfput_at (p := zs[k].2.bytes) rfl (by omega)) en59 (by rfl) zT zF ?_
   rintro ⟨A27, c27⟩
   refine Jl.sealR zD ?_
   refine Jl.pv (PR.qm rfl) ?_
   refine Jl.pv (PR.extract rfl (by rfl)) ?_
   refine Jl.pv (PR.extract rfl (by rfl)) ?_
   refine Jl.pv (PR.qa rfl)<|Jl.pv (PR.qa rfl)<|Jl.qn<|Jq.qt<|Jc.qs<|Jc.qs<|Jc.qr<|Jl.pv (PR.qm rfl) ?_
   refine Jl.pv (PR.neq false rfl rfl (by simp)) ?_
   refine Jl.qn<|Jq.qt<|Jc.condF rfl<|Jc.skip<|Jq.qt<|Jc.qr<|Jl.pv (PR.qm rfl)<|Jl.pv (PR.qm rfl) ?_
   refine Jl.append (recsB ((rcsN zs).take (k + 1))).length (u8s (recsB ((rcsN zs).take (k + 1)))) rfl rfl rfl tsl25 tze5 (by rfl) (by decide) tby5 (fun _ _ => zS) zM (by rw [recsK hlt]; simp [recB]) (by rw [recsK hlt]; simp [u8s, recB]) (by simp [u8s]) (u8s_one _) (by rw [recB] at hb2; omega) (by decide) ?_
   intro A34 c34
   refine Jl.pv (PR.qa rfl)<|Jl.qn ?_
   refine Jq.blkN ?_
   refine Jq.qt<|Jc.qr<|Jl.pv (PR.qm rfl) ?_
   refine Jl.pv (PR.add ((k + 1 : Nat) : Int) rfl rfl (by rw [w64 (by omega) (by omega)]; rfl)) ?_
   refine Jl.pv (PR.qa rfl)<|Jl.qn ?_
   exact Jq.againT (⟨k + 1, hlt, fun j hj hjk => by rcases Nat.lt_succ_iff_lt_or_eq.1 hjk with h | rfl; exact hO j hj h; exact hok⟩, (A34, c34)) (by simp only; omega) (by repeat (first | exact trivial | refine And.intro rfl ?_)) zT zF
 try replace h0 := zW h0
 obtain rfl : k = zs.length := by omega
 have hall : okAll zs = true := okAll_yes fun j hj => hO j hj hj
 have htk : (rcsN zs).take zs.length = rcsN zs := List.take_of_length_le (by simp [rcsN])
 rw [htk]
 refine Jc.exit ?_
 refine Jq.thenX ?_
 refine Jq.thenX ?_
 refine Jq.blkX ?_
 refine Jq.qt<|Jc.qs<|Jc.qr<|Jl.pv (PR.qm rfl)<|Jl.pv (PR.qa rfl)<|Jl.pv (PR.qa rfl)<|Jl.qn<|Jq.qt<|Jc.ret ?_
 rw [show frsN zs = recsB (rcsN zs) from if_pos hall, hall]
 exact Jq.fin (A2, c2) (.inl rfl) rfl (RetVs.tmp rfl (RetVs.tmp rfl RetVs.nil)) rfl zT zF
 -- hint not used: one
theorem rlong_ct (L : Option Addr) (cL : Nat) (zs : Rcs) (hn : zs.length ≤ 1000) (hl : ∀ z ∈ zs, z.2.l.length ≤ 1000000) :
 Ct Tryz.prog 20 [.slice L zs.length cL] [] [.rd L (rcsV zs), .rcs zs] (fun _ : Unit => .int .i64 (longL zs)) (fun _ => []) (fun _ => []) := by
 refine Ct.of _ Tryz.func20 Tryz.ntmps20 rfl rfl (fun X W => ?_)
 refine Jc.qs<|Jc.qr<|Jl.pv (PR.qa rfl)<|Jl.qn<|Jq.qt<|Jc.qs<|Jc.qr<|Jl.pv (PR.qm rfl) ?_
 refine Jl.call (rframes_ct L cL zs hn hl) en36 (by rfl) zT zF ?_
 rintro ⟨A7, c7⟩
 refine Jl.pv (PR.qm rfl) ?_
 refine Jl.pv (PR.extract rfl (by rfl)) ?_
 refine Jl.pv (PR.extract rfl (by rfl)) ?_
 refine Jl.pv (PR.qa rfl)<|Jl.pv (PR.qa rfl)<|Jl.qn<|Jq.qt<|Jc.qs<|Jc.qs<|Jc.qr<|Jl.pv (PR.qm rfl) ?_
 refine Jl.pv (PR.not rfl) ?_
 refine Jl.qn<|Jq.qt ?_
 refine Jc.cond rfl (fun h0 => ?_) (fun h0 => ?_)
 · try replace h0 := zV h0
   refine Jc.qs<|Jc.qr<|Jl.pv (PR.qa rfl)<|Jl.qn<|Jq.qt<|Jc.ret<|Jq.thenR ?_
   exact Jq.fin () (.inl rfl) rfl (RetVs.tmp rfl RetVs.nil) (by rw [longL, if_neg (by simpa using h0)]; rfl) zT zF
 try replace h0 := zW h0
 refine Jc.skip<|Jq.qt<|Jc.qs<|Jc.qr<|Jl.pv (PR.qm rfl) ?_
 refine Jl.pv (PR.len rfl tsl25) ?_
 refine Jl.pv (PR.qa rfl)<|Jl.qn<|Jq.qt<|Jc.ret ?_
 exact Jq.fin () (.inl rfl) rfl (RetVs.tmp rfl RetVs.nil) (by have h := (by simpa using h0 : okAll zs = true); rw [longL, if_pos h, frsN, if_pos h]; rfl) zT zF
end Go.Proofs.YtakbgccddokbbaaGreatDoor
namespace Go.Proofs.YtakbgccddokbbaaGreatDoor
open Go.RowKit
attribute [local irreducible] Res.blk Res.row Fact.rd
theorem openD_ok (d : Dk) : (openD d).ok := by
 have h1 := d.own_fit
 have h2 := logU_le d.own.b
 have h3 : (openD d).b.length = logU d.own.b := by simp only [openD, List.length_take]; omega
 refine ⟨?_, ?_, ?_, ?_⟩
 · rw [h3]; simp only [openD]; omega
 · simp only [openD]; omega
 · rw [h3]; simp only [openD]; omega
 · simp only [openD]; omega
theorem openD_own (d : Dk) : (openD d).own = openD d := Dk.ok_own (openD_ok d)
end Go.Proofs.YtakbgccddokbbaaGreatDoor
namespace Go.Proofs.YtakbgccddokbbaaGreatDoor
open Go.RowKit
attribute [local irreducible] Res.blk Res.row Fact.rd Fact.chg
end Go.Proofs.YtakbgccddokbbaaGreatDoor
namespace Go.Proofs.YtakbgccddokbbaaGreatDoor
open Go.RowKit
attribute [local irreducible] Res.blk Res.row Fact.rd Fact.chg
theorem dsame_at (A B : Option Addr) (c c' : Nat) {d d' : Dk} (hn : d.b.length ≤ 500000) (hn' : d'.b.length ≤ 500000) (hc : d.b.length ≤ c) (hc' : d'.b.length ≤ c') (h : d.own = d'.own) :
 Ct Tryz.prog 18 [d.v (A, c), d'.v (B, c')] [] [.rd A (u8s d.b), .rd B (u8s d'.b)] (fun _ : Unit => .bool true) (fun _ => []) (fun _ => []) := by
 have h0 := rsame_ct A B c c' d d' hn hn' hc hc'
 rw [decide_eq_true ⟨congrArg Dk.b h, congrArg Dk.s h, congrArg Dk.r h⟩] at h0
 exact h0
theorem stepD_le (d : Dk) (zs : Rcs) : (stepD d zs).b.length ≤ 65536 := by
 unfold stepD
 split
 · have := (addD d zs).sync_ok
   have h1 := this.1
   have h2 := this.2.2.2
   omega
 · have := d.own_fit; omega
end Go.Proofs.YtakbgccddokbbaaGreatDoor
namespace Go.Proofs.YtakbgccddokbbaaGreatDoor
open Go.RowKit
attribute [local irreducible] Res.blk Res.row Fact.rd Fact.chg
theorem zb_ok : okAll zb = true := by decide +kernel
theorem addE_zb (d : Dk) : addE d zb = d.appE (recsB [bootR]) := if_pos zb_ok
theorem addD_zb (d : Dk) : addD d zb = d.app (recsB [bootR]) := if_pos zb_ok
theorem boot_no {d : Dk} (h : addE (openD d) zb ≠ 0) : addE (openD d) zb = 30 ∧ bootD d = openD d ∧ bootB d = ofB d ∧ (openD d).own.r - (openD d).own.b.length < longL zb := by
 have hf : ¬ (openD d).fits (recsB [bootR]) := fun hf => h (by rw [addE_zb]; exact if_pos hf)
 refine ⟨by rw [addE_zb]; exact if_neg hf, by rw [bootD, stepD, if_neg h, openD_own], by rw [bootB, stepB, if_neg h], ?_⟩
 rw [longL, if_pos zb_ok]
 have h2 : ¬ ((((openD d).own.b ++ recsB [bootR]).length : Nat) : Int) ≤ (openD d).own.r := hf
 rw [List.length_append] at h2
 show (openD d).own.r - (openD d).own.b.length < ((recsB [bootR]).length : Nat)
 omega
theorem ep_lt {d : Dk} (h : d.b.length ≤ 1500) : (ofB d).ep < 1099511627776 := by
 have h1 := (log_in d.own.b).ep
 have h2 := d.own_len
 show (bz0.all (logN d.own.b)).ep < _
 omega
theorem booted {b : Br} (h : b.ep < 1099511627776) : b.all [bootR] = { b with ep := b.ep + 1 } := by
 show b.apply bootR = _
 rw [show b.apply bootR = b.boot by rw [Br.apply, if_pos (by decide), if_neg (by decide)]; rfl, Br.boot, if_pos h]
theorem boot_yes {d : Dk} (hd : d.b.length ≤ 1500) (h : addE (openD d) zb = 0) : bootB d = { ofB d with ep := (ofB d).ep + 1 } ∧ (bootD d).s = ((bootD d).b.length : Nat) ∧ ofB (bootD d) = { ofB d with ep := (ofB d).ep + 1 } := by
 have hf : (openD d).fits (recsB [bootR]) := by
  rw [addE_zb] at h
  by_cases hf : (openD d).fits (recsB [bootR])
  · exact hf
  · rw [Dk.appE, if_neg hf] at h; cases h
 have e1 : bootD d = ((openD d).app (recsB [bootR])).sync := by rw [bootD, stepD, if_pos h, addD_zb]
 have e2 : (openD d).app (recsB [bootR]) = ⟨(openD d).own.b ++ recsB [bootR], (openD d).own.s, (openD d).own.r⟩ := if_pos hf
 have hok := (openD d).app_ok (recsB [bootR])
 have e3 : (bootD d).b = recsB (logN d.own.b ++ [bootR]) := by
  rw [e1, Dk.sync, Dk.ok_own hok, e2, openD_own, recsB_app]
  show (openD d).b ++ _ = _
  rw [show (openD d).b = d.own.b.take (logU d.own.b) from rfl, log_take]
 refine ⟨by rw [bootB, stepB, if_pos h]; exact booted (ep_lt hd), by rw [e1]; rfl, ?_⟩
 have e4 : (bootD d).own = bootD d := by rw [e1]; exact Dk.ok_own (Dk.sync_ok _)
 rw [ofB, e4, e3, log_put0 (by
  intro r hr
  rcases List.mem_append.1 hr with hr | hr
  · exact log_ok _ r hr
  · rw [List.mem_singleton.1 hr]; decide +kernel)]
 show (bz0.all (logN d.own.b ++ [bootR])) = _
 rw [show bz0.all (logN d.own.b ++ [bootR]) = (bz0.all (logN d.own.b)).all [bootR] by simp [Br.all]]
 exact booted (ep_lt hd)
theorem replayBootLaw_ct (d : Dk) (x : AdC) (mm : Nat → AdC) (hc : d.b.length ≤ x.2) :
    Ct Tryz.prog 4 [d.v x] [] [.rd x.1 (u8s d.b), .many mm, .lim, .chg] (fun _ : Unit => .bool true) (fun _ => []) (fun _ => []) := by
  obtain ⟨A, c⟩ := x
  cases hg : lgGreat d [] with
  | true =>
    refine Ct.of _ Tryz.func4 Tryz.ntmps4 rfl rfl (fun X W => ?_)
    refine Jc.fact0 (.rd none []) (fun X W => Fact.rd_nil none X W) ?_
    refine Jc.qs<|Jc.qr ?_
    refine Jl.box rfl (by rfl) ?_
    intro b1
    refine Jl.pv (PR.qa rfl)<|Jl.qn<|Jq.qt<|Jc.qs<|Jc.qs<|Jc.qr ?_
    refine Jl.pv (PR.loadW rfl tsh27 zH (by rfl)) ?_
    refine Jl.call (lgreat_ct d (A, c) none 0 []) en7 (by rfl) zT zF ?_
    rintro ⟨⟩
    refine Jl.as (.bool true) (congrArg Value.bool hg) ?_
    refine Jl.qn<|Jq.qt<|Jc.condT rfl<|Jc.qs<|Jc.qr ?_
    refine Jl.call (rwakes_ct mm) en9 (by rfl) zT zF ?_
    rintro ⟨⟩
    refine Jl.pv (PR.qa rfl)<|Jl.qn<|Jq.qt<|Jc.ret<|Jq.thenR ?_
    exact Jq.fin () (.inl rfl) rfl (RetVs.tmp rfl RetVs.nil) rfl zT zF
    -- hint not used: one
  | false =>
    have hn := (lgGreat_no hg).1
    have hol := d.own_len
    have hop := opened_le d
    have hin := log_in d.own.b
    have hi1 := hin.its
    have hi2 := hin.kps
    have hi3 := hin.ms
    have hfit : (ofB d).its.length ≤ 1000000 ∧ (ofB d).kps.length ≤ 1000000 ∧ (ofB d).cf.ms.length ≤ 1000000 := ⟨by show (bz0.all (logN d.own.b)).its.length ≤ _; omega, by show (bz0.all (logN d.own.b)).kps.length ≤ _; omega, by show (bz0.all (logN d.own.b)).cf.ms.length ≤ _; omega⟩
    have hbt := boot_ct d (A, c) mm (by omega) hc
    have hbl := stepD_le (openD d) zb
    have hbl : (bootD d).b.length ≤ 65536 := hbl
    by_cases he : addE (openD d) zb = 0
    · obtain ⟨hB, hS, hO⟩ := boot_yes hn he
      have hep := ep_lt hn
      have hep0 : 0 ≤ (ofB d).ep := hin.ok.ep.1
      have h2 := fun x y => of_ctR (bootD d) x mm (by omega) y
      rw [hB, he] at hbt
      rw [hO] at h2
      refine Ct.of _ Tryz.func4 Tryz.ntmps4 rfl rfl (fun X W => ?_)
      refine Jc.fact0 (.rd none []) (fun X W => Fact.rd_nil none X W) ?_
      refine Jc.fact0 (.rcs []) (fun X W => by intro z hz; simp at hz) ?_
      refine Jc.qs<|Jc.qr ?_
      refine Jl.box rfl (by rfl) ?_
      intro b1
      refine Jl.pv (PR.qa rfl)<|Jl.qn<|Jq.qt<|Jc.qs<|Jc.qs<|Jc.qr ?_
      refine Jl.pv (PR.loadW rfl tsh27 zH (by rfl)) ?_
      refine Jl.call (lgreat_ct d (A, c) none 0 []) en7 (by rfl) zT zF ?_
      rintro ⟨⟩
      refine Jl.as (.bool false) (congrArg Value.bool hg) ?_
      refine Jl.qn<|Jq.qt<|Jc.condF rfl<|Jc.skip<|Jq.qt<|Jc.qs<|Jc.qr ?_
      refine Jl.pv (PR.loadW rfl tsh27 zH (by rfl)) ?_
      refine Jl.call (of_ctR d (A, c) mm (by omega) hc) en12 (by rfl) zT zF ?_
      rintro ⟨⟨⟨A15, c15⟩, h15⟩, z15⟩
      refine Jl.sealR (A := z15.1.1) (m := (ofB d).cf.ms.length) (cap := z15.1.2) (xs := i64s (ofB d).cf.ms) zD ?_
      refine Jl.sealR (A := z15.2.1.1) (m := (ofB d).its.length) (cap := z15.2.1.2) (xs := itsV (ofB d).its) zD ?_
      refine Jl.sealR (A := z15.2.2.1) (m := (ofB d).kps.length) (cap := z15.2.2.2) (xs := kpsV (ofB d).kps) zD ?_
      refine Jl.pv (PR.qm rfl) ?_
      refine Jl.pv (PR.extract rfl (by rfl)) ?_
      refine Jl.pv (PR.extract rfl (by rfl)) ?_
      refine Jl.alloc tze27 ?_
      intro b3
      refine Jl.alloc tze38 ?_
      intro b4
      refine Jl.storeW rfl tsh27 rfl (by rfl) (by first | exact Br.cs_one _ _ | simp [Value.oneCell', Dk.cs]) zS (by rfl) ?_
      refine Jl.storeW rfl tsh38 rfl (by rfl) (by first | exact Br.cs_one _ _ | simp [Value.oneCell', Dk.cs]) zS (by rfl) ?_
      refine Jl.qn<|Jq.qt<|Jc.qs<|Jc.qr ?_
      refine Jl.pv (PR.loadW rfl tsh27 zH (by rfl)) ?_
      refine Jl.call hbt en17 (by rfl) zT zF ?_
      rintro ⟨⟨A20, c20⟩, z20⟩
      refine Jl.sealC (A := A20) (m := (bootD d).b.length) (cap := c20) (xs := u8s (bootD d).b) zD (fun hc20 => ?_)
      refine Jl.sealR (A := z20.1.1) (m := (ofB d).cf.ms.length) (cap := z20.1.2) (xs := i64s (ofB d).cf.ms) zD ?_
      refine Jl.sealR (A := z20.2.1.1) (m := (ofB d).its.length) (cap := z20.2.1.2) (xs := itsV (ofB d).its) zD ?_
      refine Jl.sealR (A := z20.2.2.1) (m := (ofB d).kps.length) (cap := z20.2.2.2) (xs := kpsV (ofB d).kps) zD ?_
      refine Jl.pv (PR.qm rfl) ?_
      refine Jl.pv (PR.extract rfl (by rfl)) ?_
      refine Jl.pv (PR.extract rfl (by rfl)) ?_
      refine Jl.pv (PR.extract rfl (by rfl)) ?_
      refine Jl.alloc tze27 ?_
      intro b5
      refine Jl.alloc tze38 ?_
      intro b6
      refine Jl.storeW rfl tsh27 rfl (by rfl) (by first | exact Br.cs_one _ _ | simp [Value.oneCell', Dk.cs]) zS (by rfl) ?_
      refine Jl.storeW rfl tsh38 rfl (by rfl) (by first | exact Br.cs_one _ _ | simp [Value.oneCell', Dk.cs]) zS (by rfl) ?_
      refine Jl.pv (PR.qa rfl)<|Jl.qn<|Jq.qt<|Jc.qs<|Jc.qs<|Jc.qr<|Jl.pv (PR.qm rfl) ?_
      refine Jl.pv (PR.neq false rfl rfl (by simp)) ?_
      refine Jl.qn<|Jq.qt<|Jc.condF rfl<|Jc.skip<|Jq.qt<|Jc.qs<|Jc.qs<|Jc.qr<|Jl.pv (PR.qf rfl tfl38_0) ?_
      refine Jl.pv (PR.load1 rfl tsh3 zH (by rfl)) ?_
      refine Jl.pv (PR.qf rfl tfl38_0) ?_
      refine Jl.pv (PR.load1 rfl tsh3 zH (by rfl)) ?_
      refine Jl.pv (PR.add ((ofB d).ep + 1) rfl rfl (w64 (by omega) (by omega))) ?_
      refine Jl.pv (PR.neq false rfl rfl (by simp)) ?_
      refine Jl.pv (PR.qm rfl)<|Jl.on rfl rfl<|Jl.pv (PR.qf rfl tfl27_1)<|Jl.on rfl rfl ?_
      refine Jl.pv (PR.load1 rfl tsh3 zH (by rfl)) ?_
      refine Jl.on rfl rfl<|Jl.pv (PR.qf rfl tfl27_0)<|Jl.on rfl rfl ?_
      refine Jl.pv (PR.load1 rfl tsh25 zH (by rfl)) ?_
      refine Jl.on rfl rfl ?_
      refine Jl.pv (PR.len rfl tsl25) ?_
      refine Jl.on rfl rfl ?_
      refine Jl.pv (PR.neq false rfl rfl (by simp [hS])) ?_
      refine Jl.pv (PR.pickF rfl rfl)<|Jl.qn<|Jq.qt<|Jc.condF rfl<|Jc.skip<|Jq.qt<|Jc.qs<|Jc.qr ?_
      refine Jl.pv (PR.loadW rfl tsh27 zH (by rfl)) ?_
      refine Jl.call (h2 (A20, c20) hc20) en12 (by rfl) zT zF ?_
      rintro ⟨⟨⟨A65, c65⟩, h65⟩, z65⟩
      refine Jl.sealR (A := z65.1.1) (m := (ofB d).cf.ms.length) (cap := z65.1.2) (xs := i64s (ofB d).cf.ms) zD ?_
      refine Jl.sealR (A := z65.2.1.1) (m := (ofB d).its.length) (cap := z65.2.1.2) (xs := itsV (ofB d).its) zD ?_
      refine Jl.sealR (A := z65.2.2.1) (m := (ofB d).kps.length) (cap := z65.2.2.2) (xs := kpsV (ofB d).kps) zD ?_
      refine Jl.pv (PR.qm rfl) ?_
      refine Jl.pv (PR.extract rfl (by rfl)) ?_
      refine Jl.pv (PR.extract rfl (by rfl)) ?_
      refine Jl.alloc tze27 ?_
      intro b8
      refine Jl.alloc tze38 ?_
      intro b9
      refine Jl.storeW rfl tsh27 rfl (by rfl) (by first | exact Br.cs_one _ _ | simp [Value.oneCell', Dk.cs]) zS (by rfl) ?_
      refine Jl.storeW rfl tsh38 rfl (by rfl) (by first | exact Br.cs_one _ _ | simp [Value.oneCell', Dk.cs]) zS (by rfl) ?_
      refine Jl.qn<|Jq.qt<|Jc.qs<|Jc.qr<|Jl.pv (PR.qf rfl tfl38_0) ?_
      refine Jl.pv (PR.load1 rfl tsh3 zH (by rfl)) ?_
      refine Jl.pv (PR.qf rfl tfl38_0) ?_
      refine Jl.store1 rfl tsh3 rfl (by rfl) zS (by rfl) ?_
      refine Jl.qn<|Jq.qt<|Jc.qs<|Jc.qr<|Jl.pv (PR.qf rfl tfl38_0) ?_
      refine Jl.pv (PR.load1 rfl tsh3 zH (by rfl)) ?_
      refine Jl.pv (PR.sub ((ofB d).ep) rfl rfl (by show IntKind.i64.wrap ((ofB d).ep + 1 - 1) = _; rw [w64 (by omega) (by omega)]; omega)) ?_
      refine Jl.pv (PR.qf rfl tfl38_0) ?_
      refine Jl.store1 rfl tsh3 rfl (by rfl) zS (by rfl) ?_
      refine Jl.qn<|Jq.qt<|Jc.qs<|Jc.qr ?_
      refine Jl.pv (PR.loadW rfl tsh38 zH (by rfl)) ?_
      refine Jl.pv (PR.loadW rfl tsh38 zH (by rfl)) ?_
      refine Jl.call (brsame_at (a := ofB d) (b := ofB d) (x := z20) (y := z15) hfit.1 hfit.2.1 hfit.2.2 rfl) en13 (by rfl) zT zF ?_
      rintro ⟨⟩
      refine Jl.as (.bool true) (congrArg Value.bool rfl) ?_
      refine Jl.pv (PR.qm rfl)<|Jl.on rfl rfl ?_
      refine Jl.pv (PR.loadW rfl tsh38 zH (by rfl)) ?_
      refine Jl.on rfl rfl ?_
      refine Jl.pv (PR.loadW rfl tsh38 zH (by rfl)) ?_
      refine Jl.on rfl rfl ?_
      refine Jl.call (brsame_at (a := ofB d) (b := ofB d) (x := z65) (y := z15) hfit.1 hfit.2.1 hfit.2.2 rfl) en13 (by rfl) zT zF ?_
      rintro ⟨⟩
      refine Jl.as (.bool true) (congrArg Value.bool rfl) ?_
      refine Jl.pv (PR.pickT rfl rfl)<|Jl.pv (PR.qm rfl)<|Jl.on rfl rfl ?_
      refine Jl.call (rwakes_ct mm) en9 (by rfl) zT zF ?_
      rintro ⟨⟩
      refine Jl.pv (PR.pickT rfl rfl)<|Jl.pv (PR.qa rfl)<|Jl.qn<|Jq.qt<|Jc.ret ?_
      exact Jq.fin () (.inl rfl) rfl (RetVs.tmp rfl RetVs.nil) rfl zT zF
    · obtain ⟨hE, hD, hB, hL⟩ := boot_no he
      rw [hB, hD, hE] at hbt
      refine Ct.of _ Tryz.func4 Tryz.ntmps4 rfl rfl (fun X W => ?_)
      refine Jc.fact0 (.rd none []) (fun X W => Fact.rd_nil none X W) ?_
      refine Jc.fact0 (.rcs zb) (fun X W => zb_rcs X W) ?_
      refine Jc.qs<|Jc.qr ?_
      refine Jl.box rfl (by rfl) ?_
      intro b1
      refine Jl.pv (PR.qa rfl)<|Jl.qn<|Jq.qt<|Jc.qs<|Jc.qs<|Jc.qr ?_
      refine Jl.pv (PR.loadW rfl tsh27 zH (by rfl)) ?_
      refine Jl.call (lgreat_ct d (A, c) none 0 []) en7 (by rfl) zT zF ?_
      rintro ⟨⟩
      refine Jl.as (.bool false) (congrArg Value.bool hg) ?_
      refine Jl.qn<|Jq.qt<|Jc.condF rfl<|Jc.skip<|Jq.qt<|Jc.qs<|Jc.qr ?_
      refine Jl.pv (PR.loadW rfl tsh27 zH (by rfl)) ?_
      refine Jl.call (of_ctR d (A, c) mm (by omega) hc) en12 (by rfl) zT zF ?_
      rintro ⟨⟨⟨A15, c15⟩, h15⟩, z15⟩
      refine Jl.sealR (A := z15.1.1) (m := (ofB d).cf.ms.length) (cap := z15.1.2) (xs := i64s (ofB d).cf.ms) zD ?_
      refine Jl.sealR (A := z15.2.1.1) (m := (ofB d).its.length) (cap := z15.2.1.2) (xs := itsV (ofB d).its) zD ?_
      refine Jl.sealR (A := z15.2.2.1) (m := (ofB d).kps.length) (cap := z15.2.2.2) (xs := kpsV (ofB d).kps) zD ?_
      refine Jl.pv (PR.qm rfl) ?_
      refine Jl.pv (PR.extract rfl (by rfl)) ?_
      refine Jl.pv (PR.extract rfl (by rfl)) ?_
      refine Jl.alloc tze27 ?_
      intro b3
      refine Jl.alloc tze38 ?_
      intro b4
      refine Jl.storeW rfl tsh27 rfl (by rfl) (by first | exact Br.cs_one _ _ | simp [Value.oneCell', Dk.cs, Rc.cs]) zS (by rfl) ?_
      refine Jl.storeW rfl tsh38 rfl (by rfl) (by first | exact Br.cs_one _ _ | simp [Value.oneCell', Dk.cs, Rc.cs]) zS (by rfl) ?_
      refine Jl.qn<|Jq.qt<|Jc.qs<|Jc.qr ?_
      refine Jl.pv (PR.loadW rfl tsh27 zH (by rfl)) ?_
      refine Jl.call hbt en17 (by rfl) zT zF ?_
      rintro ⟨⟨A20, c20⟩, z20⟩
      refine Jl.sealC (A := A20) (m := (openD d).b.length) (cap := c20) (xs := u8s (openD d).b) zD (fun hc20 => ?_)
      refine Jl.sealR (A := z20.1.1) (m := (ofB d).cf.ms.length) (cap := z20.1.2) (xs := i64s (ofB d).cf.ms) zD ?_
      refine Jl.sealR (A := z20.2.1.1) (m := (ofB d).its.length) (cap := z20.2.1.2) (xs := itsV (ofB d).its) zD ?_
      refine Jl.sealR (A := z20.2.2.1) (m := (ofB d).kps.length) (cap := z20.2.2.2) (xs := kpsV (ofB d).kps) zD ?_
      refine Jl.pv (PR.qm rfl) ?_
      refine Jl.pv (PR.extract rfl (by rfl)) ?_
      refine Jl.pv (PR.extract rfl (by rfl)) ?_
      refine Jl.pv (PR.extract rfl (by rfl)) ?_
      refine Jl.alloc tze27 ?_
      intro b5
      refine Jl.alloc tze38 ?_
      intro b6
      refine Jl.storeW rfl tsh27 rfl (by rfl) (by first | exact Br.cs_one _ _ | simp [Value.oneCell', Dk.cs, Rc.cs]) zS (by rfl) ?_
      refine Jl.storeW rfl tsh38 rfl (by rfl) (by first | exact Br.cs_one _ _ | simp [Value.oneCell', Dk.cs, Rc.cs]) zS (by rfl) ?_
      refine Jl.pv (PR.qa rfl)<|Jl.qn<|Jq.qt<|Jc.qs<|Jc.qs<|Jc.qr<|Jl.pv (PR.qm rfl) ?_
      refine Jl.pv (PR.neq true rfl rfl (by decide)) ?_
      refine Jl.qn<|Jq.qt<|Jc.condT rfl<|Jc.qs<|Jc.qr<|Jl.pv (PR.qm rfl) ?_
      refine Jl.pv (PR.eql true rfl rfl (by decide)) ?_
      refine Jl.pv (PR.qm rfl)<|Jl.on rfl rfl ?_
      refine Jl.pv (PR.loadW rfl tsh27 zH (by rfl)) ?_
      refine Jl.on rfl rfl ?_
      refine Jl.pv (PR.loadW rfl tsh27 zH (by rfl)) ?_
      refine Jl.on rfl rfl ?_
      refine Jl.call (dsame_at A20 A15 c20 c15 (d := openD d) (d' := openD d) (by omega) (by omega) hc20 h15 rfl) en18 (by rfl) zT zF ?_
      rintro ⟨⟩
      refine Jl.as (.bool true) (congrArg Value.bool rfl) ?_
      refine Jl.pv (PR.pickT rfl rfl)<|Jl.pv (PR.qm rfl)<|Jl.on rfl rfl ?_
      refine Jl.pv (PR.loadW rfl tsh38 zH (by rfl)) ?_
      refine Jl.on rfl rfl ?_
      refine Jl.pv (PR.loadW rfl tsh38 zH (by rfl)) ?_
      refine Jl.on rfl rfl ?_
      refine Jl.call (brsame_at (a := ofB d) (b := ofB d) (x := z20) (y := z15) hfit.1 hfit.2.1 hfit.2.2 rfl) en13 (by rfl) zT zF ?_
      rintro ⟨⟩
      refine Jl.as (.bool true) (congrArg Value.bool rfl) ?_
      refine Jl.pv (PR.pickT rfl rfl)<|Jl.pv (PR.qm rfl)<|Jl.on rfl rfl ?_
      refine Jl.pv (PR.loadW rfl tsh27 zH (by rfl)) ?_
      refine Jl.on rfl rfl ?_
      refine Jl.call (rfree_ct A15 c15 (openD d) (by omega) h15) en19 (by rfl) zT zF ?_
      rintro ⟨⟩
      refine Jl.on rfl rfl ?_
      refine Jl.pv (PR.build (by rfl) tze54 tpl54_0 (by rfl)) ?_
      refine Jl.on rfl rfl ?_
      refine Jl.buildSlice (by rfl) tsl22 tzr22_1 (by rfl) (by rfl) ?_
      intro b42
      refine Jl.seal (b := b42) zD ?_
      refine Jl.on rfl rfl ?_
      refine Jl.call (rlong_ct (some ⟨b42, 0, none⟩) 1 zb (by decide) (by decide)) en20 (by rfl) zT zF ?_
      rintro ⟨⟩
      refine Jl.on rfl rfl ?_
      refine Jl.pv (PR.lss true rfl rfl (decide_eq_true hL)) ?_
      refine Jl.pv (PR.pickT rfl rfl)<|Jl.pv (PR.qm rfl)<|Jl.on rfl rfl ?_
      refine Jl.call (rwakes_ct mm) en9 (by rfl) zT zF ?_
      rintro ⟨⟩
      refine Jl.pv (PR.pickT rfl rfl)<|Jl.pv (PR.qa rfl)<|Jl.qn<|Jq.qt<|Jc.ret<|Jq.thenR ?_
      exact Jq.fin () (.inl rfl) rfl (RetVs.tmp rfl RetVs.nil) rfl zT zF
end Go.Proofs.YtakbgccddokbbaaGreatDoor
namespace Go.Proofs.YtakbgccddokbbaaGreatDoor
open Go.RowKit Go.ChangeShapes
theorem cell_lt {w : World} {a : Addr} {v : Value} (h : w.cell? a = some v) : a.block < w.heap.size := by
 unfold World.cell? at h
 cases hb : w.heap[a.block]? with
 | none => simp [hb] at h
 | some o => exact (Array.getElem?_eq_some_iff.1 hb).1
end Go.Proofs.YtakbgccddokbbaaGreatDoor
namespace Go.Proofs.YtakbgccddokbbaaGreatDoor
open Go.RowKit Go.ChangeShapes Go.WideShapes Go.Joins
def Opens (P : Program) (t : TypeId) {α : Type} (cs : α → List Value) (φ : α → List Fact) (sd : α → Prop) : Prop :=
 ∀ (H : Type) (enc : TypeId × Value → H) (w : World) (fuel : Nat) (l : List Value) (x : DataW H × List MemPlace), DataW.trod enc P w 0 (fun _ => true) true fuel t l = some x → ∃ d, l = cs d ∧ (∀ ψ ∈ φ d, ψ.p (fun _ => False) w) ∧ sd d
section
variable {P : Program} {t e : TypeId} {α β : Type} {cs : α → List Value} {φ : α → List Fact} {sd : α → Prop}
theorem Opens.int {k : IntKind} (ht : P.underlying t = some (.int k)) : Opens P t (fun n : Int => [.int k n]) (fun _ => []) (fun n => (Lit.int k n).wf = true) := fun H enc w fuel l x h => by
 obtain ⟨n, rfl, _, hw⟩ := DataW.trod_int ht h
 exact ⟨n, rfl, by simp, hw⟩
theorem u8_wf {n : Int} (h : (Lit.int .u8 n).wf = true) : ∃ x : UInt8, n = x.toNat := by
 simp [Lit.wf, IntKind.min, IntKind.max, IntKind.signed, IntKind.bits] at h
 exact ⟨UInt8.ofNat n.toNat, by simp; omega⟩
theorem Opens.u8 (ht : P.underlying t = some (.int .u8)) : Opens P t (fun n : UInt8 => [.int .u8 n.toNat]) (fun _ => []) (fun _ => True) := fun H enc w fuel l x h => by
 obtain ⟨n, rfl, _, hw⟩ := DataW.trod_int ht h
 obtain ⟨y, rfl⟩ := u8_wf hw
 exact ⟨y, rfl, by simp, trivial⟩
theorem Opens.bool (ht : P.underlying t = some .bool) : Opens P t (fun b : Bool => [.bool b]) (fun _ => []) (fun _ => True) := fun H enc w fuel l x h => by
  cases fuel with
  | zero => simp [DataW.trod] at h
  | succ n =>
    unfold DataW.trod at h
    rw [ht] at h
    split at h <;> simp_all
theorem Opens.map (h : Opens P t cs φ sd) (f : α → β) {cs' : β → List Value} {φ' : β → List Fact} {sd' : β → Prop} (h1 : ∀ d, sd d → cs d = cs' (f d)) (h2 : ∀ d w, sd d → (∀ ψ ∈ φ d, ψ.p (fun _ => False) w) → ∀ ψ ∈ φ' (f d), ψ.p (fun _ => False) w) (h3 : ∀ d, sd d → sd' (f d)) : Opens P t cs' φ' sd' := fun H enc w fuel l x hx => by
 obtain ⟨d, rfl, hf, hs⟩ := h H enc w fuel l x hx
 exact ⟨f d, h1 d hs, h2 d w hs hf, h3 d hs⟩
theorem cells_at {w : World} {a : Addr} {s : Nat} {l : List Value} (h : w.cells? 0 a s = some l) : l.length = s ∧ ∀ (j : Nat) u, l[j]? = some u → w.cell? (a.add j) = some u := by
 obtain ⟨_, h2, h3⟩ := World.cells?_some h
 exact ⟨h2, fun j u hu => by
  have hj := (List.getElem?_eq_some_iff.1 hu).1
  have := h3 j (by omega)
  rw [this, hu]⟩
theorem Opens.slice (ht : P.underlying t = some (.slice e)) (s : Nat) (hs : P.cellsOf e = s) (h : Opens P e cs φ sd) (hl : ∀ d, (cs d).length = s) :
    Opens P t (fun z : (Option Addr × Nat) × List α => [.slice z.1.1 z.2.length z.1.2]) (fun z => .rd z.1.1 (z.2.flatMap cs) :: z.2.flatMap φ) (fun z => z.2.length ≤ maxLen ∧ z.2.length ≤ z.1.2 ∧ ∀ d ∈ z.2, sd d) := fun H enc w fuel l x hx => by
  rcases Go.Deep.open_slice ht hx with ⟨rfl, _⟩ | ⟨a, len, cap, m, n, D, Pl, rfl, _, hlc, hm, hmm, _, hel⟩
  · exact ⟨((none, 0), []), rfl, fun ψ hψ => by
      obtain rfl : ψ = _ := by simpa using hψ
      exact Fact.rd_nil _ _ _, Nat.zero_le _, Nat.zero_le _, fun d hd => by simp at hd⟩
  · have hmc : m = cap := by simpa using hmm
    subst hmc
    have key : ∀ k, k ≤ len → ∃ ds : List α, ds.length = k ∧ (Fact.rd (some a) (ds.flatMap cs)).p (fun _ => False) w ∧ (∀ ψ ∈ ds.flatMap φ, ψ.p (fun _ => False) w) ∧ ∀ d ∈ ds, sd d := by
      intro k
      induction k with
      | zero => exact fun _ => ⟨[], rfl, Fact.rd_nil _ _ _, by simp, by simp⟩
      | succ k ih =>
        intro hk
        obtain ⟨ds, h1, h2, h3, h4⟩ := ih (by omega)
        obtain ⟨cs', g1, g2⟩ := hel k (by omega)
        obtain ⟨d, rfl, g3, g4⟩ := h H enc w n cs' _ g2
        rw [hs] at g1
        obtain ⟨g5, g6⟩ := cells_at g1
        refine ⟨ds ++ [d], by simp [h1], fun j u hu => ?_, fun ψ hψ => ?_, fun x hx => ?_⟩
        · have hfl : (ds.flatMap cs).length = k * s := by
            rw [← h1]
            clear h1 h2 h3 h4 hk ih hu
            induction ds with
            | nil => simp
            | cons y ds ih => simp only [List.flatMap_cons, List.length_append, List.length_cons, hl, ih, Nat.add_mul]; omega
          rw [List.flatMap_append, List.flatMap_cons, List.flatMap_nil, List.append_nil] at hu
          by_cases hj : j < (ds.flatMap cs).length
          · rw [List.getElem?_append_left hj] at hu
            exact h2 j u hu
          · rw [List.getElem?_append_right (by omega), hfl] at hu
            have := g6 _ u hu
            rw [add_add, show k * s + (j - k * s) = j by omega] at this
            have hb := cell_lt this
            rw [add_block] at hb
            exact ⟨a, rfl, hb, id, this⟩
        · rw [List.flatMap_append] at hψ
          rcases List.mem_append.1 hψ with hψ | hψ
          · exact h3 ψ hψ
          · exact g3 ψ (by simpa using hψ)
        · rcases List.mem_append.1 hx with hx | hx
          · exact h4 x hx
          · obtain rfl : x = d := by simpa using hx
            exact g4
    obtain ⟨ds, h1, h2, h3, h4⟩ := key len (Nat.le_refl _)
    refine ⟨((some a, m), ds), by simp [h1], fun ψ hψ => ?_, by simp only; omega, by simp only; omega, h4⟩
    rcases List.mem_cons.1 hψ with rfl | hψ
    · exact h2
    · exact h3 ψ hψ
def OpensF (P : Program) (fs : List Field) (off N : Nat) {α : Type} (cs : α → List Value) (φ : α → List Fact) (sd : α → Prop) : Prop :=
  ∀ (H : Type) (enc : TypeId × Value → H) (w : World) (n : Nat) (l : List Value), l.length = N → (∀ f ∈ fs, ∃ y, DataW.trod enc P w 0 (fun _ => true) true n f.type ((l.drop f.offset).take (P.cellsOf f.type)) = some y) →
    ∃ d, l.drop off = cs d ∧ (∀ ψ ∈ φ d, ψ.p (fun _ => False) w) ∧ sd d
theorem OpensF.nil {N : Nat} : OpensF P [] N N (fun _ : Unit => []) (fun _ => []) (fun _ => True) := fun H enc w n l hl _ => ⟨(), by simp [← hl], by simp, trivial⟩
theorem OpensF.cons {f : Field} {fs : List Field} {off N s : Nat} {cs2 : β → List Value} {φ2 : β → List Fact} {sd2 : β → Prop} (hs : P.cellsOf f.type = s) (ho : f.offset = off) (h : Opens P f.type cs φ sd) (k : OpensF P fs (off + s) N cs2 φ2 sd2) :
 OpensF P (f :: fs) off N (fun d : α × β => cs d.1 ++ cs2 d.2) (fun d => φ d.1 ++ φ2 d.2) (fun d => sd d.1 ∧ sd2 d.2) := fun H enc w n l hl hx => by
 obtain ⟨y, hy⟩ := hx f (List.mem_cons_self ..)
 rw [hs, ho] at hy
 obtain ⟨d, h1, h2, h3⟩ := h H enc w n _ _ hy
 obtain ⟨d2, k1, k2, k3⟩ := k H enc w n l hl fun f hf => hx f (List.mem_cons_of_mem _ hf)
 refine ⟨(d, d2), ?_, fun ψ hψ => ?_, h3, k3⟩
 · show _ = cs d ++ cs2 d2
   rw [← h1, ← k1, ← List.drop_drop, List.take_append_drop]
 · rcases List.mem_append.1 hψ with hψ | hψ
   · exact h2 ψ hψ
   · exact k2 ψ hψ
theorem Opens.struct {fs : Array Field} {N : Nat} (ht : P.underlying t = some (.struct fs)) (hN : P.cellsOf t = N) (h : OpensF P fs.toList 0 N cs φ sd) : Opens P t cs φ sd := fun H enc w fuel l x hx => by
 obtain ⟨xs, n, _, _, hl, hlen, hf⟩ := DataW.trod_struct ht hx
 obtain ⟨d, h1, h2, h3⟩ := h H enc w n l (by rw [hl, hN]) fun f hm => by
  obtain ⟨i, hi⟩ := List.mem_iff_getElem?.1 hm
  have hi' : fs[i]? = some f := by simpa using hi
  have := hf i f hi'
  have hlt : i < xs.length := by rw [hlen]; exact (Array.getElem?_eq_some_iff.1 hi').1
  rw [List.getElem?_eq_getElem hlt] at this
  exact ⟨_, this⟩
 exact ⟨d, by simpa using h1, h2, h3⟩
theorem open_struct {fs : Array Field} {H : Type} {enc : TypeId × Value → H} {w : World} {r : Reach} {b0 : Nat} {v : Value} {y : DataW H} {p : List MemPlace} (ht : P.underlying t = some (.struct fs)) (ho : Opens P t cs φ sd)
 (hv : Value.okWide P w r b0 t v) (h : DataW.Trod enc P w 0 (fun _ => true) true t v y p) : ∃ d, v = .agg (cs d).toArray ∧ (∀ ψ ∈ φ d, ψ.p (fun _ => False) w) ∧ sd d := by
 obtain ⟨l, rfl, _⟩ := okWide_struct ht hv
 obtain ⟨fuel, hf⟩ := h
 obtain ⟨d, h1, h2, h3⟩ := ho H enc w fuel _ _ hf
 refine ⟨d, ?_, h2, h3⟩
 rw [← h1]
 simp [Value.cells]
theorem flatMap_one {f : α → Value} (l : List α) : l.flatMap (fun x => [f x]) = l.map f := by induction l <;> simp_all
theorem Opens.bytes (ht : P.underlying t = some (.slice e)) (he : P.underlying e = some (.int .u8)) (hc : P.cellsOf e = 1) :
 Opens P t (fun z : (Option Addr × Nat) × List UInt8 => [.slice z.1.1 z.2.length z.1.2]) (fun z => [.rd z.1.1 (u8s z.2)]) (fun z => z.2.length ≤ maxLen ∧ z.2.length ≤ z.1.2) :=
 (Opens.slice ht 1 hc (Opens.u8 he) (fun _ => rfl)).map id (fun _ _ => rfl) (fun d w _ h ψ hψ => by
  obtain rfl : ψ = _ := by simpa using hψ
  have := h _ (List.mem_cons_self ..)
  rw [flatMap_one] at this
  exact this) fun d h => ⟨h.1, h.2.1⟩
end
end Go.Proofs.YtakbgccddokbbaaGreatDoor
namespace Go.Proofs.YtakbgccddokbbaaGreatDoor
open Go.RowKit Go.ChangeShapes Go.WideShapes Go.Joins
def OpensX (P : Program) (t : TypeId) {α : Type} (cs : α → List Value) (φ : α → List Fact) (dt : α → DataW Unit → Prop) : Prop :=
 ∀ (w : World) (fuel : Nat) (l : List Value) (x : DataW Unit × List MemPlace), DataW.trod (fun _ => ()) P w 0 (fun _ => true) false fuel t l = some x → ∃ d, l = cs d ∧ (∀ ψ ∈ φ d, ψ.p (fun _ => False) w) ∧ dt d x.1
section
variable {P : Program} {t e : TypeId} {α β : Type} {cs : α → List Value} {φ : α → List Fact} {dt : α → DataW Unit → Prop}
theorem OpensX.int {k : IntKind} (ht : P.underlying t = some (.int k)) : OpensX P t (fun n : Int => [.int k n]) (fun _ => []) (fun n D => D = .lit (.int k n)) := fun w fuel l x h => by
 obtain ⟨n, rfl, hx, _⟩ := DataW.trod_int ht h
 exact ⟨n, rfl, by simp, by rw [hx]⟩
def All2 (dt : α → DataW Unit → Prop) (ds : List α) (Ds : List (DataW Unit)) : Prop := Ds.length = ds.length ∧ ∀ (i : Nat) d D, ds[i]? = some d → Ds[i]? = some D → dt d D
theorem All2.head {d : α} {ds : List α} {D : DataW Unit} {Ds : List (DataW Unit)} (h : All2 dt (d :: ds) (D :: Ds)) : dt d D ∧ All2 dt ds Ds :=
 ⟨h.2 0 d D rfl rfl, by simpa using h.1, fun i d' D' h1 h2 => h.2 (i + 1) d' D' (by simpa using h1) (by simpa using h2)⟩
theorem OpensX.array {n s : Nat} (ht : P.underlying t = some (.array n e)) (hs : P.cellsOf e = s) (hn : P.cellsOf t = n * s) (h : OpensX P e cs φ dt) (hl : ∀ d, (cs d).length = s) :
    OpensX P t (fun ds : List α => ds.flatMap cs) (fun ds => ds.flatMap φ) (fun ds D => ds.length = n ∧ ∃ Ds, D = .agg Ds ∧ All2 dt ds Ds) := fun w fuel l x hx => by
  obtain ⟨xs, m, _, rfl, hlen, hxs, hel⟩ := DataW.trod_array ht hx
  rw [hs] at hel
  rw [hn] at hlen
  have key : ∀ k, k ≤ n → ∃ ds : List α, ds.length = k ∧ l.take (k * s) = ds.flatMap cs ∧ (∀ ψ ∈ ds.flatMap φ, ψ.p (fun _ => False) w) ∧ ∀ (i : Nat) d D, ds[i]? = some d → (xs.map (·.1))[i]? = some D → dt d D := by
    intro k
    induction k with
    | zero => exact fun _ => ⟨[], rfl, by simp, by simp, by simp⟩
    | succ k ih =>
      intro hk
      obtain ⟨ds, h1, h2, h3, h4⟩ := ih (by omega)
      have h5 := hel k (by omega)
      rw [List.getElem?_eq_getElem (show k < xs.length by omega)] at h5
      obtain ⟨d, g1, g2, g3⟩ := h w m _ _ h5
      refine ⟨ds ++ [d], by simp [h1], by rw [Nat.add_mul, Nat.one_mul, List.take_add, h2, g1, List.flatMap_append]; simp, fun ψ hψ => ?_, fun i d' D' hd hD => ?_⟩
      · rw [List.flatMap_append] at hψ
        rcases List.mem_append.1 hψ with hψ | hψ
        · exact h3 ψ hψ
        · exact g2 ψ (by simpa using hψ)
      · by_cases hi : i < ds.length
        · rw [List.getElem?_append_left hi] at hd
          exact h4 i d' D' hd hD
        · rw [List.getElem?_append_right (by omega)] at hd
          have hi0 : i = k := by
            have := (List.getElem?_eq_some_iff.1 hd).1
            simp at this; omega
          subst hi0
          rw [h1, Nat.sub_self] at hd
          simp only [List.getElem?_cons_zero, Option.some.injEq] at hd
          subst hd
          rw [List.getElem?_map, List.getElem?_eq_getElem (show i < xs.length by omega)] at hD
          simp only [Option.map_some, Option.some.injEq] at hD
          subst hD
          exact g3
  obtain ⟨ds, h1, h2, h3, h4⟩ := key n (Nat.le_refl _)
  exact ⟨ds, by show l = ds.flatMap cs; rw [← h2, List.take_of_length_le (by omega)], h3, h1, _, rfl, by simp [h1, hxs], h4⟩
def OpensXF (P : Program) (fs : List Field) (off N : Nat) {α : Type} (cs : α → List Value) (φ : α → List Fact) (dt : α → List (DataW Unit) → Prop) : Prop :=
  ∀ (w : World) (n : Nat) (l : List Value) (Ds : List (DataW Unit)), l.length = N → Ds.length = fs.length → (∀ (i : Nat) f D, fs[i]? = some f → Ds[i]? = some D → ∃ pl, DataW.trod (fun _ => ()) P w 0 (fun _ => true) false n f.type ((l.drop f.offset).take (P.cellsOf f.type)) = some (D, pl)) →
    ∃ d, l.drop off = cs d ∧ (∀ ψ ∈ φ d, ψ.p (fun _ => False) w) ∧ dt d Ds
theorem OpensXF.nil {N : Nat} : OpensXF P [] N N (fun _ : Unit => []) (fun _ => []) (fun _ Ds => Ds = []) := fun w n l Ds hl h1 _ => ⟨(), by simp [← hl], by simp, by simpa using h1⟩
theorem OpensXF.cons {f : Field} {fs : List Field} {off N s : Nat} {cs2 : β → List Value} {φ2 : β → List Fact} {dt2 : β → List (DataW Unit) → Prop} (hs : P.cellsOf f.type = s) (ho : f.offset = off) (h : OpensX P f.type cs φ dt) (k : OpensXF P fs (off + s) N cs2 φ2 dt2) :
    OpensXF P (f :: fs) off N (fun d : α × β => cs d.1 ++ cs2 d.2) (fun d => φ d.1 ++ φ2 d.2) (fun d Ds => ∃ D Ds', Ds = D :: Ds' ∧ dt d.1 D ∧ dt2 d.2 Ds') := fun w n l Ds hl hD hx => by
  match Ds, hD with
  | D :: Ds', hD =>
    obtain ⟨pl, hy⟩ := hx 0 f D rfl rfl
    rw [hs, ho] at hy
    obtain ⟨d, h1, h2, h3⟩ := h w n _ _ hy
    obtain ⟨d2, k1, k2, k3⟩ := k w n l Ds' hl (by simpa using hD) fun i f' D' hf hD' => hx (i + 1) f' D' (by simpa using hf) (by simpa using hD')
    refine ⟨(d, d2), ?_, fun ψ hψ => ?_, D, Ds', rfl, h3, k3⟩
    · show _ = cs d ++ cs2 d2
      rw [← h1, ← k1, ← List.drop_drop, List.take_append_drop]
    · rcases List.mem_append.1 hψ with hψ | hψ
      · exact h2 ψ hψ
      · exact k2 ψ hψ
theorem OpensX.struct {fs : Array Field} {N : Nat} {dtF : α → List (DataW Unit) → Prop} (ht : P.underlying t = some (.struct fs)) (hN : P.cellsOf t = N) (h : OpensXF P fs.toList 0 N cs φ dtF) : OpensX P t cs φ (fun d D => ∃ Ds, D = .agg Ds ∧ dtF d Ds) := fun w fuel l x hx => by
  obtain ⟨xs, n, _, rfl, hl, hlen, hf⟩ := DataW.trod_struct ht hx
  obtain ⟨d, h1, h2, h3⟩ := h w n l (xs.map (·.1)) (by rw [hl, hN]) (by simp [hlen]) fun i f D hfi hD => by
    have hi' : fs[i]? = some f := by simpa using hfi
    have := hf i f hi'
    rw [List.getElem?_map] at hD
    cases hx : xs[i]? with
    | none => rw [hx] at hD; cases hD
    | some y =>
      rw [hx] at hD this
      simp only [Option.map_some, Option.some.injEq] at hD
      subst hD
      exact ⟨y.2, this⟩
  exact ⟨d, by simpa using h1, h2, _, rfl, h3⟩
theorem laid_rd {w : World} {n : String} {d : DataW Unit} {ps : List MemPlace} {r : List (String × DataW Unit)} {g : Nat} {ty : TypeId} (h : DataW.LaidVars P w ((n, d) :: r) ps) (hg : P.globalNamed n = some g) (ht : (P.globals[g]?).map (·.type) = some ty) (ho : OpensX P ty cs φ dt) :
 (∃ y, dt y d ∧ (Fact.rd (some ⟨g, 0, none⟩) (cs y)).p (fun _ => False) w ∧ (∀ ψ ∈ φ y, ψ.p (fun _ => False) w)) ∧ ∃ q, DataW.LaidVars P w r q := by
 obtain ⟨g0, t0, cs0, f0, p0, q0, hg0, ht0, hv0, hd0, hr, _⟩ := h
 obtain rfl := Option.some.inj (hg.symm.trans hg0)
 obtain rfl := Option.some.inj (ht.symm.trans ht0)
 obtain ⟨y, h1, h2, h3⟩ := ho w f0 _ _ hd0
 refine ⟨⟨y, h3, fun j u hu => ?_, h2⟩, q0, hr⟩
 have hc := World.var?_cell hg hv0 j
 have hcell : w.cell? ⟨g, j, none⟩ = some u := by
  rw [← h1] at hu
  have : cs0[j]? = some u := by simpa using hu
  rw [← this]
  simpa using hc
 have e : (⟨g, 0, none⟩ : Addr).add j = ⟨g, j, none⟩ := by unfold Addr.add; split <;> simp_all
 exact ⟨⟨g, 0, none⟩, rfl, by have := cell_lt hcell; exact this, id, by rw [e]; exact hcell⟩
end
end Go.Proofs.YtakbgccddokbbaaGreatDoor
namespace Go.Proofs.YtakbgccddokbbaaGreatDoor
open Go.RowKit Go.ChangeShapes Go.WideShapes Go.Joins
section
variable {P : Program} {t e : TypeId} {α β : Type} {cs : α → List Value} {φ : α → List Fact} {dt : α → DataW Unit → Prop}
theorem oflat_take {cs : α → List Value} {s : Nat} (hl : ∀ d, (cs d).length = s) (ds : List α) : (ds.flatMap cs).length = ds.length * s := by
 induction ds with
 | nil => simp
 | cons y ds ih => simp only [List.flatMap_cons, List.length_append, List.length_cons, hl, ih, Nat.add_mul]; omega
theorem OpensX.slice (ht : P.underlying t = some (.slice e)) (s : Nat) (hs : P.cellsOf e = s) (h : OpensX P e cs φ dt) (hl : ∀ d, (cs d).length = s) :
    OpensX P t (fun z : (Option Addr × Nat) × List α => [.slice z.1.1 z.2.length z.1.2]) (fun z => .rd z.1.1 (z.2.flatMap cs) :: z.2.flatMap φ)
      (fun z D => (D = .nil ∧ z = ((none, 0), [])) ∨ ∃ Ds E, D = .slice Ds E ∧ All2 dt z.2 Ds ∧ z.1.1.isNone = false) := fun w fuel l x hx => by
  rcases Go.Deep.open_slice ht hx with ⟨rfl, rfl⟩ | ⟨a, len, cap, m, n, D, Pl, rfl, _, hlc, hm, hmm, rfl, hel⟩
  · exact ⟨((none, 0), []), rfl, fun ψ hψ => by
      obtain rfl : ψ = _ := by simpa using hψ
      exact Fact.rd_nil _ _ _, .inl ⟨rfl, rfl⟩⟩
  · have hmc : m = cap := by simpa using hmm
    subst hmc
    have key : ∀ k, k ≤ len → ∃ ds : List α, ds.length = k ∧ (Fact.rd (some a) (ds.flatMap cs)).p (fun _ => False) w ∧ (∀ ψ ∈ ds.flatMap φ, ψ.p (fun _ => False) w) ∧ ∀ (i : Nat) d, ds[i]? = some d → dt d (D i) := by
      intro k
      induction k with
      | zero => exact fun _ => ⟨[], rfl, Fact.rd_nil _ _ _, by simp, by simp⟩
      | succ k ih =>
        intro hk
        obtain ⟨ds, h1, h2, h3, h4⟩ := ih (by omega)
        obtain ⟨cs', g1, g2⟩ := hel k (by omega)
        obtain ⟨d, rfl, g3, g4⟩ := h w n cs' _ g2
        rw [hs] at g1
        obtain ⟨g5, g6⟩ := cells_at g1
        refine ⟨ds ++ [d], by simp [h1], fun j u hu => ?_, fun ψ hψ => ?_, fun i d' hd => ?_⟩
        · have hfl : (ds.flatMap cs).length = k * s := by rw [oflat_take hl, h1]
          rw [List.flatMap_append, List.flatMap_cons, List.flatMap_nil, List.append_nil] at hu
          by_cases hj : j < (ds.flatMap cs).length
          · rw [List.getElem?_append_left hj] at hu
            exact h2 j u hu
          · rw [List.getElem?_append_right (by omega), hfl] at hu
            have := g6 _ u hu
            rw [add_add, show k * s + (j - k * s) = j by omega] at this
            have hb := cell_lt this
            rw [add_block] at hb
            exact ⟨a, rfl, hb, id, this⟩
        · rw [List.flatMap_append] at hψ
          rcases List.mem_append.1 hψ with hψ | hψ
          · exact h3 ψ hψ
          · exact g3 ψ (by simpa using hψ)
        · by_cases hi : i < ds.length
          · rw [List.getElem?_append_left hi] at hd
            exact h4 i d' hd
          · rw [List.getElem?_append_right (by omega)] at hd
            have hi0 : i = k := by
              have := (List.getElem?_eq_some_iff.1 hd).1
              simp at this; omega
            subst hi0
            rw [h1, Nat.sub_self] at hd
            simp only [List.getElem?_cons_zero, Option.some.injEq] at hd
            subst hd
            exact g4
    obtain ⟨ds, h1, h2, h3, h4⟩ := key len (Nat.le_refl _)
    refine ⟨((some a, m), ds), by simp [h1], fun ψ hψ => ?_, .inr ⟨_, _, rfl, ⟨by simp [h1], fun i d D' hd hD => ?_⟩, rfl⟩⟩
    · rcases List.mem_cons.1 hψ with rfl | hψ
      · exact h2
      · exact h3 ψ hψ
    · rw [List.getElem?_map] at hD
      have hlt : i < len := by rw [← h1]; exact (List.getElem?_eq_some_iff.1 hd).1
      rw [List.getElem?_range hlt] at hD
      simp only [Option.map_some, Option.some.injEq] at hD
      subst hD
      exact h4 i d hd
end
end Go.Proofs.YtakbgccddokbbaaGreatDoor
namespace Go.Proofs.YtakbgccddokbbaaGreatDoor
set_option maxRecDepth 100000
open Go.RowKit Go.ChangeShapes
theorem pair_of {z : AdC × List Int} {a b : Int} (h : ((DataW.slice [.lit (.int .i64 a), .lit (.int .i64 b)] [] : DataW Unit) = .nil ∧ z = ((none, 0), [])) ∨ ∃ Ds E, (DataW.slice [.lit (.int .i64 a), .lit (.int .i64 b)] [] : DataW Unit) = .slice Ds E ∧ All2 (fun n D => D = .lit (.int .i64 n)) z.2 Ds ∧ z.1.1.isNone = false) : z.2 = [a, b] := by
  rcases h with ⟨h, _⟩ | ⟨Ds, E, h, hA, _⟩
  · cases h
  · simp only [DataW.slice.injEq] at h
    obtain ⟨rfl, _⟩ := h
    obtain ⟨x, l⟩ := z
    match l, hA with
    | [], hA => exact absurd hA.1 (by simp)
    | [p], hA => exact absurd hA.1 (by simp)
    | [p, q], hA =>
      obtain ⟨h1, hA⟩ := hA.head
      obtain ⟨h2, _⟩ := hA.head
      simp only [DataW.lit.injEq, Lit.int.injEq, true_and] at h1 h2
      rw [h1, h2]
    | p :: q :: s :: l, hA => exact absurd hA.1 (by simp)
theorem manyD_at : ∀ {i : Nat}, 1 ≤ i → i < 17 → ∀ Ds : List (DataW Unit), (Rows.laid_herd_record_many : DataW Unit) = .agg Ds → Ds[i]? = some (.slice [.lit (.int .i64 (((bndAt i).1 : Nat) : Int)), .lit (.int .i64 (((bndAt i).2 : Nat) : Int))] []) := by
 intro i h1 h2 Ds h
 unfold Rows.laid_herd_record_many at h
 injection h with h
 subst h
 match i, h1, h2 with
 | 1, _, _ => rfl | 2, _, _ => rfl | 3, _, _ => rfl | 4, _, _ => rfl | 5, _, _ => rfl | 6, _, _ => rfl | 7, _, _ => rfl | 8, _, _ => rfl | 9, _, _ => rfl | 10, _, _ => rfl | 11, _, _ => rfl | 12, _, _ => rfl | 13, _, _ => rfl
 | 14, _, _ => rfl | 15, _, _ => rfl | 16, _, _ => rfl | i + 17, _, h => exact absurd h (by omega)
end Go.Proofs.YtakbgccddokbbaaGreatDoor
namespace Go.Proofs.YtakbgccddokbbaaGreatDoor
set_option maxRecDepth 100000
open Go.RowKit Go.ChangeShapes
theorem opens_disk : Opens Tryz.prog 27 (fun z : OAd × Dk => z.2.cs z.1) (fun z => [.rd z.1.1 (u8s z.2.b)]) (fun z => z.2.b.length ≤ z.1.2) :=
 (Opens.struct Tryz.underlying27 (by kernel_rfl) (OpensF.cons (s := 1) (by kernel_rfl) rfl (Opens.bytes Tryz.underlying25 Tryz.underlying5 (by kernel_rfl))
  (OpensF.cons (s := 1) (by kernel_rfl) rfl (Opens.int Tryz.underlying3) (OpensF.cons (s := 1) (by kernel_rfl) rfl (Opens.int Tryz.underlying3) OpensF.nil)))).map
  (fun d => (d.1.1, ⟨d.1.2, d.2.1, d.2.2.1⟩)) (fun _ _ => rfl) (fun _ _ _ h => by simpa using h) (fun _ h => h.1.2)
end Go.Proofs.YtakbgccddokbbaaGreatDoor
namespace Go.Proofs.YtakbgccddokbbaaGreatDoor
set_option maxRecDepth 100000
open Go.RowKit Go.ChangeShapes
theorem open_disk {H : Type} {enc : TypeId × Value → H} {w : World} {r : Reach} {b0 : Nat} {v : Value} {y : DataW H} {p : List MemPlace} (hv : Value.okWide Tryz.prog w r b0 27 v) (h : DataW.Trod enc Tryz.prog w 0 (fun _ => true) true 27 v y p) :
 ∃ (x : AdC) (d : Dk), v = d.v x ∧ (Fact.rd x.1 (u8s d.b)).p (fun _ => False) w ∧ d.b.length ≤ x.2 := by
 obtain ⟨⟨x, d⟩, h1, h2, h3⟩ := open_struct Tryz.underlying27 opens_disk hv h
 exact ⟨x, d, h1, h2 _ (List.mem_cons_self ..), h3⟩
theorem lim_pair {y : Int × Int × Unit} {a b : Int} (h : ∃ Ds, (DataW.agg [.lit (.int .i64 a), .lit (.int .i64 b)] : DataW Unit) = .agg Ds ∧ ∃ D Ds', Ds = D :: Ds' ∧ D = .lit (.int .i64 y.1) ∧ ∃ D2 Ds2, Ds' = D2 :: Ds2 ∧ D2 = .lit (.int .i64 y.2.1) ∧ Ds2 = []) : y = (a, b, ()) := by
 obtain ⟨y1, y2, ⟨⟩⟩ := y
 obtain ⟨_, h1, _, _, rfl, rfl, _, _, rfl, rfl, rfl⟩ := h
 simp only [DataW.agg.injEq, List.cons.injEq, DataW.lit.injEq, Lit.int.injEq, true_and, and_true] at h1
 rw [h1.1, h1.2]
theorem chD_at : ∀ {i : Nat}, i < 11 → ∀ Ds : List (DataW Unit), (Rows.laid_herd_brain_changes : DataW Unit) = .agg Ds → Ds[i]? = some (if (legalL.getD i []).isEmpty = true then .nil else .slice ((legalL.getD i []).map fun n : Nat => .lit (.int .u8 (n : Int))) []) := by
 intro i h2 Ds h
 unfold Rows.laid_herd_brain_changes at h
 injection h with h
 subst h
 match i, h2 with
 | 0, _ => rfl | 1, _ => rfl | 2, _ => rfl | 3, _ => rfl | 4, _ => rfl | 5, _ => rfl | 6, _ => rfl | 7, _ => rfl | 8, _ => rfl | 9, _ => rfl | 10, _ => rfl | i + 11, h => exact absurd h (by omega)
theorem chrow_of {z : AdC × List Int} {l : List Nat} {D : DataW Unit} (h : (D = .nil ∧ z = ((none, 0), [])) ∨ ∃ Ds E, D = .slice Ds E ∧ All2 (fun n D => D = .lit (.int .u8 n)) z.2 Ds ∧ z.1.1.isNone = false) (hD : D = if l.isEmpty = true then .nil else .slice (l.map fun n : Nat => .lit (.int .u8 (n : Int))) []) : z.2 = l.map (fun n : Nat => (n : Int)) := by
  cases l with
  | nil =>
    rcases h with ⟨_, h⟩ | ⟨Ds, E, h, _⟩
    · rw [h]; rfl
    · rw [hD] at h; cases h
  | cons p l =>
    rcases h with ⟨h, _⟩ | ⟨Ds, E, h, hA, _⟩
    · rw [hD] at h; cases h
    · rw [hD] at h
      have h' : (DataW.slice ((p :: l).map fun n : Nat => .lit (.int .u8 (n : Int))) [] : DataW Unit) = .slice Ds E := h
      simp only [DataW.slice.injEq] at h'
      obtain ⟨rfl, _⟩ := h'
      refine List.ext_getElem (hA.1.symm.trans (by simp)) fun i g1 g2 => ?_
      have hi : i < (p :: l).length := by simpa using g2
      have := hA.2 i _ _ (List.getElem?_eq_getElem g1) (by rw [List.getElem?_map, List.getElem?_eq_getElem hi]; rfl)
      simp only [DataW.lit.injEq, Lit.int.injEq, true_and] at this
      rw [List.getElem_map]
      exact this.symm
theorem rp_laid {W : World} (h : laidMetH Tryz.prog [("herd/conf.limits", Rows.laid_herd_conf_limits), ("herd/brain.changes", Rows.laid_herd_brain_changes), ("herd/record.many", Rows.laid_herd_record_many)] W) : ∃ mm, (Fact.many mm).p (fun _ => False) W ∧ Fact.lim.p (fun _ => False) W ∧ Fact.chg.p (fun _ => False) W := by
  rw [MakeChecks.laidMetH_plain _ _ _ (by kernel_rfl)] at h
  obtain ⟨ps, hv, _, _⟩ := h
  have opens_lim := OpensX.array (n := 13) (s := 2) Tryz.underlying185 (by kernel_rfl) (by kernel_rfl) (OpensX.struct Tryz.underlying156 (by kernel_rfl)
      (OpensXF.cons (s := 1) (by kernel_rfl) rfl (OpensX.int Tryz.underlying3) (OpensXF.cons (s := 1) (by kernel_rfl) rfl (OpensX.int Tryz.underlying3) OpensXF.nil))) (fun _ => rfl)
  obtain ⟨⟨y, ⟨hn, Ds, hD, hA⟩, h1, _⟩, q, hv2⟩ := laid_rd hv (show Tryz.prog.globalNamed "herd/conf.limits" = some 2 by kernel_rfl) (show (Tryz.prog.globals[2]?).map (·.type) = some 185 by kernel_rfl) opens_lim
  unfold Rows.laid_herd_conf_limits at hD
  injection hD with hD
  subst hD
  match y, hn with
  | [y0, y1, y2, y3, y4, y5, y6, y7, y8, y9, y10, y11, y12], _ =>
    obtain ⟨p0, hA⟩ := hA.head; obtain ⟨p1, hA⟩ := hA.head; obtain ⟨p2, hA⟩ := hA.head; obtain ⟨p3, hA⟩ := hA.head; obtain ⟨p4, hA⟩ := hA.head; obtain ⟨p5, hA⟩ := hA.head; obtain ⟨p6, hA⟩ := hA.head
    obtain ⟨p7, hA⟩ := hA.head; obtain ⟨p8, hA⟩ := hA.head; obtain ⟨p9, hA⟩ := hA.head; obtain ⟨p10, hA⟩ := hA.head; obtain ⟨p11, hA⟩ := hA.head; obtain ⟨p12, _⟩ := hA.head
    obtain rfl := lim_pair p0; obtain rfl := lim_pair p1; obtain rfl := lim_pair p2; obtain rfl := lim_pair p3; obtain rfl := lim_pair p4; obtain rfl := lim_pair p5; obtain rfl := lim_pair p6
    obtain rfl := lim_pair p7; obtain rfl := lim_pair p8; obtain rfl := lim_pair p9; obtain rfl := lim_pair p10; obtain rfl := lim_pair p11; obtain rfl := lim_pair p12
    have hlim := h1
    clear h1
    have oc := OpensX.array (n := 11) (s := 1) Tryz.underlying153 (by kernel_rfl) (by kernel_rfl) (OpensX.slice Tryz.underlying25 1 (by kernel_rfl) (OpensX.int Tryz.underlying5) (fun _ => rfl)) (fun _ => rfl)
    obtain ⟨⟨z, ⟨hzn, Es, hE, hB⟩, e1, e2⟩, q2, hv3⟩ := laid_rd hv2 (show Tryz.prog.globalNamed "herd/brain.changes" = some 0 by kernel_rfl) (show (Tryz.prog.globals[0]?).map (·.type) = some 153 by kernel_rfl) oc
    have hrow : ∀ i, (h : i < 11) → (z[i]'(by omega)).2 = (legalL.getD i []).map (fun n : Nat => (n : Int)) := fun i h => chrow_of (hB.2 i _ _ (List.getElem?_eq_getElem (by omega)) (chD_at h Es hE)) rfl
    have hz : ∀ i, (h : i < 11) → (z.getD i ((none, 0), [])) = z[i]'(by omega) := fun i h => by rw [List.getD_eq_getElem?_getD, List.getElem?_eq_getElem (by omega)]; rfl
    have hchg : Fact.chg.p (fun _ => False) W := by
      refine ⟨fun i => (z.getD i ((none, 0), [])).1, ?_, fun i hi => ?_⟩
      · have e : z.flatMap (fun z => [Value.slice z.1.1 z.2.length z.1.2]) = chgV fun i => (z.getD i ((none, 0), [])).1 := by
          rw [flatMap_one]
          refine List.ext_getElem (by simp [chgV, hzn]) fun i g1 g2 => ?_
          have hi : i < 11 := by simpa [chgV] using g2
          simp only [chgV, List.getElem_map, List.getElem_range]
          rw [hz i hi]
          have hlen : (z[i]'(by omega)).2.length = (legalL.getD i []).length := by rw [hrow i hi, List.length_map]
          exact congrArg (fun n => Value.slice (z[i]'(by omega)).1.1 n (z[i]'(by omega)).1.2) hlen
        rw [← e]; exact e1
      · have := e2 (.rd (z[i]'(by omega)).1.1 ((z[i]'(by omega)).2.flatMap fun n => [Value.int .u8 n])) (List.mem_flatMap.2 ⟨z[i]'(by omega), List.getElem_mem _, List.mem_cons_self ..⟩)
        show (Fact.rd (z.getD i ((none, 0), [])).1.1 (u8V (legalL.getD i []))).p (fun _ => False) W
        rw [hz i hi]
        rw [hrow i hi, flatMap_one, List.map_map] at this
        exact this
    have om := OpensX.array (n := 17) (s := 1) Tryz.underlying167 (by kernel_rfl) (by kernel_rfl) (OpensX.slice Tryz.underlying23 1 (by kernel_rfl) (OpensX.int Tryz.underlying3) (fun _ => rfl)) (fun _ => rfl)
    obtain ⟨⟨y, ⟨hn, Ds, hD, hA⟩, h1, h2⟩, _⟩ := laid_rd hv3 (show Tryz.prog.globalNamed "herd/record.many" = some 1 by kernel_rfl) (show (Tryz.prog.globals[1]?).map (·.type) = some 167 by kernel_rfl) om
    suffices hmany : ∃ mm, (Fact.many mm).p (fun _ => False) W from hmany.elim fun mm hm => ⟨mm, hm, hlim, hchg⟩
    have hd : ∀ i, 1 ≤ i → (h : i < 17) → (y[i]'(by omega)).2 = [(((bndAt i).1 : Nat) : Int), (((bndAt i).2 : Nat) : Int)] := fun i hi h => pair_of (hA.2 i _ _ (List.getElem?_eq_getElem (by omega)) (manyD_at hi h Ds hD))
    have h0 : y[0]'(by omega) = ((none, 0), []) := by
      have hD0 : Ds[0]? = some .nil := by
        unfold Rows.laid_herd_record_many at hD
        injection hD with hD
        subst hD; rfl
      rcases hA.2 0 _ _ (List.getElem?_eq_getElem (by omega)) hD0 with ⟨_, h⟩ | ⟨_, _, h, _⟩
      · exact h
      · cases h
    have hy : ∀ i, (h : i < 17) → (y.getD i ((none, 0), [])) = y[i]'(by omega) := fun i h => by rw [List.getD_eq_getElem?_getD, List.getElem?_eq_getElem (by omega)]; rfl
    refine ⟨fun i => (y.getD i ((none, 0), [])).1, ?_, fun i hi hi2 => ?_⟩
    · have e : y.flatMap (fun z => [Value.slice z.1.1 z.2.length z.1.2]) = manyV fun i => (y.getD i ((none, 0), [])).1 := by
        rw [flatMap_one]
        refine List.ext_getElem (by simp [manyV, hn]) fun i g1 g2 => ?_
        have hi : i < 17 := by simp [manyV] at g2; exact g2
        simp only [manyV, List.getElem_map, List.getElem_range]
        split
        · rename_i e; subst e; rw [h0]; rfl
        · rw [hy i hi, hd i (by omega) hi]; rfl
      rw [← e]; exact h1
    · have := h2 (.rd (y[i]'(by omega)).1.1 ((y[i]'(by omega)).2.flatMap fun n => [Value.int .i64 n])) (List.mem_flatMap.2 ⟨y[i]'(by omega), List.getElem_mem _, List.mem_cons_self ..⟩)
      show (Fact.rd (y.getD i ((none, 0), [])).1.1 (bndV i)).p (fun _ => False) W
      rw [hy i hi2]
      rw [hd i hi hi2] at this
      exact this
end Go.Proofs.YtakbgccddokbbaaGreatDoor
