/-
The laws of orders: Name, wakes.
-/
import Derived.Test.YtcppphgpbaablaaGreatDoorMq
import Derived.Test.YtcppphgpbaablaaGreatDoorAdH
namespace Go.Proofs.YtcppphgpbaablaaGreatDoor
set_option linter.unusedVariables false
open Go.RowKit
attribute [local irreducible] Res.blk Res.row Fact.rd Res.mapV
abbrev astr (l : List UInt8) : Value := .string ⟨l.toArray⟩
def anameL : List (List UInt8) := [[], [99, 111, 110, 102], [115, 116, 97, 114, 116], [99, 97, 110, 99, 101, 108], [114, 111, 108, 108], [103, 117, 97, 114, 100], [99, 111, 109, 112, 108, 101, 116, 101], [103, 111]]
def anameV : List Value := anameL.map astr
abbrev Fact.anames : Fact := .rd (some ⟨0, 0, none⟩) anameV
theorem aname7_ct : Ct Tryz.prog 16 [.int .u8 7] [] [.anames] (fun _ : Unit => astr [103, 111]) (fun _ => []) (fun _ => []) := by
  refine Ct.of _ Tryz.func16 Tryz.ntmps16 rfl rfl (fun X W => ?_)
  refine Jc.seq ?_
  refine Jc.region ?_
  refine Jl.pv (PR.assign rfl) ?_
  refine Jl.nil ?_
  refine Jq.thenN ?_
  refine Jc.seq ?_
  refine Jc.seq ?_
  refine Jc.region ?_
  refine Jl.pv (PR.move rfl) ?_
  refine Jl.pv (PR.geq false rfl rfl (by decide)) ?_
  refine Jl.nil ?_
  refine Jq.thenN ?_
  refine Jc.condF rfl ?_
  refine Jc.skip ?_
  refine Jq.thenN ?_
  refine Jc.seq ?_
  refine Jc.region ?_
  refine Jl.pv (PR.move rfl) ?_
  refine Jl.pv (PR.idxRA 7 rfl rfl tar76 rfl (by decide)) ?_
  refine Jl.pv (PR.loadR rfl tsh9 (by repeat (first | exact Mem.here | apply Mem.there)) rfl) ?_
  refine Jl.pv (PR.assign rfl) ?_
  refine Jl.nil ?_
  refine Jq.thenN ?_
  refine Jc.ret ?_
  exact Jq.fin () (.inl rfl) rfl (RetVs.tmp rfl RetVs.nil) rfl (by repeat (first | exact Take.nil | apply Take.cons (by repeat (first | exact Del.here | apply Del.there)))) (by repeat (first | exact trivial | refine And.intro (by repeat (first | exact Mem.here | apply Mem.there)) ?_))
theorem adoo_at {b c : Br} {z : BrA} {o : Rc} {x : AdC} {now e : Int} (hn : o.l.length ≤ 900) (hc : o.l.length ≤ x.2) (hi : o.k.toNat = 5 → i64in o.l) (h1 : b.its.length ≤ 1000000) (hm : b.kps.length ≤ 1000000) (hms : b.cf.ms.length ≤ 1000000) (hd : b.doo o now = c) (he : (b.ask o now).2 = e) :
    Ct Tryz.prog 8 [b.v z, o.v x, .int .i64 now] [] (b.rd z ++ [.rd x.1 (i64s o.l), .lim]) (fun y : BrA => .tuple #[c.v y, .int .i64 e]) (fun _ => []) (fun y => c.rd y) := by
  subst hd he
  exact adoo_ct b z o x now hn hc hi h1 hm hms
theorem acheck_at {b : Br} {z : BrA} {o : Rc} {x : AdC} {now : Int} {t : Rc × Int} (hn : o.l.length ≤ 1000) (hc : o.l.length ≤ x.2) (hm : b.kps.length ≤ 1000000) (hi : o.k.toNat = 5 → i64in o.l) (ht : b.ask o now = t) :
    Ct Tryz.prog 7 [b.v z, o.v x, .int .i64 now] [] (b.rd z ++ [.rd x.1 (i64s o.l), .lim]) (fun y : { y : AdC // t.1.l.length ≤ y.2 } => .tuple #[t.1.v y.1, .int .i64 t.2]) (fun _ => []) (fun y => [.rd y.1.1 (i64s t.1.l)]) := by
  subst ht
  exact acheck_ct b z o x now hn hc hm hi
abbrev nilAd : BrA := ((none, 0), (none, 0), (none, 0))
def aw0 : Br := ⟨0, 0, false, Cf.zero, [], [], ⟨0, 0, 0, 0, false, 0, 0⟩⟩
def acw : Cf := ⟨2, 50, 0, 0, 0, 0, 0, 0, 1, 1, 1, 0, 3, false, []⟩
def aw1 : Br := ⟨0, 0, true, acw, [], [], ⟨0, 0, 0, 0, false, 0, 0⟩⟩
def aw2 : Br := ⟨0, 0, true, acw, [], [], ⟨1, 3, 4, 0, false, 9, 0⟩⟩
theorem aw_0 : aw0.ask ⟨3, []⟩ 0 = (Rc.zero, 190) := by rfl
theorem aw_1 : aw0.doo ⟨1, acw.rowN⟩ 1 = aw1 ∧ (aw0.ask ⟨1, acw.rowN⟩ 1).2 = 0 := ⟨by rfl, by rfl⟩
theorem aw_2 : aw1.doo ⟨2, [4]⟩ 9 = aw2 ∧ (aw1.ask ⟨2, [4]⟩ 9).2 = 0 := ⟨by rfl, by rfl⟩
theorem aw_3 : aw2.doo ⟨2, [5]⟩ 9 = aw2 ∧ (aw2.ask ⟨2, [5]⟩ 9).2 = 190 := ⟨by rfl, by rfl⟩
theorem aw_4 : aw2.ask ⟨5, [1, 1]⟩ 9 = (Rc.zero, 191) := by rfl
theorem aw_5 : aw2.ask ⟨99, []⟩ 9 = (Rc.zero, 2) := by rfl
theorem aw_6 : aw2.ask ⟨4, []⟩ 9 = (⟨13, []⟩, 0) := by rfl
theorem awakes_ct : Ct Tryz.prog 6 [] [] [.lim, .anames] (fun _ : Unit => .bool true) (fun _ => []) (fun _ => []) := by
  refine Ct.of _ Tryz.func6 Tryz.ntmps6 rfl rfl (fun X W => ?_)
  refine Jc.fact0 (.rd none (i64s [])) (fun X W => Fact.rd_nil none X W) ?_
  refine Jc.seq ?_
  refine Jc.region ?_
  refine Jl.pv (PR.assign rfl) ?_
  refine Jl.nil ?_
  refine Jq.thenN ?_
  refine Jc.seq ?_
  refine Jc.region ?_
  refine Jl.pv (PR.build (by rfl) tze24 tpl24_0_1_8_9_10_12 (by rfl)) ?_
  refine Jl.alloc tze24 ?_
  intro b1
  refine Jl.storeW rfl tsh24 rfl (by rfl) (by first | exact Br.cs_one _ _ | simp [Value.oneCell', Rc.cs]) (by repeat (first | exact Swap.here | apply Swap.there)) (by rfl) ?_
  refine Jl.nil ?_
  refine Jq.thenN ?_
  refine Jc.seq ?_
  refine Jc.region ?_
  refine Jl.pv (PR.build (by rfl) tze30 tpl30_ (by rfl)) ?_
  refine Jl.call (aof_ct 3 none 0 [] (by decide)) en14 (by rfl) (by repeat (first | exact Take.nil | apply Take.cons (by repeat (first | exact Del.here | apply Del.there)))) (by repeat (first | exact trivial | refine And.intro (by repeat (first | exact Mem.here | apply Mem.there)) ?_)) ?_
  rintro ⟨A19, c19⟩
  refine Jl.sealC (by repeat (first | exact Del.here | apply Del.there)) (fun hc19 => ?_)
  refine Jl.call (acheck_at (b := aw0) (z := nilAd) (x := (A19, c19)) (by decide) hc19 (by decide) (fun h => by cases h) aw_0) en7 (by rfl) (by repeat (first | exact Take.nil | apply Take.cons (by repeat (first | exact Del.here | apply Del.there)))) (by repeat (first | exact trivial | refine And.intro (by repeat (first | exact Mem.here | apply Mem.there)) ?_)) ?_
  rintro ⟨⟨A20, c20⟩, h20⟩
  refine Jl.pv (PR.move rfl) ?_
  refine Jl.pv (PR.extract rfl (by rfl)) ?_
  refine Jl.pv (PR.extract rfl (by rfl)) ?_
  refine Jl.alloc tze36 ?_
  intro b2
  refine Jl.storeW rfl tsh36 rfl (by rfl) (by first | exact Br.cs_one _ _ | simp [Value.oneCell', Rc.cs]) (by repeat (first | exact Swap.here | apply Swap.there)) (by rfl) ?_
  refine Jl.pv (PR.assign rfl) ?_
  refine Jl.nil ?_
  refine Jq.thenN ?_
  refine Jc.seq ?_
  refine Jc.region ?_
  refine Jl.pv (PR.build (by rfl) tze30 tpl30_ (by rfl)) ?_
  refine Jl.pv (PR.loadW rfl tsh24 (by repeat (first | exact Has.here | apply Has.there)) (by rfl)) ?_
  refine Jl.call (aconf_ct acw (none, 0) (by decide)) en15 (by rfl) (by repeat (first | exact Take.nil | apply Take.cons (by repeat (first | exact Del.here | apply Del.there)))) (by repeat (first | exact trivial | refine And.intro (by repeat (first | exact Mem.here | apply Mem.there)) ?_)) ?_
  rintro ⟨A26, c26⟩
  refine Jl.sealC (by repeat (first | exact Del.here | apply Del.there)) (fun hc26 => ?_)
  refine Jl.call (adoo_at (b := aw0) (z := nilAd) (x := (A26, c26)) (by decide) hc26 (fun h => by cases h) (by decide) (by decide) (by decide) aw_1.1 aw_1.2) en8 (by rfl) (by repeat (first | exact Take.nil | apply Take.cons (by repeat (first | exact Del.here | apply Del.there)))) (by repeat (first | exact trivial | refine And.intro (by repeat (first | exact Mem.here | apply Mem.there)) ?_)) ?_
  rintro ⟨⟨M1, m1⟩, ⟨I1, i1⟩, ⟨K1, k1⟩⟩
  refine Jl.pv (PR.move rfl) ?_
  refine Jl.pv (PR.extract rfl (by rfl)) ?_
  refine Jl.pv (PR.extract rfl (by rfl)) ?_
  refine Jl.alloc tze30 ?_
  intro b4
  refine Jl.storeW rfl tsh30 rfl (by rfl) (by first | exact Br.cs_one _ _ | simp [Value.oneCell', Rc.cs]) (by repeat (first | exact Swap.here | apply Swap.there)) (by rfl) ?_
  refine Jl.pv (PR.assign rfl) ?_
  refine Jl.nil ?_
  refine Jq.thenN ?_
  refine Jc.seq ?_
  refine Jc.drawn [0, 0, 2, 7, 15, 31, 31, 0, 191, 511] ([(9, false)], []) [⟨[(0, false), (1, true), (7, true)], [1], 2⟩, ⟨[], [], 3⟩, ⟨[(4, false), (5, false), (6, false)], [7], 8⟩] tmx (by kernel_rfl) ?_
  refine Dh.JH.cons ?_
  refine Dh.JB.rd [.blk _ _ _] rfl trivial (by repeat (first | exact Take.nil | apply Take.cons (by repeat (first | exact Del.here | apply Del.there)))) (fun _ => PR.loadW rfl tsh30 Has.here (by rfl)) ?_
  refine Dh.JB.buildSlice rfl trivial (by rfl) tsl22 tzr22_1 (by rfl) (by rfl) ?_
  refine Dh.JB.alloc rfl trivial tze30 ?_
  refine Dh.JB.nil ?_
  refine Dh.JL.sl rfl (by repeat (first | exact Dh.es_here | apply Dh.es_there)) (fun b32 => ?_)
  refine Dh.JL.nil ?_
  refine Dh.JE.mk rfl (fun _ h => by cases h) (fun C4_2 => ?_)
  refine Jl.seal (by repeat (first | exact Del.here | apply Del.there)) ?_
  refine Jl.call (aof_ct 2 (some ⟨b32, 0, none⟩) 1 [4] (by decide)) en14 (by rfl) (by repeat (first | exact Take.nil | apply Take.cons (by repeat (first | exact Del.here | apply Del.there)))) (by repeat (first | exact trivial | refine And.intro (by repeat (first | exact Mem.here | apply Mem.there)) ?_)) ?_
  rintro ⟨A33, c33⟩
  refine Jl.sealC (by repeat (first | exact Del.here | apply Del.there)) (fun hc33 => ?_)
  refine Jl.nil ?_
  refine Dh.Jq.segV (by repeat (first | exact Dh.FExt.refl | apply Dh.FExt.cons | apply Dh.FExt.app)) ?_ (by repeat (first | exact Dh.KeepL.nil | apply Dh.KeepL.anc (by rfl) | apply Dh.KeepL.keep (by repeat (first | exact Take.nil | apply Take.cons (by repeat (first | exact Del.here | apply Del.there))))))
  refine Dh.JH.cons ?_
  refine Dh.JB.nil ?_
  refine Dh.JL.nil ?_
  refine Dh.JE.mk rfl (fun _ h => by cases h) (fun C4_3 => ?_)
  refine Jl.call (adoo_at (b := aw1) (z := ((M1, m1), (I1, i1), (K1, k1))) (x := (A33, c33)) (by decide) hc33 (fun h => by cases h) (by decide) (by decide) (by decide) aw_2.1 aw_2.2) en8 (by rfl) (by repeat (first | exact Take.nil | apply Take.cons (by repeat (first | exact Del.here | apply Del.there)))) (by repeat (first | exact trivial | refine And.intro (by repeat (first | exact Mem.here | apply Mem.there)) ?_)) ?_
  rintro ⟨⟨M2, m2⟩, ⟨I2, i2⟩, ⟨K2, k2⟩⟩
  refine Jl.nil ?_
  refine Dh.Jq.segV (by repeat (first | exact Dh.FExt.refl | apply Dh.FExt.cons | apply Dh.FExt.app)) ?_ (by repeat (first | exact Dh.KeepL.nil | apply Dh.KeepL.anc (by rfl) | apply Dh.KeepL.keep (by repeat (first | exact Take.nil | apply Take.cons (by repeat (first | exact Del.here | apply Del.there))))))
  refine Dh.JH.cons ?_
  refine Dh.JB.pv rfl trivial (fun _ => PR.move rfl) ?_
  refine Dh.JB.pv rfl trivial (fun _ => PR.extract rfl (by rfl)) ?_
  refine Dh.JB.pv rfl trivial (fun _ => PR.extract rfl (by rfl)) ?_
  refine Dh.JB.nil ?_
  refine Dh.JL.ptr rfl (by repeat (first | exact Dh.es_here | apply Dh.es_there)) (fun b6 => ?_)
  refine Dh.JL.nil ?_
  refine Dh.JE.mk rfl (fun _ h => by cases h) (fun C4_8 => ?_)
  refine Jl.storeW rfl tsh30 rfl (by rfl) (by first | exact Br.cs_one _ _ | simp [Value.oneCell', Rc.cs]) (by repeat (first | exact Swap.here | apply Swap.there)) (by rfl) ?_
  refine Jl.nil ?_
  refine Dh.Jq.segN (by repeat (first | exact Dh.FExt.refl | apply Dh.FExt.cons | apply Dh.FExt.app)) ?_ (by repeat (first | exact Dh.KeepL.nil | apply Dh.KeepL.anc (by rfl) | apply Dh.KeepL.keep (by repeat (first | exact Take.nil | apply Take.cons (by repeat (first | exact Del.here | apply Del.there))))))
  refine Dh.JH.nil ?_
  refine Dh.JB.pv rfl trivial (fun _ => PR.assign rfl) ?_
  refine Dh.JB.nil ?_
  refine Dh.JL.nil ?_
  refine Jq.thenN ?_
  refine Jc.seq ?_
  refine Jc.drawn [0, 0, 2, 7, 15, 31, 31, 0, 191, 511] ([(9, false)], []) [⟨[(0, false), (1, true), (7, true)], [1], 2⟩, ⟨[], [], 3⟩, ⟨[(4, false), (5, false), (6, false)], [7], 8⟩] tmx (by kernel_rfl) ?_
  refine Dh.JH.cons ?_
  refine Dh.JB.rd [.blk _ _ _] rfl trivial (by repeat (first | exact Take.nil | apply Take.cons (by repeat (first | exact Del.here | apply Del.there)))) (fun _ => PR.loadW rfl tsh30 Has.here (by rfl)) ?_
  refine Dh.JB.buildSlice rfl trivial (by rfl) tsl22 tzr22_1 (by rfl) (by rfl) ?_
  refine Dh.JB.alloc rfl trivial tze30 ?_
  refine Dh.JB.nil ?_
  refine Dh.JL.sl rfl (by repeat (first | exact Dh.es_here | apply Dh.es_there)) (fun b39 => ?_)
  refine Dh.JL.nil ?_
  refine Dh.JE.mk rfl (fun _ h => by cases h) (fun C5_2 => ?_)
  refine Jl.seal (by repeat (first | exact Del.here | apply Del.there)) ?_
  refine Jl.call (aof_ct 2 (some ⟨b39, 0, none⟩) 1 [5] (by decide)) en14 (by rfl) (by repeat (first | exact Take.nil | apply Take.cons (by repeat (first | exact Del.here | apply Del.there)))) (by repeat (first | exact trivial | refine And.intro (by repeat (first | exact Mem.here | apply Mem.there)) ?_)) ?_
  rintro ⟨A40, c40⟩
  refine Jl.sealC (by repeat (first | exact Del.here | apply Del.there)) (fun hc40 => ?_)
  refine Jl.nil ?_
  refine Dh.Jq.segV (by repeat (first | exact Dh.FExt.refl | apply Dh.FExt.cons | apply Dh.FExt.app)) ?_ (by repeat (first | exact Dh.KeepL.nil | apply Dh.KeepL.anc (by rfl) | apply Dh.KeepL.keep (by repeat (first | exact Take.nil | apply Take.cons (by repeat (first | exact Del.here | apply Del.there))))))
  refine Dh.JH.cons ?_
  refine Dh.JB.nil ?_
  refine Dh.JL.nil ?_
  refine Dh.JE.mk rfl (fun _ h => by cases h) (fun C5_3 => ?_)
  refine Jl.call (adoo_at (b := aw2) (z := ((M2, m2), (I2, i2), (K2, k2))) (x := (A40, c40)) (by decide) hc40 (fun h => by cases h) (by decide) (by decide) (by decide) aw_3.1 aw_3.2) en8 (by rfl) (by repeat (first | exact Take.nil | apply Take.cons (by repeat (first | exact Del.here | apply Del.there)))) (by repeat (first | exact trivial | refine And.intro (by repeat (first | exact Mem.here | apply Mem.there)) ?_)) ?_
  rintro ⟨⟨M3, m3⟩, ⟨I3, i3⟩, ⟨K3, k3⟩⟩
  refine Jl.nil ?_
  refine Dh.Jq.segV (by repeat (first | exact Dh.FExt.refl | apply Dh.FExt.cons | apply Dh.FExt.app)) ?_ (by repeat (first | exact Dh.KeepL.nil | apply Dh.KeepL.anc (by rfl) | apply Dh.KeepL.keep (by repeat (first | exact Take.nil | apply Take.cons (by repeat (first | exact Del.here | apply Del.there))))))
  refine Dh.JH.cons ?_
  refine Dh.JB.pv rfl trivial (fun _ => PR.move rfl) ?_
  refine Dh.JB.pv rfl trivial (fun _ => PR.extract rfl (by rfl)) ?_
  refine Dh.JB.pv rfl trivial (fun _ => PR.extract rfl (by rfl)) ?_
  refine Dh.JB.nil ?_
  refine Dh.JL.ptr rfl (by repeat (first | exact Dh.es_here | apply Dh.es_there)) (fun b8 => ?_)
  refine Dh.JL.nil ?_
  refine Dh.JE.mk rfl (fun _ h => by cases h) (fun C5_8 => ?_)
  refine Jl.storeW rfl tsh30 rfl (by rfl) (by first | exact Br.cs_one _ _ | simp [Value.oneCell', Rc.cs]) (by repeat (first | exact Swap.here | apply Swap.there)) (by rfl) ?_
  refine Jl.nil ?_
  refine Dh.Jq.segN (by repeat (first | exact Dh.FExt.refl | apply Dh.FExt.cons | apply Dh.FExt.app)) ?_ (by repeat (first | exact Dh.KeepL.nil | apply Dh.KeepL.anc (by rfl) | apply Dh.KeepL.keep (by repeat (first | exact Take.nil | apply Take.cons (by repeat (first | exact Del.here | apply Del.there))))))
  refine Dh.JH.nil ?_
  refine Dh.JB.pv rfl trivial (fun _ => PR.assign rfl) ?_
  refine Dh.JB.nil ?_
  refine Dh.JL.nil ?_
  refine Jq.thenN ?_
  refine Jc.seq ?_
  refine Jc.drawn [0, 0, 2, 7, 15, 31, 31, 0, 191, 511] ([(9, false)], []) [⟨[(0, false), (1, true), (7, true)], [1], 2⟩, ⟨[], [], 3⟩, ⟨[(4, false), (5, false), (6, false)], [7], 8⟩] tmx (by kernel_rfl) ?_
  refine Dh.JH.cons ?_
  refine Dh.JB.rd [.blk _ _ _] rfl trivial (by repeat (first | exact Take.nil | apply Take.cons (by repeat (first | exact Del.here | apply Del.there)))) (fun _ => PR.loadW rfl tsh30 Has.here (by rfl)) ?_
  refine Dh.JB.buildSlice rfl trivial (by rfl) tsl22 tzr22_2 (by rfl) (by rfl) ?_
  refine Dh.JB.alloc rfl trivial tze36 ?_
  refine Dh.JB.nil ?_
  refine Dh.JL.sl rfl (by repeat (first | exact Dh.es_here | apply Dh.es_there)) (fun b46 => ?_)
  refine Dh.JL.nil ?_
  refine Dh.JE.mk rfl (fun _ h => by cases h) (fun C6_2 => ?_)
  refine Jl.seal (by repeat (first | exact Del.here | apply Del.there)) ?_
  refine Jl.call (aof_ct 5 (some ⟨b46, 0, none⟩) 2 [1, 1] (by decide)) en14 (by rfl) (by repeat (first | exact Take.nil | apply Take.cons (by repeat (first | exact Del.here | apply Del.there)))) (by repeat (first | exact trivial | refine And.intro (by repeat (first | exact Mem.here | apply Mem.there)) ?_)) ?_
  rintro ⟨A47, c47⟩
  refine Jl.sealC (by repeat (first | exact Del.here | apply Del.there)) (fun hc47 => ?_)
  refine Jl.nil ?_
  refine Dh.Jq.segV (by repeat (first | exact Dh.FExt.refl | apply Dh.FExt.cons | apply Dh.FExt.app)) ?_ (by repeat (first | exact Dh.KeepL.nil | apply Dh.KeepL.anc (by rfl) | apply Dh.KeepL.keep (by repeat (first | exact Take.nil | apply Take.cons (by repeat (first | exact Del.here | apply Del.there))))))
  refine Dh.JH.cons ?_
  refine Dh.JB.nil ?_
  refine Dh.JL.nil ?_
  refine Dh.JE.mk rfl (fun _ h => by cases h) (fun C6_3 => ?_)
  refine Jl.call (acheck_at (b := aw2) (z := ((M2, m2), (I2, i2), (K2, k2))) (x := (A47, c47)) (by decide) hc47 (by decide) (fun _ => by unfold i64in; decide) aw_4) en7 (by rfl) (by repeat (first | exact Take.nil | apply Take.cons (by repeat (first | exact Del.here | apply Del.there)))) (by repeat (first | exact trivial | refine And.intro (by repeat (first | exact Mem.here | apply Mem.there)) ?_)) ?_
  rintro ⟨⟨A48, c48⟩, h48⟩
  refine Jl.nil ?_
  refine Dh.Jq.segV (by repeat (first | exact Dh.FExt.refl | apply Dh.FExt.cons | apply Dh.FExt.app)) ?_ (by repeat (first | exact Dh.KeepL.nil | apply Dh.KeepL.anc (by rfl) | apply Dh.KeepL.keep (by repeat (first | exact Take.nil | apply Take.cons (by repeat (first | exact Del.here | apply Del.there))))))
  refine Dh.JH.cons ?_
  refine Dh.JB.pv rfl trivial (fun _ => PR.move rfl) ?_
  refine Dh.JB.pv rfl trivial (fun _ => PR.extract rfl (by rfl)) ?_
  refine Dh.JB.pv rfl trivial (fun _ => PR.extract rfl (by rfl)) ?_
  refine Dh.JB.nil ?_
  refine Dh.JL.ptr rfl (by repeat (first | exact Dh.es_here | apply Dh.es_there)) (fun b10 => ?_)
  refine Dh.JL.nil ?_
  refine Dh.JE.mk rfl (fun _ h => by cases h) (fun C6_8 => ?_)
  refine Jl.storeW rfl tsh36 rfl (by rfl) (by first | exact Br.cs_one _ _ | simp [Value.oneCell', Rc.cs]) (by repeat (first | exact Swap.here | apply Swap.there)) (by rfl) ?_
  refine Jl.nil ?_
  refine Dh.Jq.segN (by repeat (first | exact Dh.FExt.refl | apply Dh.FExt.cons | apply Dh.FExt.app)) ?_ (by repeat (first | exact Dh.KeepL.nil | apply Dh.KeepL.anc (by rfl) | apply Dh.KeepL.keep (by repeat (first | exact Take.nil | apply Take.cons (by repeat (first | exact Del.here | apply Del.there))))))
  refine Dh.JH.nil ?_
  refine Dh.JB.pv rfl trivial (fun _ => PR.assign rfl) ?_
  refine Dh.JB.nil ?_
  refine Dh.JL.nil ?_
  refine Jq.thenN ?_
  refine Jc.seq ?_
  refine Jc.drawn [0, 0, 3, 7, 15, 15, 0, 95, 255] ([(8, false)], []) [⟨[(0, false), (6, true)], [], 1⟩, ⟨[], [], 2⟩, ⟨[(3, false), (4, false), (5, false)], [6], 7⟩] tmx (by kernel_rfl) ?_
  refine Dh.JH.cons ?_
  refine Dh.JB.rd [.blk _ _ _] rfl trivial (by repeat (first | exact Take.nil | apply Take.cons (by repeat (first | exact Del.here | apply Del.there)))) (fun _ => PR.loadW rfl tsh30 Has.here (by rfl)) ?_
  refine Dh.JB.alloc rfl trivial tze36 ?_
  refine Dh.JB.nil ?_
  refine Dh.JL.nil ?_
  refine Dh.JE.mk rfl (fun _ h => by cases h) (fun C7_1 => ?_)
  refine Jl.call (aof_ct 99 none 0 [] (by decide)) en14 (by rfl) (by repeat (first | exact Take.nil | apply Take.cons (by repeat (first | exact Del.here | apply Del.there)))) (by repeat (first | exact trivial | refine And.intro (by repeat (first | exact Mem.here | apply Mem.there)) ?_)) ?_
  rintro ⟨A53, c53⟩
  refine Jl.sealC (by repeat (first | exact Del.here | apply Del.there)) (fun hc53 => ?_)
  refine Jl.nil ?_
  refine Dh.Jq.segV (by repeat (first | exact Dh.FExt.refl | apply Dh.FExt.cons | apply Dh.FExt.app)) ?_ (by repeat (first | exact Dh.KeepL.nil | apply Dh.KeepL.anc (by rfl) | apply Dh.KeepL.keep (by repeat (first | exact Take.nil | apply Take.cons (by repeat (first | exact Del.here | apply Del.there))))))
  refine Dh.JH.cons ?_
  refine Dh.JB.nil ?_
  refine Dh.JL.nil ?_
  refine Dh.JE.mk rfl (fun _ h => by cases h) (fun C7_2 => ?_)
  refine Jl.call (acheck_at (b := aw2) (z := ((M2, m2), (I2, i2), (K2, k2))) (x := (A53, c53)) (by decide) hc53 (by decide) (fun h => by cases h) aw_5) en7 (by rfl) (by repeat (first | exact Take.nil | apply Take.cons (by repeat (first | exact Del.here | apply Del.there)))) (by repeat (first | exact trivial | refine And.intro (by repeat (first | exact Mem.here | apply Mem.there)) ?_)) ?_
  rintro ⟨⟨A54, c54⟩, h54⟩
  refine Jl.nil ?_
  refine Dh.Jq.segV (by repeat (first | exact Dh.FExt.refl | apply Dh.FExt.cons | apply Dh.FExt.app)) ?_ (by repeat (first | exact Dh.KeepL.nil | apply Dh.KeepL.anc (by rfl) | apply Dh.KeepL.keep (by repeat (first | exact Take.nil | apply Take.cons (by repeat (first | exact Del.here | apply Del.there))))))
  refine Dh.JH.cons ?_
  refine Dh.JB.pv rfl trivial (fun _ => PR.move rfl) ?_
  refine Dh.JB.pv rfl trivial (fun _ => PR.extract rfl (by rfl)) ?_
  refine Dh.JB.pv rfl trivial (fun _ => PR.extract rfl (by rfl)) ?_
  refine Dh.JB.nil ?_
  refine Dh.JL.ptr rfl (by repeat (first | exact Dh.es_here | apply Dh.es_there)) (fun b12 => ?_)
  refine Dh.JL.nil ?_
  refine Dh.JE.mk rfl (fun _ h => by cases h) (fun C7_7 => ?_)
  refine Jl.storeW rfl tsh36 rfl (by rfl) (by first | exact Br.cs_one _ _ | simp [Value.oneCell', Rc.cs]) (by repeat (first | exact Swap.here | apply Swap.there)) (by rfl) ?_
  refine Jl.nil ?_
  refine Dh.Jq.segN (by repeat (first | exact Dh.FExt.refl | apply Dh.FExt.cons | apply Dh.FExt.app)) ?_ (by repeat (first | exact Dh.KeepL.nil | apply Dh.KeepL.anc (by rfl) | apply Dh.KeepL.keep (by repeat (first | exact Take.nil | apply Take.cons (by repeat (first | exact Del.here | apply Del.there))))))
  refine Dh.JH.nil ?_
  refine Dh.JB.pv rfl trivial (fun _ => PR.assign rfl) ?_
  refine Dh.JB.nil ?_
  refine Dh.JL.nil ?_
  refine Jq.thenN ?_
  refine Jc.seq ?_
  refine Jc.drawn [0, 0, 3, 7, 15, 15, 0, 95, 255] ([(8, false)], []) [⟨[(0, false), (6, true)], [], 1⟩, ⟨[], [], 2⟩, ⟨[(3, false), (4, false), (5, false)], [6], 7⟩] tmx (by kernel_rfl) ?_
  refine Dh.JH.cons ?_
  refine Dh.JB.rd [.blk _ _ _] rfl trivial (by repeat (first | exact Take.nil | apply Take.cons (by repeat (first | exact Del.here | apply Del.there)))) (fun _ => PR.loadW rfl tsh30 Has.here (by rfl)) ?_
  refine Dh.JB.alloc rfl trivial tze36 ?_
  refine Dh.JB.nil ?_
  refine Dh.JL.nil ?_
  refine Dh.JE.mk rfl (fun _ h => by cases h) (fun C8_1 => ?_)
  refine Jl.call (aof_ct 4 none 0 [] (by decide)) en14 (by rfl) (by repeat (first | exact Take.nil | apply Take.cons (by repeat (first | exact Del.here | apply Del.there)))) (by repeat (first | exact trivial | refine And.intro (by repeat (first | exact Mem.here | apply Mem.there)) ?_)) ?_
  rintro ⟨A59, c59⟩
  refine Jl.sealC (by repeat (first | exact Del.here | apply Del.there)) (fun hc59 => ?_)
  refine Jl.nil ?_
  refine Dh.Jq.segV (by repeat (first | exact Dh.FExt.refl | apply Dh.FExt.cons | apply Dh.FExt.app)) ?_ (by repeat (first | exact Dh.KeepL.nil | apply Dh.KeepL.anc (by rfl) | apply Dh.KeepL.keep (by repeat (first | exact Take.nil | apply Take.cons (by repeat (first | exact Del.here | apply Del.there))))))
  refine Dh.JH.cons ?_
  refine Dh.JB.nil ?_
  refine Dh.JL.nil ?_
  refine Dh.JE.mk rfl (fun _ h => by cases h) (fun C8_2 => ?_)
  refine Jl.call (acheck_at (b := aw2) (z := ((M2, m2), (I2, i2), (K2, k2))) (x := (A59, c59)) (by decide) hc59 (by decide) (fun h => by cases h) aw_6) en7 (by rfl) (by repeat (first | exact Take.nil | apply Take.cons (by repeat (first | exact Del.here | apply Del.there)))) (by repeat (first | exact trivial | refine And.intro (by repeat (first | exact Mem.here | apply Mem.there)) ?_)) ?_
  rintro ⟨⟨A60, c60⟩, h60⟩
  refine Jl.nil ?_
  refine Dh.Jq.segV (by repeat (first | exact Dh.FExt.refl | apply Dh.FExt.cons | apply Dh.FExt.app)) ?_ (by repeat (first | exact Dh.KeepL.nil | apply Dh.KeepL.anc (by rfl) | apply Dh.KeepL.keep (by repeat (first | exact Take.nil | apply Take.cons (by repeat (first | exact Del.here | apply Del.there))))))
  refine Dh.JH.cons ?_
  refine Dh.JB.pv rfl trivial (fun _ => PR.move rfl) ?_
  refine Dh.JB.pv rfl trivial (fun _ => PR.extract rfl (by rfl)) ?_
  refine Dh.JB.pv rfl trivial (fun _ => PR.extract rfl (by rfl)) ?_
  refine Dh.JB.nil ?_
  refine Dh.JL.ptr rfl (by repeat (first | exact Dh.es_here | apply Dh.es_there)) (fun b14 => ?_)
  refine Dh.JL.nil ?_
  refine Dh.JE.mk rfl (fun _ h => by cases h) (fun C8_7 => ?_)
  refine Jl.storeW rfl tsh36 rfl (by rfl) (by first | exact Br.cs_one _ _ | simp [Value.oneCell', Rc.cs]) (by repeat (first | exact Swap.here | apply Swap.there)) (by rfl) ?_
  refine Jl.nil ?_
  refine Dh.Jq.segN (by repeat (first | exact Dh.FExt.refl | apply Dh.FExt.cons | apply Dh.FExt.app)) ?_ (by repeat (first | exact Dh.KeepL.nil | apply Dh.KeepL.anc (by rfl) | apply Dh.KeepL.keep (by repeat (first | exact Take.nil | apply Take.cons (by repeat (first | exact Del.here | apply Del.there))))))
  refine Dh.JH.nil ?_
  refine Dh.JB.pv rfl trivial (fun _ => PR.assign rfl) ?_
  refine Dh.JB.nil ?_
  refine Dh.JL.nil ?_
  refine Jq.thenN ?_
  refine Jc.seq ?_
  refine Jc.region ?_
  refine Jl.pv (PR.move rfl) ?_
  refine Jl.pv (PR.eql true rfl rfl (by decide)) ?_
  refine Jl.pv (PR.move rfl) ?_
  refine Jl.on rfl rfl ?_
  refine Jl.pv (PR.move rfl) ?_
  refine Jl.on rfl rfl ?_
  refine Jl.pv (PR.eql true rfl rfl (by decide)) ?_
  refine Jl.pv (PR.pickT rfl rfl) ?_
  refine Jl.pv (PR.move rfl) ?_
  refine Jl.on rfl rfl ?_
  refine Jl.pv (PR.fieldAddr rfl tfl30_2) ?_
  refine Jl.on rfl rfl ?_
  refine Jl.pv (PR.load1 rfl tsh4 (by repeat (first | exact Has.here | apply Has.there)) (by rfl)) ?_
  refine Jl.as (.bool true) (congrArg Value.bool rfl) ?_
  refine Jl.pv (PR.pickT rfl rfl) ?_
  refine Jl.pv (PR.move rfl) ?_
  refine Jl.on rfl rfl ?_
  refine Jl.pv (PR.move rfl) ?_
  refine Jl.on rfl rfl ?_
  refine Jl.pv (PR.eql true rfl rfl (by decide)) ?_
  refine Jl.pv (PR.pickT rfl rfl) ?_
  refine Jl.pv (PR.move rfl) ?_
  refine Jl.on rfl rfl ?_
  refine Jl.pv (PR.fieldAddr rfl tfl30_6) ?_
  refine Jl.on rfl rfl ?_
  refine Jl.pv (PR.fieldAddr rfl tfl28_0) ?_
  refine Jl.on rfl rfl ?_
  refine Jl.pv (PR.load1 rfl tsh5 (by repeat (first | exact Has.here | apply Has.there)) (by rfl)) ?_
  refine Jl.on rfl rfl ?_
  refine Jl.pv (PR.eql true rfl rfl (by decide)) ?_
  refine Jl.pv (PR.pickT rfl rfl) ?_
  refine Jl.pv (PR.move rfl) ?_
  refine Jl.on rfl rfl ?_
  refine Jl.pv (PR.fieldAddr rfl tfl30_6) ?_
  refine Jl.on rfl rfl ?_
  refine Jl.pv (PR.fieldAddr rfl tfl28_2) ?_
  refine Jl.on rfl rfl ?_
  refine Jl.pv (PR.load1 rfl tsh3 (by repeat (first | exact Has.here | apply Has.there)) (by rfl)) ?_
  refine Jl.on rfl rfl ?_
  refine Jl.pv (PR.eql true rfl rfl (by decide)) ?_
  refine Jl.pv (PR.pickT rfl rfl) ?_
  refine Jl.pv (PR.move rfl) ?_
  refine Jl.on rfl rfl ?_
  refine Jl.pv (PR.fieldAddr rfl tfl30_6) ?_
  refine Jl.on rfl rfl ?_
  refine Jl.pv (PR.fieldAddr rfl tfl28_1) ?_
  refine Jl.on rfl rfl ?_
  refine Jl.pv (PR.load1 rfl tsh3 (by repeat (first | exact Has.here | apply Has.there)) (by rfl)) ?_
  refine Jl.on rfl rfl ?_
  refine Jl.pv (PR.eql true rfl rfl (by decide)) ?_
  refine Jl.pv (PR.pickT rfl rfl) ?_
  refine Jl.pv (PR.move rfl) ?_
  refine Jl.on rfl rfl ?_
  refine Jl.pv (PR.fieldAddr rfl tfl30_6) ?_
  refine Jl.on rfl rfl ?_
  refine Jl.pv (PR.fieldAddr rfl tfl28_5) ?_
  refine Jl.on rfl rfl ?_
  refine Jl.pv (PR.load1 rfl tsh3 (by repeat (first | exact Has.here | apply Has.there)) (by rfl)) ?_
  refine Jl.on rfl rfl ?_
  refine Jl.pv (PR.eql true rfl rfl (by decide)) ?_
  refine Jl.pv (PR.pickT rfl rfl) ?_
  refine Jl.pv (PR.move rfl) ?_
  refine Jl.on rfl rfl ?_
  refine Jl.pv (PR.move rfl) ?_
  refine Jl.on rfl rfl ?_
  refine Jl.pv (PR.eql true rfl rfl (by decide)) ?_
  refine Jl.pv (PR.pickT rfl rfl) ?_
  refine Jl.pv (PR.move rfl) ?_
  refine Jl.on rfl rfl ?_
  refine Jl.pv (PR.move rfl) ?_
  refine Jl.on rfl rfl ?_
  refine Jl.pv (PR.eql true rfl rfl (by decide)) ?_
  refine Jl.pv (PR.pickT rfl rfl) ?_
  refine Jl.pv (PR.move rfl) ?_
  refine Jl.on rfl rfl ?_
  refine Jl.pv (PR.move rfl) ?_
  refine Jl.on rfl rfl ?_
  refine Jl.pv (PR.eql true rfl rfl (by decide)) ?_
  refine Jl.pv (PR.pickT rfl rfl) ?_
  refine Jl.pv (PR.move rfl) ?_
  refine Jl.on rfl rfl ?_
  refine Jl.pv (PR.move rfl) ?_
  refine Jl.on rfl rfl ?_
  refine Jl.pv (PR.eql true rfl rfl (by decide)) ?_
  refine Jl.pv (PR.pickT rfl rfl) ?_
  refine Jl.pv (PR.move rfl) ?_
  refine Jl.on rfl rfl ?_
  refine Jl.pv (PR.fieldAddr rfl tfl36_0) ?_
  refine Jl.on rfl rfl ?_
  refine Jl.pv (PR.load1 rfl tsh5 (by repeat (first | exact Has.here | apply Has.there)) (by rfl)) ?_
  refine Jl.on rfl rfl ?_
  refine Jl.pv (PR.eql true rfl rfl (by decide)) ?_
  refine Jl.pv (PR.pickT rfl rfl) ?_
  refine Jl.pv (PR.move rfl) ?_
  refine Jl.on rfl rfl ?_
  refine Jl.call aname7_ct en16 (by rfl) (by repeat (first | exact Take.nil | apply Take.cons (by repeat (first | exact Del.here | apply Del.there)))) (by repeat (first | exact trivial | refine And.intro (by repeat (first | exact Mem.here | apply Mem.there)) ?_)) ?_
  rintro ⟨⟩
  refine Jl.on rfl rfl ?_
  refine Jl.pv (PR.seql true rfl rfl (by decide)) ?_
  refine Jl.pv (PR.pickT rfl rfl) ?_
  refine Jl.pv (PR.assign rfl) ?_
  refine Jl.nil ?_
  refine Jq.thenN ?_
  refine Jc.ret ?_
  exact Jq.fin () (.inl rfl) rfl (RetVs.tmp rfl RetVs.nil) rfl (by repeat (first | exact Take.nil | apply Take.cons (by repeat (first | exact Del.here | apply Del.there)))) (by repeat (first | exact trivial | refine And.intro (by repeat (first | exact Mem.here | apply Mem.there)) ?_))
end Go.Proofs.YtcppphgpbaablaaGreatDoor
