/-
The laws of logs: wakes, LogOpen, LogSafe.
-/
import Derived.Test.YtcohgnagffibcaaDoorLgC
namespace Go.Proofs.YtcohgnagffibcaaDoor
set_option linter.unusedVariables false
open Go.RowKit
attribute [local irreducible] Res.blk Res.row Fact.rd
abbrev nA : AdC := (none, 0)
def zs1 : Rcs := [(nA, ⟨1, []⟩)]
def zs2 : Rcs := [(nA, ⟨16, []⟩), (nA, ⟨16, []⟩)]
def zs0 : Rcs := [(nA, Rc.zero)]
def wd1 : Dk := addD (Dk.new 200) zs1
def wd2 : Dk := wd1.sync
def wd3 : Dk := addD wd2 zs2
theorem rcs_nil {zs : Rcs} (h : (zs.all fun z => z.1.1.isNone && z.2.l.isEmpty) = true) (X : Nat → Prop) (W : World) : (Fact.rcs zs).p X W := fun z hz => by
  have := List.all_eq_true.1 h z hz
  simp only [Bool.and_eq_true, Option.isNone_iff_eq_none, List.isEmpty_iff] at this
  rw [this.1, this.2]
  exact Fact.rd_nil none X W
theorem lgwakes_ct (mm : Nat → AdC) : Ct Tryd.prog 9 [] [] [.many mm] (fun _ : Unit => .bool true) (fun _ => []) (fun _ => []) := by
  refine Ct.of _ Tryd.func9 Tryd.ntmps9 rfl rfl (fun X W => ?_)
  refine Jc.fact0 (.rd none (u8s [])) (fun X W => Fact.rd_nil none X W) ?_
  refine Jc.fact0 (.rcs zs1) (rcs_nil rfl) ?_
  refine Jc.fact0 (.rcs zs2) (rcs_nil rfl) ?_
  refine Jc.fact0 (.rcs zs0) (rcs_nil rfl) ?_
  refine Jc.seq ?_
  refine Jc.region ?_
  refine Jl.pv (PR.assign rfl) ?_
  refine Jl.nil ?_
  refine Jq.thenN ?_
  refine Jc.seq ?_
  refine Jc.region ?_
  refine Jl.call (scan_ct none 0 [] mm (by decide) (by decide)) en10 (by rfl) (by repeat (first | exact Take.nil | apply Take.cons (by repeat (first | exact Del.here | apply Del.there)))) (by repeat (first | exact trivial | refine And.intro (by repeat (first | exact Mem.here | apply Mem.there)) ?_)) ?_
  rintro ⟨zz, ⟨A15, c15⟩⟩
  refine Jl.pv (PR.move rfl) ?_
  refine Jl.pv (PR.extract rfl (by rfl)) ?_
  refine Jl.pv (PR.extract rfl (by rfl)) ?_
  refine Jl.pv (PR.assign rfl) ?_
  refine Jl.pv (PR.assign rfl) ?_
  refine Jl.nil ?_
  refine Jq.thenN ?_
  refine Jc.seq ?_
  refine Jc.region ?_
  refine Jl.call (rnew_ct 200) en23 (by rfl) (by repeat (first | exact Take.nil | apply Take.cons (by repeat (first | exact Del.here | apply Del.there)))) (by repeat (first | exact trivial | refine And.intro (by repeat (first | exact Mem.here | apply Mem.there)) ?_)) ?_
  rintro ⟨A18, c18⟩
  refine Jl.sealC (by repeat (first | exact Del.here | apply Del.there)) (fun hc18 => ?_)
  refine Jl.alloc tze24 ?_
  intro b3
  refine Jl.storeW rfl tsh24 rfl (by rfl) (by simp [Value.oneCell', Dk.cs, Rc.cs]) (by repeat (first | exact Swap.here | apply Swap.there)) (by rfl) ?_
  refine Jl.nil ?_
  refine Jq.thenN ?_
  refine Jc.seq ?_
  refine Jc.region ?_
  refine Jl.pv (PR.build (by rfl) tze43 tpl43_0 (by rfl)) ?_
  refine Jl.pv (PR.build (by rfl) tze43 tpl43_0 (by rfl)) ?_
  refine Jl.alloc tze43 ?_
  intro b4
  refine Jl.alloc tze43 ?_
  intro b5
  refine Jl.storeW rfl tsh43 rfl (by rfl) (by simp [Value.oneCell', Dk.cs, Rc.cs]) (by repeat (first | exact Swap.here | apply Swap.there)) (by rfl) ?_
  refine Jl.storeW rfl tsh43 rfl (by rfl) (by simp [Value.oneCell', Dk.cs, Rc.cs]) (by repeat (first | exact Swap.here | apply Swap.there)) (by rfl) ?_
  refine Jl.nil ?_
  refine Jq.thenN ?_
  refine Jc.seq ?_
  refine Jc.region ?_
  refine Jl.pv (PR.loadW rfl tsh24 (by repeat (first | exact Has.here | apply Has.there)) (by rfl)) ?_
  refine Jl.pv (PR.loadW rfl tsh43 (by repeat (first | exact Has.here | apply Has.there)) (by rfl)) ?_
  refine Jl.buildSlice (by rfl) tsl25 tzr25_1 (by rfl) (by rfl) ?_
  intro b24
  refine Jl.seal (by repeat (first | exact Del.here | apply Del.there)) ?_
  refine Jl.call (add_ct (Dk.new 200) (A18, c18) (some ⟨b24, 0, none⟩) 1 zs1 mm (by decide +kernel) hc18 (by decide) (by decide)) en12 (by rfl) (by repeat (first | exact Take.nil | apply Take.cons (by repeat (first | exact Del.here | apply Del.there)))) (by repeat (first | exact trivial | refine And.intro (by repeat (first | exact Mem.here | apply Mem.there)) ?_)) ?_
  rintro ⟨A25, c25⟩
  refine Jl.sealC (by repeat (first | exact Del.here | apply Del.there)) (fun hc25 => ?_)
  refine Jl.pv (PR.move rfl) ?_
  refine Jl.pv (PR.extract rfl (by rfl)) ?_
  refine Jl.pv (PR.extract rfl (by rfl)) ?_
  refine Jl.storeW rfl tsh24 rfl (by rfl) (by simp [Value.oneCell', Dk.cs, Rc.cs]) (by repeat (first | exact Swap.here | apply Swap.there)) (by rfl) ?_
  refine Jl.pv (PR.assign rfl) ?_
  refine Jl.nil ?_
  refine Jq.thenN ?_
  refine Jc.seq ?_
  refine Jc.region ?_
  refine Jl.pv (PR.loadW rfl tsh24 (by repeat (first | exact Has.here | apply Has.there)) (by rfl)) ?_
  refine Jl.call (rsync_ct A25 c25 wd1 (by decide +kernel) hc25) en24 (by rfl) (by repeat (first | exact Take.nil | apply Take.cons (by repeat (first | exact Del.here | apply Del.there)))) (by repeat (first | exact trivial | refine And.intro (by repeat (first | exact Mem.here | apply Mem.there)) ?_)) ?_
  rintro ⟨A29, c29⟩
  refine Jl.sealC (by repeat (first | exact Del.here | apply Del.there)) (fun hc29 => ?_)
  refine Jl.storeW rfl tsh24 rfl (by rfl) (by simp [Value.oneCell', Dk.cs, Rc.cs]) (by repeat (first | exact Swap.here | apply Swap.there)) (by rfl) ?_
  refine Jl.nil ?_
  refine Jq.thenN ?_
  refine Jc.seq ?_
  refine Jc.region ?_
  refine Jl.pv (PR.loadW rfl tsh24 (by repeat (first | exact Has.here | apply Has.there)) (by rfl)) ?_
  refine Jl.pv (PR.loadW rfl tsh43 (by repeat (first | exact Has.here | apply Has.there)) (by rfl)) ?_
  refine Jl.pv (PR.loadW rfl tsh43 (by repeat (first | exact Has.here | apply Has.there)) (by rfl)) ?_
  refine Jl.buildSlice (by rfl) tsl25 tzr25_2 (by rfl) (by rfl) ?_
  intro b34
  refine Jl.seal (by repeat (first | exact Del.here | apply Del.there)) ?_
  refine Jl.call (add_ct wd2 (A29, c29) (some ⟨b34, 0, none⟩) 2 zs2 mm (by decide +kernel) hc29 (by decide) (by decide)) en12 (by rfl) (by repeat (first | exact Take.nil | apply Take.cons (by repeat (first | exact Del.here | apply Del.there)))) (by repeat (first | exact trivial | refine And.intro (by repeat (first | exact Mem.here | apply Mem.there)) ?_)) ?_
  rintro ⟨A35, c35⟩
  refine Jl.sealC (by repeat (first | exact Del.here | apply Del.there)) (fun hc35 => ?_)
  refine Jl.pv (PR.move rfl) ?_
  refine Jl.pv (PR.extract rfl (by rfl)) ?_
  refine Jl.pv (PR.extract rfl (by rfl)) ?_
  refine Jl.storeW rfl tsh24 rfl (by rfl) (by simp [Value.oneCell', Dk.cs, Rc.cs]) (by repeat (first | exact Swap.here | apply Swap.there)) (by rfl) ?_
  refine Jl.pv (PR.assign rfl) ?_
  refine Jl.nil ?_
  refine Jq.thenN ?_
  refine Jc.seq ?_
  refine Jc.region ?_
  refine Jl.pv (PR.loadW rfl tsh24 (by repeat (first | exact Has.here | apply Has.there)) (by rfl)) ?_
  refine Jl.call (rcrash_ct A35 c35 wd3 1 (by decide +kernel) hc35) en25 (by rfl) (by repeat (first | exact Take.nil | apply Take.cons (by repeat (first | exact Del.here | apply Del.there)))) (by repeat (first | exact trivial | refine And.intro (by repeat (first | exact Mem.here | apply Mem.there)) ?_)) ?_
  rintro ⟨A40, c40⟩
  refine Jl.sealC (by repeat (first | exact Del.here | apply Del.there)) (fun hc40 => ?_)
  refine Jl.call (open_ct (wd3.crash 1) (A40, c40) mm (by decide +kernel) hc40) en14 (by rfl) (by repeat (first | exact Take.nil | apply Take.cons (by repeat (first | exact Del.here | apply Del.there)))) (by repeat (first | exact trivial | refine And.intro (by repeat (first | exact Mem.here | apply Mem.there)) ?_)) ?_
  rintro ⟨⟨⟨A41, c41⟩, h41⟩, zs41, ⟨B41, d41⟩⟩
  refine Jl.pv (PR.move rfl) ?_
  refine Jl.pv (PR.extract rfl (by rfl)) ?_
  refine Jl.pv (PR.extract rfl (by rfl)) ?_
  refine Jl.alloc tze24 ?_
  intro b8
  refine Jl.storeW rfl tsh24 rfl (by rfl) (by simp [Value.oneCell', Dk.cs, Rc.cs]) (by repeat (first | exact Swap.here | apply Swap.there)) (by rfl) ?_
  refine Jl.pv (PR.assign rfl) ?_
  refine Jl.nil ?_
  refine Jq.thenN ?_
  refine Jc.seq ?_
  refine Jc.region ?_
  refine Jl.pv (PR.loadW rfl tsh24 (by repeat (first | exact Has.here | apply Has.there)) (by rfl)) ?_
  refine Jl.call (open_ct wd3 (A35, c35) mm (by decide +kernel) hc35) en14 (by rfl) (by repeat (first | exact Take.nil | apply Take.cons (by repeat (first | exact Del.here | apply Del.there)))) (by repeat (first | exact trivial | refine And.intro (by repeat (first | exact Mem.here | apply Mem.there)) ?_)) ?_
  rintro ⟨⟨⟨A46, c46⟩, h46⟩, zs46, ⟨B46, d46⟩⟩
  refine Jl.pv (PR.move rfl) ?_
  refine Jl.pv (PR.extract rfl (by rfl)) ?_
  refine Jl.pv (PR.extract rfl (by rfl)) ?_
  refine Jl.alloc tze24 ?_
  intro b10
  refine Jl.storeW rfl tsh24 rfl (by rfl) (by simp [Value.oneCell', Dk.cs, Rc.cs]) (by repeat (first | exact Swap.here | apply Swap.there)) (by rfl) ?_
  refine Jl.pv (PR.assign rfl) ?_
  refine Jl.nil ?_
  refine Jq.thenN ?_
  refine Jc.seq ?_
  refine Jc.region ?_
  refine Jl.pv (PR.loadW rfl tsh24 (by repeat (first | exact Has.here | apply Has.there)) (by rfl)) ?_
  refine Jl.pv (PR.build (by rfl) tze43 tpl43_ (by rfl)) ?_
  refine Jl.buildSlice (by rfl) tsl25 tzr25_1 (by rfl) (by rfl) ?_
  intro b52
  refine Jl.seal (by repeat (first | exact Del.here | apply Del.there)) ?_
  refine Jl.call (add_ct wd3 (A35, c35) (some ⟨b52, 0, none⟩) 1 zs0 mm (by decide +kernel) hc35 (by decide) (by decide)) en12 (by rfl) (by repeat (first | exact Take.nil | apply Take.cons (by repeat (first | exact Del.here | apply Del.there)))) (by repeat (first | exact trivial | refine And.intro (by repeat (first | exact Mem.here | apply Mem.there)) ?_)) ?_
  rintro ⟨A53, c53⟩
  refine Jl.pv (PR.move rfl) ?_
  refine Jl.pv (PR.extract rfl (by rfl)) ?_
  refine Jl.pv (PR.extract rfl (by rfl)) ?_
  refine Jl.alloc tze24 ?_
  intro b12
  refine Jl.storeW rfl tsh24 rfl (by rfl) (by simp [Value.oneCell', Dk.cs, Rc.cs]) (by repeat (first | exact Swap.here | apply Swap.there)) (by rfl) ?_
  refine Jl.pv (PR.assign rfl) ?_
  refine Jl.nil ?_
  refine Jq.thenN ?_
  refine Jc.seq ?_
  refine Jc.drawn [0, 1, 3, 7, 15, 31, 63, 127, 255, 511, 1023, 2047, 4095, 8191, 16383, 32767, 65535, 131071, 262143, 524287, 1048575, 2097151, 4194303, 8388607, 16777215, 33554431, 67108863, 134217727, 268435455, 536870911, 1073741823, 2147483647, 4294967295, 8589934591, 4294967295, 21474836479, 55834574847, 137438953471, 274877906943, 549755813887, 1099511627775, 2199023255551, 1099511627775, 5497558138879, 14293651161087, 35184372088831, 70368744177663, 140737488355327, 281474976710655, 562949953421311, 1125899906842623, 2251799813685247, 4503599627370495, 9007199254740991, 18014398509481983, 36028797018963967, 72057594037927935, 144115188075855871] ([(55, false), (56, false), (57, false)], []) [⟨[(0, false), (1, false), (2, false), (3, false), (4, false), (5, false), (6, false), (7, false), (8, false), (9, false), (10, false), (11, false), (12, false), (13, false), (14, false), (15, false), (16, false), (17, false), (18, false), (19, false), (20, false), (21, false), (22, false), (23, false), (24, false), (25, false), (26, false)], [], 27⟩, ⟨[(28, false), (29, false), (30, false), (31, false), (32, false), (33, false), (34, false), (35, false), (36, false), (37, false), (38, false), (39, false), (40, false), (41, false), (42, false), (43, true)], [43], 44⟩, ⟨[(45, false), (46, false), (47, false), (48, false), (49, false), (50, false), (51, false), (52, false), (53, true)], [53], 54⟩] tmx (by kernel_rfl) ?_
  refine Dh.JH.cons ?_
  refine Dh.JB.pv rfl trivial (fun _ => PR.move rfl) ?_
  refine Dh.JB.pv rfl trivial (fun _ => PR.len rfl tsl25) ?_
  refine Dh.JB.pv rfl trivial (fun _ => PR.eql true rfl rfl (by decide +kernel)) ?_
  refine Dh.JB.pv rfl trivial (fun _ => PR.move rfl) ?_
  refine Dh.JB.pv rfl ⟨_, rfl, rfl⟩ (fun _ => PR.move rfl) ?_
  refine Dh.JB.pv rfl ⟨_, rfl, rfl⟩ (fun _ => PR.eql true rfl rfl (by decide +kernel)) ?_
  refine Dh.JB.pv rfl trivial (fun _ => PR.pickT rfl rfl) ?_
  refine Dh.JB.pv rfl trivial (fun _ => PR.move rfl) ?_
  refine Dh.JB.pv rfl ⟨_, rfl, rfl⟩ (fun _ => PR.move rfl) ?_
  refine Dh.JB.pv rfl ⟨_, rfl, rfl⟩ (fun _ => PR.eql true rfl rfl (by decide +kernel)) ?_
  refine Dh.JB.pv rfl trivial (fun _ => PR.pickT rfl rfl) ?_
  refine Dh.JB.pv rfl trivial (fun _ => PR.move rfl) ?_
  refine Dh.JB.pv rfl ⟨_, rfl, rfl⟩ (fun _ => PR.move rfl) ?_
  refine Dh.JB.pv rfl ⟨_, rfl, rfl⟩ (fun _ => PR.eql true rfl rfl (by decide +kernel)) ?_
  refine Dh.JB.pv rfl trivial (fun _ => PR.pickT rfl rfl) ?_
  refine Dh.JB.pv rfl trivial (fun _ => PR.move rfl) ?_
  refine Dh.JB.pv rfl ⟨_, rfl, rfl⟩ (fun _ => PR.move rfl) ?_
  refine Dh.JB.pv rfl ⟨_, rfl, rfl⟩ (fun _ => PR.len rfl tsl25) ?_
  refine Dh.JB.pv rfl ⟨_, rfl, rfl⟩ (fun _ => PR.eql true rfl rfl (by decide +kernel)) ?_
  refine Dh.JB.pv rfl trivial (fun _ => PR.pickT rfl rfl) ?_
  refine Dh.JB.pv rfl trivial (fun _ => PR.move rfl) ?_
  refine Dh.JB.pv rfl ⟨_, rfl, rfl⟩ (fun _ => PR.move rfl) ?_
  refine Dh.JB.pv rfl ⟨_, rfl, rfl⟩ (fun _ => PR.len rfl tsl25) ?_
  refine Dh.JB.pv rfl ⟨_, rfl, rfl⟩ (fun _ => PR.eql true rfl rfl (by decide +kernel)) ?_
  refine Dh.JB.pv rfl trivial (fun _ => PR.pickT rfl rfl) ?_
  refine Dh.JB.pv rfl trivial (fun _ => PR.move rfl) ?_
  refine Dh.JB.rd [.blk _ _ _] rfl ⟨_, rfl, rfl⟩ (by repeat (first | exact Take.nil | apply Take.cons (by repeat (first | exact Del.here | apply Del.there)))) (fun _ => PR.loadW rfl tsh24 Has.here (by rfl)) ?_
  refine Dh.JB.nil ?_
  refine Dh.JL.nil ?_
  refine Dh.JE.mk rfl (fun _ h => by cases h) (fun C10_27 => ?_)
  refine Jl.on rfl rfl ?_
  refine Jl.call (safe_ct wd3 (A35, c35) mm (by decide +kernel) hc35) en18 (by rfl) (by repeat (first | exact Take.nil | apply Take.cons (by repeat (first | exact Del.here | apply Del.there)))) (by repeat (first | exact trivial | refine And.intro (by repeat (first | exact Mem.here | apply Mem.there)) ?_)) ?_
  rintro ⟨zs83, ⟨A83, c83⟩⟩
  refine Jl.nil ?_
  refine Dh.Jq.segV (by repeat (first | exact Dh.FExt.refl | apply Dh.FExt.cons | apply Dh.FExt.app)) ?_ (by repeat (first | exact Dh.KeepL.nil | apply Dh.KeepL.anc (by rfl) | apply Dh.KeepL.keep (by repeat (first | exact Take.nil | apply Take.cons (by repeat (first | exact Del.here | apply Del.there))))))
  refine Dh.JH.cons ?_
  refine Dh.JB.pv rfl ⟨_, rfl, rfl⟩ (fun _ => PR.len rfl tsl25) ?_
  refine Dh.JB.pv rfl ⟨_, rfl, rfl⟩ (fun _ => PR.eql true rfl rfl (by decide +kernel)) ?_
  refine Dh.JB.pv rfl trivial (fun _ => PR.pickT rfl rfl) ?_
  refine Dh.JB.pv rfl trivial (fun _ => PR.move rfl) ?_
  refine Dh.JB.pv rfl ⟨_, rfl, rfl⟩ (fun _ => PR.fieldAddr rfl tfl24_1) ?_
  refine Dh.JB.rd [.blk _ _ _] rfl ⟨_, rfl, rfl⟩ (by repeat (first | exact Take.nil | apply Take.cons (by repeat (first | exact Del.here | apply Del.there)))) (fun _ => PR.load1 rfl tsh3 Has.here (by rfl)) ?_
  refine Dh.JB.pv rfl ⟨_, rfl, rfl⟩ (fun _ => PR.fieldAddr rfl tfl24_0) ?_
  refine Dh.JB.rd [.blk _ _ _] rfl ⟨_, rfl, rfl⟩ (by repeat (first | exact Take.nil | apply Take.cons (by repeat (first | exact Del.here | apply Del.there)))) (fun _ => PR.load1 rfl tsh22 Has.here (by rfl)) ?_
  refine Dh.JB.pv rfl ⟨_, rfl, rfl⟩ (fun _ => PR.len rfl tsl22) ?_
  refine Dh.JB.pv rfl ⟨_, rfl, rfl⟩ (fun _ => PR.eql true rfl rfl (by decide +kernel)) ?_
  refine Dh.JB.pv rfl trivial (fun _ => PR.pickT rfl rfl) ?_
  refine Dh.JB.pv rfl trivial (fun _ => PR.move rfl) ?_
  refine Dh.JB.pv rfl ⟨_, rfl, rfl⟩ (fun _ => PR.fieldAddr rfl tfl24_1) ?_
  refine Dh.JB.rd [.blk _ _ _] rfl ⟨_, rfl, rfl⟩ (by repeat (first | exact Take.nil | apply Take.cons (by repeat (first | exact Del.here | apply Del.there)))) (fun _ => PR.load1 rfl tsh3 Has.here (by rfl)) ?_
  refine Dh.JB.rd [.blk _ _ _] rfl ⟨_, rfl, rfl⟩ (by repeat (first | exact Take.nil | apply Take.cons (by repeat (first | exact Del.here | apply Del.there)))) (fun _ => PR.loadW rfl tsh43 Has.here (by rfl)) ?_
  refine Dh.JB.buildSlice rfl ⟨_, rfl, rfl⟩ (by rfl) tsl25 tzr25_1 (by rfl) (by rfl) ?_
  refine Dh.JB.nil ?_
  refine Dh.JL.sl rfl (by repeat (first | exact Dh.es_here | apply Dh.es_there)) (fun b99 => ?_)
  refine Dh.JL.nil ?_
  refine Dh.JE.mk rfl (fun _ h => by cases h) (fun C10_44 => ?_)
  refine Jl.seal (by repeat (first | exact Del.here | apply Del.there)) ?_
  refine Jl.on rfl rfl ?_
  refine Jl.call (long_ct' (some ⟨b99, 0, none⟩) 1 zs1 mm (by decide) (by decide)) en20 (by rfl) (by repeat (first | exact Take.nil | apply Take.cons (by repeat (first | exact Del.here | apply Del.there)))) (by repeat (first | exact trivial | refine And.intro (by repeat (first | exact Mem.here | apply Mem.there)) ?_)) ?_
  rintro ⟨⟩
  refine Jl.nil ?_
  refine Dh.Jq.segV (by repeat (first | exact Dh.FExt.refl | apply Dh.FExt.cons | apply Dh.FExt.app)) ?_ (by repeat (first | exact Dh.KeepL.nil | apply Dh.KeepL.anc (by rfl) | apply Dh.KeepL.keep (by repeat (first | exact Take.nil | apply Take.cons (by repeat (first | exact Del.here | apply Del.there))))))
  refine Dh.JH.cons ?_
  refine Dh.JB.pv rfl ⟨_, rfl, rfl⟩ (fun _ => PR.eql true rfl rfl (by decide +kernel)) ?_
  refine Dh.JB.pv rfl trivial (fun _ => PR.pickT rfl rfl) ?_
  refine Dh.JB.pv rfl trivial (fun _ => PR.move rfl) ?_
  refine Dh.JB.pv rfl ⟨_, rfl, rfl⟩ (fun _ => PR.move rfl) ?_
  refine Dh.JB.pv rfl ⟨_, rfl, rfl⟩ (fun _ => PR.eql true rfl rfl (by decide +kernel)) ?_
  refine Dh.JB.pv rfl trivial (fun _ => PR.pickT rfl rfl) ?_
  refine Dh.JB.pv rfl trivial (fun _ => PR.move rfl) ?_
  refine Dh.JB.pv rfl ⟨_, rfl, rfl⟩ (fun _ => PR.build (by rfl) tze43 tpl43_ (by rfl)) ?_
  refine Dh.JB.buildSlice rfl ⟨_, rfl, rfl⟩ (by rfl) tsl25 tzr25_1 (by rfl) (by rfl) ?_
  refine Dh.JB.nil ?_
  refine Dh.JL.sl rfl (by repeat (first | exact Dh.es_here | apply Dh.es_there)) (fun b109 => ?_)
  refine Dh.JL.nil ?_
  refine Dh.JE.mk rfl (fun _ h => by cases h) (fun C10_54 => ?_)
  refine Jl.seal (by repeat (first | exact Del.here | apply Del.there)) ?_
  refine Jl.on rfl rfl ?_
  refine Jl.call (long_ct' (some ⟨b109, 0, none⟩) 1 zs0 mm (by decide) (by decide)) en20 (by rfl) (by repeat (first | exact Take.nil | apply Take.cons (by repeat (first | exact Del.here | apply Del.there)))) (by repeat (first | exact trivial | refine And.intro (by repeat (first | exact Mem.here | apply Mem.there)) ?_)) ?_
  rintro ⟨⟩
  refine Jl.nil ?_
  refine Dh.Jq.segV (by repeat (first | exact Dh.FExt.refl | apply Dh.FExt.cons | apply Dh.FExt.app)) ?_ (by repeat (first | exact Dh.KeepL.nil | apply Dh.KeepL.anc (by rfl) | apply Dh.KeepL.keep (by repeat (first | exact Take.nil | apply Take.cons (by repeat (first | exact Del.here | apply Del.there))))))
  refine Dh.JH.nil ?_
  refine Dh.JB.pv rfl ⟨_, rfl, rfl⟩ (fun _ => PR.eql true rfl rfl (by decide +kernel)) ?_
  refine Dh.JB.pv rfl trivial (fun _ => PR.pickT rfl rfl) ?_
  refine Dh.JB.pv rfl trivial (fun _ => PR.assign rfl) ?_
  refine Dh.JB.nil ?_
  refine Dh.JL.nil ?_
  refine Jq.thenN ?_
  refine Jc.ret ?_
  exact Jq.fin () (.inl rfl) rfl (RetVs.tmp rfl RetVs.nil) rfl (by repeat (first | exact Take.nil | apply Take.cons (by repeat (first | exact Del.here | apply Del.there)))) (by repeat (first | exact trivial | refine And.intro (by repeat (first | exact Mem.here | apply Mem.there)) ?_))
theorem take_len_take {α : Type} (l : List α) (n : Nat) : l.take (l.take n).length = l.take n := by
  rw [List.length_take]
  rcases Nat.le_total n l.length with h | h
  · rw [Nat.min_eq_left h]
  · rw [Nat.min_eq_right h, List.take_of_length_le (Nat.le_refl _), List.take_of_length_le h]
theorem openD_ok (d : Dk) : (openD d).ok := by
  have h1 := d.own_fit
  have h2 := logU_le d.own.b
  have h3 : (openD d).b.length = logU d.own.b := by simp only [openD, List.length_take]; omega
  refine ⟨?_, ?_, ?_, ?_⟩
  · rw [h3]; simp only [openD]; omega
  · simp only [openD]; omega
  · rw [h3]; simp only [openD]; omega
  · simp only [openD]; omega
theorem openD_own (d : Dk) : (openD d).own = openD d := Dk.ok_own (openD_ok d)
theorem openD_len (d : Dk) : (openD d).b.length = logU d.own.b := by
  have h2 := logU_le d.own.b
  simp only [openD, List.length_take]; omega
theorem openD_log (d : Dk) : logN (openD d).b = logN d.own.b ∧ logU (openD d).b = logU d.own.b := log_again d.own.b
theorem openD_open (d : Dk) : openD (openD d) = openD d := by
  have h1 : openD (openD d) = ⟨(openD d).b.take (logU (openD d).b), (logU (openD d).b : Nat), (openD d).r⟩ := by
    conv => lhs; rw [openD, openD_own]
  rw [h1, (openD_log d).2, List.take_of_length_le (by rw [openD_len]; exact Nat.le_refl _)]
  rfl
theorem openD_pre (d : Dk) : (openD d).b = d.b.take (openD d).b.length := by
  have h : (openD d).b = d.b.take (min (logU d.own.b) d.room.toNat) := by
    show (d.b.take d.room.toNat).take (logU d.own.b) = _
    rw [List.take_take]
  rw [h, take_len_take]
theorem openD_le (d : Dk) : (openD d).b.length ≤ d.b.length := by
  have h1 := d.own_len
  have h2 := logU_le d.own.b
  rw [openD_len]; omega
theorem scanN_log (b : List UInt8) : (scanN b).length = (logN b).length := by simp [logN]
theorem RcsOf.n {b : List UInt8} (x : RcsOf (logN b)) : x.1.length = (scanN b).length := by rw [x.len, scanN_log]
theorem RcsOf.small {b : List UInt8} (x : RcsOf (logN b)) : ∀ z ∈ x.1, z.2.l.length ≤ 1000000 := fun z hz => by
  have h1 := log_ok b z.2 (by rw [← x.2]; exact List.mem_map.2 ⟨z, hz, rfl⟩)
  have := Rc.ok_len h1
  omega
theorem RcsOf.all {b : List UInt8} (x : RcsOf (logN b)) : okAll x.1 = true := okAll_rcs.2 (by rw [x.2]; exact log_ok b)
theorem RcsOf.long {b : List UInt8} (x : RcsOf (logN b)) : longL x.1 = (logU b : Nat) := by
  rw [longL, if_pos x.all, x.2, ← logU_eq]
theorem long_at {L : Option Addr} {cL n : Nat} {v : Int} (zs : Rcs) (mm : Nat → AdC) (h : zs.length = n) (hn : n ≤ 1000) (hl : ∀ z ∈ zs, z.2.l.length ≤ 1000000) (hv : longL zs = v) :
    Ct Tryd.prog 20 [.slice L n cL] [] [.rd L (rcsV zs), .rcs zs, .many mm] (fun _ : Unit => .int .i64 v) (fun _ => []) (fun _ => []) := by
  subst h hv; exact long_ct' L cL zs mm hn hl
theorem lgGreat0_no {d : Dk} (h : lgGreat d [] = false) : d.b.length ≤ 1500 := (lgGreat_no h).1
theorem logOpen_ct (d : Dk) (x : AdC) (mm : Nat → AdC) (hc : d.b.length ≤ x.2) : Ct Tryd.prog 5 [d.v x] [] [.rd x.1 (u8s d.b), .many mm] (fun _ : Unit => .bool true) (fun _ => []) (fun _ => []) := by
  obtain ⟨A, c⟩ := x
  have hc' : d.b.length ≤ c := hc
  by_cases hgr : lgGreat d [] = true
  · skip
    refine Ct.of _ Tryd.func5 Tryd.ntmps5 rfl rfl (fun X W => ?_)
    refine Jc.fact0 (.rd none (rcsV [])) (fun X W => Fact.rd_nil none X W) ?_
    refine Jc.seq ?_
    refine Jc.region ?_
    refine Jl.box rfl (by rfl) ?_
    intro b1
    refine Jl.pv (PR.assign rfl) ?_
    refine Jl.nil ?_
    refine Jq.thenN ?_
    refine Jc.seq ?_
    refine Jc.seq ?_
    refine Jc.region ?_
    refine Jl.pv (PR.loadW rfl tsh24 (by repeat (first | exact Has.here | apply Has.there)) (by rfl)) ?_
    refine Jl.call (lgreat_ct d (A, c) none 0 []) en8 (by rfl) (by repeat (first | exact Take.nil | apply Take.cons (by repeat (first | exact Del.here | apply Del.there)))) (by repeat (first | exact trivial | refine And.intro (by repeat (first | exact Mem.here | apply Mem.there)) ?_)) ?_
    rintro ⟨⟩
    refine Jl.as (.bool true) (congrArg Value.bool hgr) ?_
    refine Jl.nil ?_
    refine Jq.thenN ?_
    refine Jc.condT rfl ?_
    refine Jc.seq ?_
    refine Jc.region ?_
    refine Jl.call (lgwakes_ct mm) en9 (by rfl) (by repeat (first | exact Take.nil | apply Take.cons (by repeat (first | exact Del.here | apply Del.there)))) (by repeat (first | exact trivial | refine And.intro (by repeat (first | exact Mem.here | apply Mem.there)) ?_)) ?_
    rintro ⟨⟩
    refine Jl.pv (PR.assign rfl) ?_
    refine Jl.nil ?_
    refine Jq.thenN ?_
    refine Jc.ret ?_
    refine Jq.thenR ?_
    exact Jq.fin () (.inl rfl) rfl (RetVs.tmp rfl RetVs.nil) rfl (by repeat (first | exact Take.nil | apply Take.cons (by repeat (first | exact Del.here | apply Del.there)))) (by repeat (first | exact trivial | refine And.intro (by repeat (first | exact Mem.here | apply Mem.there)) ?_))
    -- hint not used: one
  have hd := lgGreat0_no (d := d) (by simpa using hgr)
  have hol := openD_len d
  have hop := openD_le d
  refine Ct.of _ Tryd.func5 Tryd.ntmps5 rfl rfl (fun X W => ?_)
  refine Jc.fact0 (.rd none (rcsV [])) (fun X W => Fact.rd_nil none X W) ?_
  refine Jc.seq ?_
  refine Jc.region ?_
  refine Jl.box rfl (by rfl) ?_
  intro b1
  refine Jl.pv (PR.assign rfl) ?_
  refine Jl.nil ?_
  refine Jq.thenN ?_
  refine Jc.seq ?_
  refine Jc.seq ?_
  refine Jc.region ?_
  refine Jl.pv (PR.loadW rfl tsh24 (by repeat (first | exact Has.here | apply Has.there)) (by rfl)) ?_
  refine Jl.call (lgreat_ct d (A, c) none 0 []) en8 (by rfl) (by repeat (first | exact Take.nil | apply Take.cons (by repeat (first | exact Del.here | apply Del.there)))) (by repeat (first | exact trivial | refine And.intro (by repeat (first | exact Mem.here | apply Mem.there)) ?_)) ?_
  rintro ⟨⟩
  refine Jl.as (.bool false) (congrArg Value.bool (by simpa using hgr)) ?_
  refine Jl.nil ?_
  refine Jq.thenN ?_
  refine Jc.condF rfl ?_
  refine Jc.skip ?_
  refine Jq.thenN ?_
  refine Jc.seq ?_
  refine Jc.region ?_
  refine Jl.pv (PR.loadW rfl tsh24 (by repeat (first | exact Has.here | apply Has.there)) (by rfl)) ?_
  refine Jl.call (open_ct d (A, c) mm (by omega) hc) en14 (by rfl) (by repeat (first | exact Take.nil | apply Take.cons (by repeat (first | exact Del.here | apply Del.there)))) (by repeat (first | exact trivial | refine And.intro (by repeat (first | exact Mem.here | apply Mem.there)) ?_)) ?_
  rintro ⟨⟨⟨A14, c14⟩, h14⟩, zs14, ⟨B14, d14⟩⟩
  refine Jl.sealR (by repeat (first | exact Del.here | apply Del.there)) ?_
  refine Jl.pv (PR.move rfl) ?_
  refine Jl.pv (PR.extract rfl (by rfl)) ?_
  refine Jl.pv (PR.extract rfl (by rfl)) ?_
  refine Jl.alloc tze24 ?_
  intro b3
  refine Jl.storeW rfl tsh24 rfl (by rfl) (by simp [Value.oneCell', Dk.cs, Rc.cs]) (by repeat (first | exact Swap.here | apply Swap.there)) (by rfl) ?_
  refine Jl.pv (PR.assign rfl) ?_
  refine Jl.nil ?_
  refine Jq.thenN ?_
  refine Jc.seq ?_
  refine Jc.region ?_
  refine Jl.pv (PR.loadW rfl tsh24 (by repeat (first | exact Has.here | apply Has.there)) (by rfl)) ?_
  refine Jl.call (open_ct (openD d) (A14, c14) mm (by omega) h14) en14 (by rfl) (by repeat (first | exact Take.nil | apply Take.cons (by repeat (first | exact Del.here | apply Del.there)))) (by repeat (first | exact trivial | refine And.intro (by repeat (first | exact Mem.here | apply Mem.there)) ?_)) ?_
  rintro ⟨⟨⟨A19, c19⟩, h19⟩, zs19, ⟨B19, d19⟩⟩
  refine Jl.sealR (by repeat (first | exact Del.here | apply Del.there)) ?_
  refine Jl.pv (PR.move rfl) ?_
  refine Jl.pv (PR.extract rfl (by rfl)) ?_
  refine Jl.pv (PR.extract rfl (by rfl)) ?_
  refine Jl.alloc tze24 ?_
  intro b5
  refine Jl.storeW rfl tsh24 rfl (by rfl) (by simp [Value.oneCell', Dk.cs, Rc.cs]) (by repeat (first | exact Swap.here | apply Swap.there)) (by rfl) ?_
  refine Jl.pv (PR.assign rfl) ?_
  refine Jl.nil ?_
  refine Jq.thenN ?_
  refine Jc.seq ?_
  refine Jc.region ?_
  refine Jl.pv (PR.fieldAddr rfl tfl24_0) ?_
  refine Jl.pv (PR.load1 rfl tsh22 (by repeat (first | exact Has.here | apply Has.there)) (by rfl)) ?_
  refine Jl.call (scan_ct A14 c14 (openD d).b mm (by omega) h14) en10 (by rfl) (by repeat (first | exact Take.nil | apply Take.cons (by repeat (first | exact Del.here | apply Del.there)))) (by repeat (first | exact trivial | refine And.intro (by repeat (first | exact Mem.here | apply Mem.there)) ?_)) ?_
  rintro ⟨zs25, ⟨A25, c25⟩⟩
  refine Jl.pv (PR.move rfl) ?_
  refine Jl.pv (PR.extract rfl (by rfl)) ?_
  refine Jl.pv (PR.extract rfl (by rfl)) ?_
  refine Jl.pv (PR.assign rfl) ?_
  refine Jl.pv (PR.assign rfl) ?_
  refine Jl.nil ?_
  refine Jq.thenN ?_
  refine Jc.seq ?_
  refine Jc.drawn [0, 0, 3, 7, 15, 15, 63, 127, 255, 511, 511, 1535, 3583, 8191, 16383, 32767, 65535, 131071, 65535, 524287, 1048575, 2097151, 4194303, 8388607, 4194303, 33554431, 67108863, 134217727, 268435455, 536870911, 1073741823, 268435455, 2415919103, 6710886399, 17179869183, 34359738367, 68719476735, 137438953471, 274877906943, 549755813887, 137438953471, 1236950581247, 137438953471, 4535485464575, 13331578486783, 34222299414527, 69406671503359, 140737488355327, 281474976710655, 562949953421311, 1125899906842623, 2251799813685247, 4503599627370495] ([(51, false), (52, false)], []) [⟨[(0, false), (1, false)], [], 2⟩, ⟨[(3, false), (4, false), (5, false)], [], 6⟩, ⟨[(7, false), (8, false), (9, false), (10, false), (11, false), (12, false), (13, false), (14, false), (15, false), (16, false), (17, false), (18, false), (19, false), (20, false), (21, false), (22, false), (24, false)], [], 23⟩, ⟨[(25, false), (26, false), (27, false), (28, false), (29, false), (30, false), (31, false), (32, false), (33, false), (34, false), (35, false), (36, false), (37, false), (38, false), (39, false), (40, false), (41, false), (42, false), (43, false), (44, false), (45, false), (46, false), (47, false), (48, false), (49, false)], [], 50⟩] tmx (by kernel_rfl) ?_
  refine Dh.JH.cons ?_
  refine Dh.JB.rd [.blk _ _ _] rfl trivial (by repeat (first | exact Take.nil | apply Take.cons (by repeat (first | exact Del.here | apply Del.there)))) (fun _ => PR.loadW rfl tsh24 Has.here (by rfl)) ?_
  refine Dh.JB.rd [.blk _ _ _] rfl trivial (by repeat (first | exact Take.nil | apply Take.cons (by repeat (first | exact Del.here | apply Del.there)))) (fun _ => PR.loadW rfl tsh24 Has.here (by rfl)) ?_
  refine Dh.JB.nil ?_
  refine Dh.JL.nil ?_
  refine Dh.JE.mk rfl (fun _ h => by cases h) (fun C6_2 => ?_)
  refine Jl.call (rsame_ct A14 A19 c14 c19 (openD d) (openD (openD d)) (by omega) (by rw [openD_open]; omega) h14 h19) en17 (by rfl) (by repeat (first | exact Take.nil | apply Take.cons (by repeat (first | exact Del.here | apply Del.there)))) (by repeat (first | exact trivial | refine And.intro (by repeat (first | exact Mem.here | apply Mem.there)) ?_)) ?_
  rintro ⟨⟩
  refine Jl.as (.bool true) (congrArg Value.bool (by rw [openD_open]; simp)) ?_
  refine Jl.nil ?_
  refine Dh.Jq.segV (by repeat (first | exact Dh.FExt.refl | apply Dh.FExt.cons | apply Dh.FExt.app)) ?_ (by repeat (first | exact Dh.KeepL.nil | apply Dh.KeepL.anc (by rfl) | apply Dh.KeepL.keep (by repeat (first | exact Take.nil | apply Take.cons (by repeat (first | exact Del.here | apply Del.there))))))
  refine Dh.JH.cons ?_
  refine Dh.JB.pv rfl trivial (fun _ => PR.move rfl) ?_
  refine Dh.JB.pv rfl ⟨_, rfl, rfl⟩ (fun _ => PR.move rfl) ?_
  refine Dh.JB.pv rfl ⟨_, rfl, rfl⟩ (fun _ => PR.move rfl) ?_
  refine Dh.JB.nil ?_
  refine Dh.JL.nil ?_
  refine Dh.JE.mk rfl (fun _ h => by cases h) (fun C6_6 => ?_)
  refine Jl.on rfl rfl ?_
  refine Jl.call (lsame_eq zs14.1 zs19.1 zs14.n zs19.n (by have := scanN_len d.own.b; have := d.own_len; omega) zs14.small (by rw [zs14.2, zs19.2, openD_own, (openD_log d).1])) en16 (by rfl) (by repeat (first | exact Take.nil | apply Take.cons (by repeat (first | exact Del.here | apply Del.there)))) (by repeat (first | exact trivial | refine And.intro (by repeat (first | exact Mem.here | apply Mem.there)) ?_)) ?_
  rintro ⟨⟩
  refine Jl.as (.bool true) (congrArg Value.bool rfl) ?_
  refine Jl.nil ?_
  refine Dh.Jq.segV (by repeat (first | exact Dh.FExt.refl | apply Dh.FExt.cons | apply Dh.FExt.app)) ?_ (by repeat (first | exact Dh.KeepL.nil | apply Dh.KeepL.anc (by rfl) | apply Dh.KeepL.keep (by repeat (first | exact Take.nil | apply Take.cons (by repeat (first | exact Del.here | apply Del.there))))))
  refine Dh.JH.cons ?_
  refine Dh.JB.pv rfl trivial (fun _ => PR.pickT rfl rfl) ?_
  refine Dh.JB.pv rfl trivial (fun _ => PR.move rfl) ?_
  refine Dh.JB.pv rfl ⟨_, rfl, rfl⟩ (fun _ => PR.move rfl) ?_
  refine Dh.JB.pv rfl ⟨_, rfl, rfl⟩ (fun _ => PR.fieldAddr rfl tfl24_0) ?_
  refine Dh.JB.rd [.blk _ _ _] rfl ⟨_, rfl, rfl⟩ (by repeat (first | exact Take.nil | apply Take.cons (by repeat (first | exact Del.here | apply Del.there)))) (fun _ => PR.load1 rfl tsh22 Has.here (by rfl)) ?_
  refine Dh.JB.pv rfl ⟨_, rfl, rfl⟩ (fun _ => PR.len rfl tsl22) ?_
  refine Dh.JB.pv rfl ⟨_, rfl, rfl⟩ (fun _ => PR.eql true rfl rfl (decide_eq_true (by rw [(openD_log d).2, hol]))) ?_
  refine Dh.JB.pv rfl trivial (fun _ => PR.pickT rfl rfl) ?_
  refine Dh.JB.pv rfl trivial (fun _ => PR.move rfl) ?_
  refine Dh.JB.pv rfl ⟨_, rfl, rfl⟩ (fun _ => PR.fieldAddr rfl tfl24_1) ?_
  refine Dh.JB.rd [.blk _ _ _] rfl ⟨_, rfl, rfl⟩ (by repeat (first | exact Take.nil | apply Take.cons (by repeat (first | exact Del.here | apply Del.there)))) (fun _ => PR.load1 rfl tsh3 Has.here (by rfl)) ?_
  refine Dh.JB.pv rfl ⟨_, rfl, rfl⟩ (fun _ => PR.move rfl) ?_
  refine Dh.JB.pv rfl ⟨_, rfl, rfl⟩ (fun _ => PR.eql true rfl rfl (decide_eq_true (by rw [(openD_log d).2]; rfl))) ?_
  refine Dh.JB.pv rfl trivial (fun _ => PR.pickT rfl rfl) ?_
  refine Dh.JB.pv rfl trivial (fun _ => PR.move rfl) ?_
  refine Dh.JB.pv rfl ⟨_, rfl, rfl⟩ (fun _ => PR.move rfl) ?_
  refine Dh.JB.pv rfl ⟨_, rfl, rfl⟩ (fun _ => PR.move rfl) ?_
  refine Dh.JB.nil ?_
  refine Dh.JL.nil ?_
  refine Dh.JE.mk rfl (fun _ h => by cases h) (fun C6_23 => ?_)
  refine Jl.on rfl rfl ?_
  refine Jl.call (long_at zs14.1 mm zs14.n (by have := scanN_len d.own.b; have := d.own_len; omega) zs14.small zs14.long) en20 (by rfl) (by repeat (first | exact Take.nil | apply Take.cons (by repeat (first | exact Del.here | apply Del.there)))) (by repeat (first | exact trivial | refine And.intro (by repeat (first | exact Mem.here | apply Mem.there)) ?_)) ?_
  rintro ⟨⟩
  refine Jl.nil ?_
  refine Dh.Jq.segV (by repeat (first | exact Dh.FExt.refl | apply Dh.FExt.cons | apply Dh.FExt.app)) ?_ (by repeat (first | exact Dh.KeepL.nil | apply Dh.KeepL.anc (by rfl) | apply Dh.KeepL.keep (by repeat (first | exact Take.nil | apply Take.cons (by repeat (first | exact Del.here | apply Del.there))))))
  refine Dh.JH.cons ?_
  refine Dh.JB.pv rfl ⟨_, rfl, rfl⟩ (fun _ => PR.eql true rfl rfl (decide_eq_true (by rw [(openD_log d).2]))) ?_
  refine Dh.JB.pv rfl trivial (fun _ => PR.pickT rfl rfl) ?_
  refine Dh.JB.pv rfl trivial (fun _ => PR.move rfl) ?_
  refine Dh.JB.pv rfl ⟨_, rfl, rfl⟩ (fun _ => PR.fieldAddr rfl tfl24_0) ?_
  refine Dh.JB.rd [.blk _ _ _] rfl ⟨_, rfl, rfl⟩ (by repeat (first | exact Take.nil | apply Take.cons (by repeat (first | exact Del.here | apply Del.there)))) (fun _ => PR.load1 rfl tsh22 Has.here (by rfl)) ?_
  refine Dh.JB.pv rfl ⟨_, rfl, rfl⟩ (fun _ => PR.len rfl tsl22) ?_
  refine Dh.JB.pv rfl ⟨_, rfl, rfl⟩ (fun _ => PR.fieldAddr rfl tfl24_0) ?_
  refine Dh.JB.rd [.blk _ _ _] rfl ⟨_, rfl, rfl⟩ (by repeat (first | exact Take.nil | apply Take.cons (by repeat (first | exact Del.here | apply Del.there)))) (fun _ => PR.load1 rfl tsh22 Has.here (by rfl)) ?_
  refine Dh.JB.pv rfl ⟨_, rfl, rfl⟩ (fun _ => PR.len rfl tsl22) ?_
  refine Dh.JB.pv rfl ⟨_, rfl, rfl⟩ (fun _ => PR.leq true rfl rfl (decide_eq_true (Int.ofNat_le.2 hop))) ?_
  refine Dh.JB.pv rfl trivial (fun _ => PR.pickT rfl rfl) ?_
  refine Dh.JB.pv rfl trivial (fun _ => PR.move rfl) ?_
  refine Dh.JB.pv rfl ⟨_, rfl, rfl⟩ (fun _ => PR.fieldAddr rfl tfl24_0) ?_
  refine Dh.JB.rd [.blk _ _ _] rfl ⟨_, rfl, rfl⟩ (by repeat (first | exact Take.nil | apply Take.cons (by repeat (first | exact Del.here | apply Del.there)))) (fun _ => PR.load1 rfl tsh22 Has.here (by rfl)) ?_
  refine Dh.JB.pv rfl ⟨_, rfl, rfl⟩ (fun _ => PR.str rfl Tryd.underlying22 Tryd.underlying5 Tryd.underlying9 (by repeat (first | exact Mem.here | apply Mem.there)) rfl) ?_
  refine Dh.JB.pv rfl ⟨_, rfl, rfl⟩ (fun _ => PR.fieldAddr rfl tfl24_0) ?_
  refine Dh.JB.rd [.blk _ _ _] rfl ⟨_, rfl, rfl⟩ (by repeat (first | exact Take.nil | apply Take.cons (by repeat (first | exact Del.here | apply Del.there)))) (fun _ => PR.load1 rfl tsh22 Has.here (by rfl)) ?_
  refine Dh.JB.pv rfl ⟨_, rfl, rfl⟩ (fun _ => PR.fieldAddr rfl tfl24_0) ?_
  refine Dh.JB.rd [.blk _ _ _] rfl ⟨_, rfl, rfl⟩ (by repeat (first | exact Take.nil | apply Take.cons (by repeat (first | exact Del.here | apply Del.there)))) (fun _ => PR.load1 rfl tsh22 Has.here (by rfl)) ?_
  refine Dh.JB.pv rfl ⟨_, rfl, rfl⟩ (fun _ => PR.len rfl tsl22) ?_
  refine Dh.JB.slice 0 (openD d).b.length (d.b.take (openD d).b.length).length (u8s (d.b.take (openD d).b.length)) rfl ⟨_, rfl, rfl⟩ rfl tsl22 rfl rfl (by repeat (first | exact Mem.here | apply Mem.there)) (by omega) hop hc' (by rw [List.length_take]; omega) (by simp only [Nat.mul_one, Nat.zero_mul, List.drop_zero, u8s, ← List.map_take, take_len_take]) ?_
  intro A73 c73 hc73
  clear hc73
  refine Dh.JB.pv rfl ⟨_, rfl, rfl⟩ (fun _ => PR.str rfl Tryd.underlying22 Tryd.underlying5 Tryd.underlying9 (by repeat (first | exact Mem.here | apply Mem.there)) rfl) ?_
  refine Dh.JB.pv rfl ⟨_, rfl, rfl⟩ (fun _ => PR.seql true rfl rfl (decide_eq_true (openD_pre d))) ?_
  refine Dh.JB.pv rfl trivial (fun _ => PR.pickT rfl rfl) ?_
  refine Dh.JB.pv rfl trivial (fun _ => PR.move rfl) ?_
  refine Dh.JB.nil ?_
  refine Dh.JL.nil ?_
  refine Dh.JE.mk rfl (fun _ h => by cases h) (fun C6_50 => ?_)
  refine Jl.on rfl rfl ?_
  refine Jl.call (lgwakes_ct mm) en9 (by rfl) (by repeat (first | exact Take.nil | apply Take.cons (by repeat (first | exact Del.here | apply Del.there)))) (by repeat (first | exact trivial | refine And.intro (by repeat (first | exact Mem.here | apply Mem.there)) ?_)) ?_
  rintro ⟨⟩
  refine Jl.as (.bool true) (congrArg Value.bool rfl) ?_
  refine Jl.nil ?_
  refine Dh.Jq.segV (by repeat (first | exact Dh.FExt.refl | apply Dh.FExt.cons | apply Dh.FExt.app)) ?_ (by repeat (first | exact Dh.KeepL.nil | apply Dh.KeepL.anc (by rfl) | apply Dh.KeepL.keep (by repeat (first | exact Take.nil | apply Take.cons (by repeat (first | exact Del.here | apply Del.there))))))
  refine Dh.JH.nil ?_
  refine Dh.JB.pv rfl trivial (fun _ => PR.pickT rfl rfl) ?_
  refine Dh.JB.pv rfl trivial (fun _ => PR.assign rfl) ?_
  refine Dh.JB.nil ?_
  refine Dh.JL.nil ?_
  refine Jq.thenN ?_
  refine Jc.ret ?_
  exact Jq.fin () (.inl rfl) rfl (RetVs.tmp rfl RetVs.nil) rfl (by repeat (first | exact Take.nil | apply Take.cons (by repeat (first | exact Del.here | apply Del.there)))) (by repeat (first | exact trivial | refine And.intro (by repeat (first | exact Mem.here | apply Mem.there)) ?_))
end Go.Proofs.YtcohgnagffibcaaDoor
