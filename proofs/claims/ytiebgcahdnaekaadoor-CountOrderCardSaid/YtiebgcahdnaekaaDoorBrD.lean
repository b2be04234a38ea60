/-
Contracts of brains: Apply, of RecMade, RecStart, RecCancel.
-/
import Derived.Test.YtiebgcahdnaekaaDoorBrC
namespace Go.Proofs.YtiebgcahdnaekaaDoor
set_option linter.unusedVariables false
open Go.RowKit
attribute [local irreducible] Res.blk Res.row Fact.rd
theorem madeTo_of {b : Br} {i a : Nat} (id now : Int) (hi : i < b.its.length) (ha : a ≤ b.kps.length) (r : Rf) (y : Kp) (hr : r = b.rf0) (hy : y = madeK b.its[i] id now) : MadeTo b (({ b with its := eraL b.its i, rf := r } : Br).kept y a) := by
  subst hr hy
  exact .made i a id now hi ha
def Br.eraI (b : Br) (i : Nat) (r : Rf) : Br := { b with its := eraL b.its i, rf := r }
def mkH (x : It1) (ph : UInt8) (id now : Int) : Kp := ⟨id, x.tok, x.ver, x.zon, ph, now, false, false⟩
abbrev MadeR (b : Br) := { x : Br × BrA // MadeTo b x.1 }
theorem made_ct (b : Br) (z : BrA) (L : Option Addr) (cL : Nat) (tok id now : Int) (hn : b.its.length ≤ 1000000) (hm : b.kps.length ≤ 1000000) (hI : b.its.length ≤ z.2.1.2) (hK : b.kps.length ≤ z.2.2.2) : Ct Tryd.prog 33 [b.v z, .slice L 3 cL] [] (b.rd z ++ [.rd L (i64s [tok, id, now])]) (fun x : MadeR b => x.1.1.v x.1.2) (fun _ => []) (fun x => x.1.1.rd x.1.2) := by
  obtain ⟨⟨M, cM⟩, ⟨I, cI⟩, ⟨K, cK⟩⟩ := z
  have hI' : b.its.length ≤ cI := hI
  have hK' : b.kps.length ≤ cK := hK
  have hl4 := itsV_len b.its
  refine Ct.of _ Tryd.func33 Tryd.ntmps33 rfl rfl (fun X W => ?_)
  refine Jc.seq ?_
  refine Jc.region ?_
  refine Jl.box rfl (by rfl) ?_
  intro b2
  refine Jl.alloc tze30 ?_
  intro b4
  refine Jl.nil ?_
  refine Jq.thenN ?_
  refine Jc.seq ?_
  refine Jc.drawn [0, 0, 2, 6, 15, 31] ([(5, false)], []) [⟨[(0, false), (1, false), (2, false), (3, false)], [], 4⟩] tmx (by kernel_rfl) ?_
  refine Dh.JH.cons ?_
  refine Dh.JB.rd [.blk _ _ _] rfl trivial (by repeat (first | exact Take.nil | apply Take.cons (by repeat (first | exact Del.here | apply Del.there)))) (fun _ => PR.loadW rfl tsh30 Has.here (by rfl)) ?_
  refine Dh.JB.pv rfl trivial (fun _ => PR.move rfl) ?_
  refine Dh.JB.pv rfl trivial (fun _ => PR.idx1 0 rfl rfl tsl22 (by repeat (first | exact Mem.here | apply Mem.there)) rfl rfl (by decide)) ?_
  refine Dh.JB.pv rfl trivial (fun _ => PR.loadR rfl tsh3 (by repeat (first | exact Mem.here | apply Mem.there)) rfl) ?_
  refine Dh.JB.nil ?_
  refine Dh.JL.nil ?_
  refine Dh.JE.mk rfl (fun _ h => by cases h) (fun C1_4 => ?_)
  refine Jl.call (token_ct b ((M, cM), (I, cI), (K, cK)) tok (by omega)) en43 (by rfl) (by repeat (first | exact Take.nil | apply Take.cons (by repeat (first | exact Del.here | apply Del.there)))) (by repeat (first | exact trivial | refine And.intro (by repeat (first | exact Mem.here | apply Mem.there)) ?_)) ?_
  rintro ⟨i, hi⟩
  refine Jl.nil ?_
  refine Dh.Jq.segV (by repeat (first | exact Dh.FExt.refl | apply Dh.FExt.cons | apply Dh.FExt.app)) ?_ (by repeat (first | exact Dh.KeepL.nil | apply Dh.KeepL.anc (by rfl) | apply Dh.KeepL.keep (by repeat (first | exact Take.nil | apply Take.cons (by repeat (first | exact Del.here | apply Del.there))))))
  refine Dh.JH.nil ?_
  refine Dh.JB.pv rfl trivial (fun _ => PR.assign rfl) ?_
  refine Dh.JB.nil ?_
  refine Dh.JL.nil ?_
  refine Jq.thenN ?_
  refine Jc.seq ?_
  refine Jc.seq ?_
  refine Jc.drawn [0, 1, 3, 7, 15, 31, 63, 127, 255, 511, 511, 1535, 3583, 8191, 16383, 32767] ([(14, false), (15, false)], []) [⟨[(0, false), (1, false), (2, false), (3, false), (4, false), (5, false), (6, false), (7, false), (8, false), (9, false), (10, false), (11, false), (12, false)], [], 13⟩] tmx (by kernel_rfl) ?_
  refine Dh.JH.cons ?_
  refine Dh.JB.pv rfl trivial (fun _ => PR.move rfl) ?_
  refine Dh.JB.pv rfl trivial (fun _ => PR.lss _ rfl rfl rfl) ?_
  refine Dh.JB.pv rfl trivial (fun _ => PR.move rfl) ?_
  refine Dh.JB.bsplit (fun g15 => ?_) (fun g15 => ?_)
  · try replace g15 := of_decide_eq_true g15
    refine Dh.JB.off rfl ⟨_, rfl, .inr rfl⟩ ?_
    refine Dh.JB.off rfl ⟨_, rfl, .inr rfl⟩ ?_
    refine Dh.JB.off rfl ⟨_, rfl, .inr rfl⟩ ?_
    refine Dh.JB.off rfl ⟨_, rfl, .inr rfl⟩ ?_
    refine Dh.JB.pv rfl trivial (fun _ => PR.pickT rfl rfl) ?_
    refine Dh.JB.pv rfl trivial (fun _ => PR.move rfl) ?_
    refine Dh.JB.off rfl ⟨_, rfl, .inr rfl⟩ ?_
    refine Dh.JB.off rfl ⟨_, rfl, .inr rfl⟩ ?_
    refine Dh.JB.off rfl ⟨_, rfl, .inr rfl⟩ ?_
    refine Dh.JB.off rfl ⟨_, rfl, .inr rfl⟩ ?_
    refine Dh.JB.nil ?_
    refine Dh.JL.nil ?_
    refine Dh.JE.mk rfl (fun _ h => by cases h) (fun C2_13 => ?_)
    refine Jl.offS rfl rfl rfl ?_
    refine Jl.nil ?_
    refine Dh.Jq.segV (by repeat (first | exact Dh.FExt.refl | apply Dh.FExt.cons | apply Dh.FExt.app)) ?_ (by repeat (first | exact Dh.KeepL.nil | apply Dh.KeepL.anc (by rfl) | apply Dh.KeepL.keep (by repeat (first | exact Take.nil | apply Take.cons (by repeat (first | exact Del.here | apply Del.there))))))
    refine Dh.JH.nil ?_
    refine Dh.JB.off rfl ⟨_, rfl, .inr rfl⟩ ?_
    refine Dh.JB.pv rfl trivial (fun _ => PR.pickT rfl rfl) ?_
    refine Dh.JB.nil ?_
    refine Dh.JL.nil ?_
    refine Jq.thenN ?_
    refine Jc.condT rfl ?_
    refine Jc.seq ?_
    refine Jc.region ?_
    refine Jl.pv (PR.loadW rfl tsh30 (by repeat (first | exact Has.here | apply Has.there)) (by rfl)) ?_
    refine Jl.storeW rfl tsh30 rfl (by rfl) (by first | exact Br.cs_one _ _ | simp [Value.oneCell', Kp.cs, It1.cs, Br.cs]) (by repeat (first | exact Swap.here | apply Swap.there)) (by rfl) ?_
    refine Jl.nil ?_
    refine Jq.thenN ?_
    refine Jc.ret ?_
    refine Jq.thenR ?_
    exact Jq.fin ⟨(b, ((M, cM), (I, cI), (K, cK))), .same⟩ (.inl rfl) rfl (RetVs.cellA rfl (by repeat (first | exact Has.here | apply Has.there)) tsh30 (by rfl) RetVs.nil) rfl (by repeat (first | exact Take.nil | apply Take.cons (by repeat (first | exact Del.here | apply Del.there)))) (by repeat (first | exact trivial | refine And.intro (by repeat (first | exact Mem.here | apply Mem.there)) ?_))
  · try replace g15 := of_decide_eq_false g15
    refine Dh.JB.pv rfl ⟨_, rfl, rfl⟩ (fun _ => PR.move rfl) ?_
    refine Dh.JB.pv rfl ⟨_, rfl, rfl⟩ (fun _ => PR.idx1 1 rfl rfl tsl22 (by repeat (first | exact Mem.here | apply Mem.there)) rfl rfl (by decide)) ?_
    refine Dh.JB.pv rfl ⟨_, rfl, rfl⟩ (fun _ => PR.loadR rfl tsh3 (by repeat (first | exact Mem.here | apply Mem.there)) rfl) ?_
    refine Dh.JB.pv rfl ⟨_, rfl, rfl⟩ (fun _ => PR.lss _ rfl rfl rfl) ?_
    refine Dh.JB.pv rfl trivial (fun _ => PR.pickF rfl rfl) ?_
    refine Dh.JB.pv rfl trivial (fun _ => PR.move rfl) ?_
    refine Dh.JB.bsplit (fun g21 => ?_) (fun g21 => ?_)
    · try replace g21 := of_decide_eq_true g21
      refine Dh.JB.off rfl ⟨_, rfl, .inr rfl⟩ ?_
      refine Dh.JB.off rfl ⟨_, rfl, .inr rfl⟩ ?_
      refine Dh.JB.off rfl ⟨_, rfl, .inr rfl⟩ ?_
      refine Dh.JB.off rfl ⟨_, rfl, .inr rfl⟩ ?_
      refine Dh.JB.nil ?_
      refine Dh.JL.nil ?_
      refine Dh.JE.mk rfl (fun _ h => by cases h) (fun C2_13 => ?_)
      refine Jl.offS rfl rfl rfl ?_
      refine Jl.nil ?_
      refine Dh.Jq.segV (by repeat (first | exact Dh.FExt.refl | apply Dh.FExt.cons | apply Dh.FExt.app)) ?_ (by repeat (first | exact Dh.KeepL.nil | apply Dh.KeepL.anc (by rfl) | apply Dh.KeepL.keep (by repeat (first | exact Take.nil | apply Take.cons (by repeat (first | exact Del.here | apply Del.there))))))
      refine Dh.JH.nil ?_
      refine Dh.JB.off rfl ⟨_, rfl, .inr rfl⟩ ?_
      refine Dh.JB.pv rfl trivial (fun _ => PR.pickT rfl rfl) ?_
      refine Dh.JB.nil ?_
      refine Dh.JL.nil ?_
      refine Jq.thenN ?_
      refine Jc.condT rfl ?_
      refine Jc.seq ?_
      refine Jc.region ?_
      refine Jl.pv (PR.loadW rfl tsh30 (by repeat (first | exact Has.here | apply Has.there)) (by rfl)) ?_
      refine Jl.storeW rfl tsh30 rfl (by rfl) (by first | exact Br.cs_one _ _ | simp [Value.oneCell', Kp.cs, It1.cs, Br.cs]) (by repeat (first | exact Swap.here | apply Swap.there)) (by rfl) ?_
      refine Jl.nil ?_
      refine Jq.thenN ?_
      refine Jc.ret ?_
      refine Jq.thenR ?_
      exact Jq.fin ⟨(b, ((M, cM), (I, cI), (K, cK))), .same⟩ (.inl rfl) rfl (RetVs.cellA rfl (by repeat (first | exact Has.here | apply Has.there)) tsh30 (by rfl) RetVs.nil) rfl (by repeat (first | exact Take.nil | apply Take.cons (by repeat (first | exact Del.here | apply Del.there)))) (by repeat (first | exact trivial | refine And.intro (by repeat (first | exact Mem.here | apply Mem.there)) ?_))
    · try replace g21 := of_decide_eq_false g21
      refine Dh.JB.rd [.blk _ _ _] rfl ⟨_, rfl, rfl⟩ (by repeat (first | exact Take.nil | apply Take.cons (by repeat (first | exact Del.here | apply Del.there)))) (fun _ => PR.loadW rfl tsh30 Has.here (by rfl)) ?_
      refine Dh.JB.pv rfl ⟨_, rfl, rfl⟩ (fun _ => PR.move rfl) ?_
      refine Dh.JB.pv rfl ⟨_, rfl, rfl⟩ (fun _ => PR.idx1 1 rfl rfl tsl22 (by repeat (first | exact Mem.here | apply Mem.there)) rfl rfl (by decide)) ?_
      refine Dh.JB.pv rfl ⟨_, rfl, rfl⟩ (fun _ => PR.loadR rfl tsh3 (by repeat (first | exact Mem.here | apply Mem.there)) rfl) ?_
      refine Dh.JB.nil ?_
      refine Dh.JL.nil ?_
      refine Dh.JE.mk rfl (fun _ h => by cases h) (fun C2_13 => ?_)
      refine Jl.on rfl rfl ?_
      refine Jl.call (find_ct b ((M, cM), (I, cI), (K, cK)) id (by omega)) en44 (by rfl) (by repeat (first | exact Take.nil | apply Take.cons (by repeat (first | exact Del.here | apply Del.there)))) (by repeat (first | exact trivial | refine And.intro (by repeat (first | exact Mem.here | apply Mem.there)) ?_)) ?_
      rintro ⟨j, hj⟩
      refine Jl.nil ?_
      refine Dh.Jq.segV (by repeat (first | exact Dh.FExt.refl | apply Dh.FExt.cons | apply Dh.FExt.app)) ?_ (by repeat (first | exact Dh.KeepL.nil | apply Dh.KeepL.anc (by rfl) | apply Dh.KeepL.keep (by repeat (first | exact Take.nil | apply Take.cons (by repeat (first | exact Del.here | apply Del.there))))))
      refine Dh.JH.nil ?_
      refine Dh.JB.pv rfl ⟨_, rfl, rfl⟩ (fun _ => PR.geq _ rfl rfl rfl) ?_
      refine Dh.JB.pv rfl trivial (fun _ => PR.pickF rfl rfl) ?_
      refine Dh.JB.nil ?_
      refine Dh.JL.nil ?_
      refine Jq.thenN ?_
      refine Jc.cond rfl (fun h0 => ?_) (fun h0 => ?_)
      · try replace h0 := of_decide_eq_true h0
        refine Jc.seq ?_
        refine Jc.region ?_
        refine Jl.pv (PR.loadW rfl tsh30 (by repeat (first | exact Has.here | apply Has.there)) (by rfl)) ?_
        refine Jl.storeW rfl tsh30 rfl (by rfl) (by first | exact Br.cs_one _ _ | simp [Value.oneCell', Kp.cs, It1.cs, Br.cs]) (by repeat (first | exact Swap.here | apply Swap.there)) (by rfl) ?_
        refine Jl.nil ?_
        refine Jq.thenN ?_
        refine Jc.ret ?_
        refine Jq.thenR ?_
        exact Jq.fin ⟨(b, ((M, cM), (I, cI), (K, cK))), .same⟩ (.inl rfl) rfl (RetVs.cellA rfl (by repeat (first | exact Has.here | apply Has.there)) tsh30 (by rfl) RetVs.nil) rfl (by repeat (first | exact Take.nil | apply Take.cons (by repeat (first | exact Del.here | apply Del.there)))) (by repeat (first | exact trivial | refine And.intro (by repeat (first | exact Mem.here | apply Mem.there)) ?_))
      · try replace h0 := of_decide_eq_false h0
        have g15' : ¬ i < 0 := g15
        obtain ⟨k, rfl, hk⟩ : ∃ k : Nat, i = k ∧ k < b.its.length := hi.elim (fun e => by omega) (fun h => h)
        have hle := eraL_len hk
        have hlt4 : (itsV (b.its.take k)).length = k * 4 := by rw [itsV_len, List.length_take]; omega
        have hld4 : (itsV (b.its.drop (k + 1))).length = (b.its.length - (k + 1)) * 4 := by rw [itsV_len, List.length_drop]
        refine Jc.skip ?_
        refine Jq.thenN ?_
        refine Jc.seq ?_
        refine Jc.region ?_
        refine Jl.pv (PR.fieldAddr rfl tfl30_4) ?_
        refine Jl.pv (PR.load1 rfl tsh25 (by repeat (first | exact Has.here | apply Has.there)) (by rfl)) ?_
        refine Jl.pv (PR.move rfl) ?_
        refine Jl.pv (PR.idx k rfl rfl tsl25 (by repeat (first | exact Mem.here | apply Mem.there)) (itsV_len _) (by omega) rfl hk) ?_
        refine Jl.pv (PR.loadRA rfl tsh43 (by repeat (first | exact Mem.here | apply Mem.there)) (by decide) (its_at hk)) ?_
        refine Jl.alloc tze43 ?_
        intro b6
        refine Jl.storeW rfl tsh43 rfl (by rfl) (by first | exact Br.cs_one _ _ | simp [Value.oneCell', Kp.cs, It1.cs, Br.cs]) (by repeat (first | exact Swap.here | apply Swap.there)) (by rfl) ?_
        refine Jl.nil ?_
        refine Jq.thenN ?_
        refine Jc.seq ?_
        refine Jc.drawn [0, 0, 2, 0, 14, 31, 0, 64, 0, 256, 960, 2047, 4095, 8191] ([], []) [⟨[(0, true), (1, false), (2, false), (3, false), (4, false), (6, false), (7, false), (8, false), (9, false), (10, false)], [0], 5⟩, ⟨[], [], 11⟩, ⟨[(12, false)], [], 13⟩] tmx (by kernel_rfl) ?_
        refine Dh.JH.cons ?_
        refine Dh.JB.buildSlice rfl trivial (by rfl) tsl25 tzr25_0 (by rfl) (by rfl) ?_
        refine Dh.JB.pv rfl trivial (fun _ => PR.fieldAddr rfl tfl30_4) ?_
        refine Dh.JB.rd [.blk _ _ _] rfl trivial (by repeat (first | exact Take.nil | apply Take.cons (by repeat (first | exact Del.here | apply Del.there)))) (fun _ => PR.load1 rfl tsh25 Has.here (by rfl)) ?_
        refine Dh.JB.pv rfl trivial (fun _ => PR.move rfl) ?_
        refine Dh.JB.slice 0 k k (itsV (b.its.take k)) rfl trivial rfl tsl25 rfl rfl (by repeat (first | exact Mem.here | apply Mem.there)) (by omega) (by omega) hI' (by omega) (by rw [Nat.zero_mul, List.drop_zero, itsV_take]) ?_
        intro A39 c39 hc39
        clear hc39
        refine Dh.JB.pv rfl trivial (fun _ => PR.fieldAddr rfl tfl30_4) ?_
        refine Dh.JB.rd [.blk _ _ _] rfl trivial (by repeat (first | exact Take.nil | apply Take.cons (by repeat (first | exact Del.here | apply Del.there)))) (fun _ => PR.load1 rfl tsh25 Has.here (by rfl)) ?_
        refine Dh.JB.pv rfl trivial (fun _ => PR.move rfl) ?_
        refine Dh.JB.pv rfl trivial (fun _ => PR.add ((k + 1 : Nat) : Int) rfl rfl (w64 (a := ((k + 1 : Nat) : Int)) (by omega) (by omega))) ?_
        refine Dh.JB.slice (k + 1) b.its.length (b.its.length - (k + 1)) (itsV (b.its.drop (k + 1))) rfl trivial rfl tsl25 rfl rfl (by repeat (first | exact Mem.here | apply Mem.there)) (by omega) (by omega) hI' rfl (by rw [itsV_drop, List.take_of_length_le (by omega)]) ?_
        intro A45 c45 hc45
        clear hc45
        refine Dh.JB.nil ?_
        refine Dh.JL.sl rfl (by repeat (first | exact Dh.es_here | apply Dh.es_there)) (fun b35 => ?_)
        refine Dh.JL.nil ?_
        refine Dh.JE.mk rfl (fun _ h => by cases h) (fun C5_5 => ?_)
        refine Jl.toRow 4 0 (by repeat (first | exact Swap.here | apply Swap.there)) (by rfl) (by rfl) ?_
        refine Jl.append k (itsV (b.its.take k)) rfl rfl rfl tsl25 tze43 (by rfl) (by decide) tby43 (fun _ _ => (by repeat (first | exact Swap.here | apply Swap.there))) (by repeat (first | exact Mem.here | apply Mem.there)) (by omega) rfl (by omega) (its_one _) (by omega) (by decide) ?_
        intro A40 c40
        refine Jl.nil ?_
        refine Dh.Jq.segV (by repeat (first | exact Dh.FExt.refl | apply Dh.FExt.cons | apply Dh.FExt.app)) ?_ (by repeat (first | exact Dh.KeepL.nil | apply Dh.KeepL.anc (by rfl) | apply Dh.KeepL.keep (by repeat (first | exact Take.nil | apply Take.cons (by repeat (first | exact Del.here | apply Del.there))))))
        refine Dh.JH.cons ?_
        refine Dh.JB.nil ?_
        refine Dh.JL.nil ?_
        refine Dh.JE.mk rfl (fun _ h => by cases h) (fun C5_11 => ?_)
        refine Jl.append (eraL b.its k).length (itsV (eraL b.its k)) rfl rfl rfl tsl25 tze43 (by rfl) (by decide) tby43 (fun _ _ => (by repeat (first | exact Swap.here | apply Swap.there))) (by repeat (first | exact Mem.here | apply Mem.there)) (by omega) (by rw [eraL, itsV_app]) (by omega) (its_one _) (by omega) (by decide) ?_
        intro A46 c46
        refine Jl.nil ?_
        refine Dh.Jq.segV (by repeat (first | exact Dh.FExt.refl | apply Dh.FExt.cons | apply Dh.FExt.app)) ?_ (by repeat (first | exact Dh.KeepL.nil | apply Dh.KeepL.anc (by rfl) | apply Dh.KeepL.keep (by repeat (first | exact Take.nil | apply Take.cons (by repeat (first | exact Del.here | apply Del.there))))))
        refine Dh.JH.cons ?_
        refine Dh.JB.pv rfl trivial (fun _ => PR.fieldAddr rfl tfl30_4) ?_
        refine Dh.JB.nil ?_
        refine Dh.JL.nil ?_
        refine Dh.JE.mk rfl (fun _ h => by cases h) (fun C5_13 => ?_)
        refine Jl.store1 rfl tsh25 rfl (by rfl) (by repeat (first | exact Swap.here | apply Swap.there)) (by rfl) ?_
        refine Jl.nil ?_
        refine Dh.Jq.segN (by repeat (first | exact Dh.FExt.refl | apply Dh.FExt.cons | apply Dh.FExt.app)) ?_ (by repeat (first | exact Dh.KeepL.nil | apply Dh.KeepL.anc (by rfl) | apply Dh.KeepL.keep (by repeat (first | exact Take.nil | apply Take.cons (by repeat (first | exact Del.here | apply Del.there))))))
        refine Dh.JH.nil ?_
        refine Dh.JB.nil ?_
        refine Dh.JL.nil ?_
        refine Jq.thenN ?_
        refine Jc.seq ?_
        refine Jc.drawn [0, 1, 3, 0, 8, 0, 32, 0, 128, 0, 512, 1536, 4095, 0, 16383] ([], []) [⟨[(0, false), (1, false), (2, false), (3, false), (4, false), (5, false), (6, false), (7, false), (8, false), (9, false), (10, false), (11, false), (12, false), (13, true)], [13], 14⟩] tmx (by kernel_rfl) ?_
        refine Dh.JH.cons ?_
        refine Dh.JB.pv rfl trivial (fun _ => PR.move rfl) ?_
        refine Dh.JB.pv rfl trivial (fun _ => PR.idx1 1 rfl rfl tsl22 (by repeat (first | exact Mem.here | apply Mem.there)) rfl rfl (by decide)) ?_
        refine Dh.JB.pv rfl trivial (fun _ => PR.loadR rfl tsh3 (by repeat (first | exact Mem.here | apply Mem.there)) rfl) ?_
        refine Dh.JB.pv rfl trivial (fun _ => PR.fieldAddr rfl tfl43_0) ?_
        refine Dh.JB.rd [.blk _ _ _] rfl trivial (by repeat (first | exact Take.nil | apply Take.cons (by repeat (first | exact Del.here | apply Del.there)))) (fun _ => PR.load1 rfl tsh3 Has.here (by rfl)) ?_
        refine Dh.JB.pv rfl trivial (fun _ => PR.fieldAddr rfl tfl43_1) ?_
        refine Dh.JB.rd [.blk _ _ _] rfl trivial (by repeat (first | exact Take.nil | apply Take.cons (by repeat (first | exact Del.here | apply Del.there)))) (fun _ => PR.load1 rfl tsh3 Has.here (by rfl)) ?_
        refine Dh.JB.pv rfl trivial (fun _ => PR.fieldAddr rfl tfl43_2) ?_
        refine Dh.JB.rd [.blk _ _ _] rfl trivial (by repeat (first | exact Take.nil | apply Take.cons (by repeat (first | exact Del.here | apply Del.there)))) (fun _ => PR.load1 rfl tsh3 Has.here (by rfl)) ?_
        refine Dh.JB.pv rfl trivial (fun _ => PR.move rfl) ?_
        refine Dh.JB.pv rfl trivial (fun _ => PR.idx1 2 rfl rfl tsl22 (by repeat (first | exact Mem.here | apply Mem.there)) rfl rfl (by decide)) ?_
        refine Dh.JB.pv rfl trivial (fun _ => PR.loadR rfl tsh3 (by repeat (first | exact Mem.here | apply Mem.there)) rfl) ?_
        refine Dh.JB.pv rfl trivial (fun _ => PR.build (by rfl) tze38 tpl38_0_1_2_3_4_5 (by rfl)) ?_
        refine Dh.JB.alloc rfl trivial tze38 ?_
        refine Dh.JB.nil ?_
        refine Dh.JL.ptr rfl (by repeat (first | exact Dh.es_here | apply Dh.es_there)) (fun b7 => ?_)
        refine Dh.JL.nil ?_
        refine Dh.JE.mk rfl (fun _ h => by cases h) (fun C6_14 => ?_)
        refine Jl.storeW rfl tsh38 rfl (by rfl) (by first | exact Br.cs_one _ _ | simp [Value.oneCell', Kp.cs, It1.cs, Br.cs]) (by repeat (first | exact Swap.here | apply Swap.there)) (by rfl) ?_
        refine Jl.nil ?_
        refine Dh.Jq.segN (by repeat (first | exact Dh.FExt.refl | apply Dh.FExt.cons | apply Dh.FExt.app)) ?_ (by repeat (first | exact Dh.KeepL.nil | apply Dh.KeepL.anc (by rfl) | apply Dh.KeepL.keep (by repeat (first | exact Take.nil | apply Take.cons (by repeat (first | exact Del.here | apply Del.there))))))
        refine Dh.JH.nil ?_
        refine Dh.JB.nil ?_
        refine Dh.JL.nil ?_
        refine Jq.thenN ?_
        refine Jc.seq ?_
        refine Jc.seq ?_
        refine Jc.region ?_
        refine Jl.pv (PR.fieldAddr rfl tfl43_3) ?_
        refine Jl.pv (PR.load1 rfl tsh4 (by repeat (first | exact Has.here | apply Has.there)) (by rfl)) ?_
        refine Jl.nil ?_
        refine Jq.thenN ?_
        refine Jc.cond rfl (fun h1 => ?_) (fun h1 => ?_)
        · try replace h1 := of_decide_eq_true h1
          refine Jc.region ?_
          refine Jl.pv (PR.fieldAddr rfl tfl38_4) ?_
          refine Jl.store1 rfl tsh5 rfl (by rfl) (by repeat (first | exact Swap.here | apply Swap.there)) (by rfl) ?_
          refine Jl.nil ?_
          refine Jq.thenN ?_
          refine Jc.seq ?_
          refine Jc.seq ?_
          refine Jc.region ?_
          refine Jl.pv (PR.fieldAddr rfl tfl30_6) ?_
          refine Jl.pv (PR.fieldAddr rfl tfl28_0) ?_
          refine Jl.pv (PR.load1 rfl tsh5 (by repeat (first | exact Has.here | apply Has.there)) (by rfl)) ?_
          refine Jl.pv (PR.eql _ rfl rfl rfl) ?_
          refine Jl.nil ?_
          refine Jq.thenN ?_
          refine Jc.cond rfl (fun h2 => ?_) (fun h2 => ?_)
          · try replace h2 := of_decide_eq_true h2
            refine Jc.region ?_
            refine Jl.pv (PR.fieldAddr rfl tfl30_6) ?_
            refine Jl.pv (PR.fieldAddr rfl tfl28_6) ?_
            refine Jl.store1 rfl tsh3 rfl (by rfl) (by repeat (first | exact Swap.here | apply Swap.there)) (by rfl) ?_
            refine Jl.nil ?_
            refine Jq.thenN ?_
            refine Jc.seq ?_
            refine Jc.region ?_
            refine Jl.pv (PR.loadW rfl tsh30 (by repeat (first | exact Has.here | apply Has.there)) (by rfl)) ?_
            refine Jl.pv (PR.loadW rfl tsh38 (by repeat (first | exact Has.here | apply Has.there)) (by rfl)) ?_
            refine Jl.sealR (by repeat (first | exact Del.here | apply Del.there)) ?_
            refine Jl.call (keep_ct (b.eraI k { b.rf with fa := 0 }) ((M, cM), (A46, c46), (K, cK)) (mkH b.its[k] 9 id now) hm hK') en45 (by rfl) (by repeat (first | exact Take.nil | apply Take.cons (by repeat (first | exact Del.here | apply Del.there)))) (by repeat (first | exact trivial | refine And.intro (by repeat (first | exact Mem.here | apply Mem.there)) ?_)) ?_
            rintro ⟨⟨a, ha⟩, A72, c72⟩
            refine Jl.storeW rfl tsh30 rfl (by rfl) (by first | exact Br.cs_one _ _ | simp [Value.oneCell', Kp.cs, It1.cs, Br.cs]) (by repeat (first | exact Swap.here | apply Swap.there)) (by rfl) ?_
            refine Jl.nil ?_
            refine Jq.thenN ?_
            refine Jc.ret ?_
            exact Jq.fin ⟨((b.eraI k { b.rf with fa := 0 }).kept (mkH b.its[k] 9 id now) a, ((M, cM), (A46, c46), (A72, c72))), madeTo_of id now hk ha _ _ (by rw [Br.rf0, show b.act = true by simp [Br.act]; omega]; rfl) (by simp [mkH, madeK, h1])⟩ (.inl rfl) rfl (RetVs.cellA rfl (by repeat (first | exact Has.here | apply Has.there)) tsh30 (by rfl) RetVs.nil) rfl (by repeat (first | exact Take.nil | apply Take.cons (by repeat (first | exact Del.here | apply Del.there)))) (by repeat (first | exact trivial | refine And.intro (by repeat (first | exact Mem.here | apply Mem.there)) ?_))
          · try replace h2 := of_decide_eq_false h2
            refine Jc.skip ?_
            refine Jq.thenN ?_
            refine Jc.seq ?_
            refine Jc.region ?_
            refine Jl.pv (PR.loadW rfl tsh30 (by repeat (first | exact Has.here | apply Has.there)) (by rfl)) ?_
            refine Jl.pv (PR.loadW rfl tsh38 (by repeat (first | exact Has.here | apply Has.there)) (by rfl)) ?_
            refine Jl.sealR (by repeat (first | exact Del.here | apply Del.there)) ?_
            refine Jl.call (keep_ct (b.eraI k b.rf) ((M, cM), (A46, c46), (K, cK)) (mkH b.its[k] 9 id now) hm hK') en45 (by rfl) (by repeat (first | exact Take.nil | apply Take.cons (by repeat (first | exact Del.here | apply Del.there)))) (by repeat (first | exact trivial | refine And.intro (by repeat (first | exact Mem.here | apply Mem.there)) ?_)) ?_
            rintro ⟨⟨a, ha⟩, A72, c72⟩
            refine Jl.storeW rfl tsh30 rfl (by rfl) (by first | exact Br.cs_one _ _ | simp [Value.oneCell', Kp.cs, It1.cs, Br.cs]) (by repeat (first | exact Swap.here | apply Swap.there)) (by rfl) ?_
            refine Jl.nil ?_
            refine Jq.thenN ?_
            refine Jc.ret ?_
            exact Jq.fin ⟨((b.eraI k b.rf).kept (mkH b.its[k] 9 id now) a, ((M, cM), (A46, c46), (A72, c72))), madeTo_of id now hk ha _ _ (by rw [Br.rf0, show b.act = false by simp [Br.act]; omega]; rfl) (by simp [mkH, madeK, h1])⟩ (.inl rfl) rfl (RetVs.cellA rfl (by repeat (first | exact Has.here | apply Has.there)) tsh30 (by rfl) RetVs.nil) rfl (by repeat (first | exact Take.nil | apply Take.cons (by repeat (first | exact Del.here | apply Del.there)))) (by repeat (first | exact trivial | refine And.intro (by repeat (first | exact Mem.here | apply Mem.there)) ?_))
        · try replace h1 := of_decide_eq_false h1
          refine Jc.skip ?_
          refine Jq.thenN ?_
          refine Jc.seq ?_
          refine Jc.seq ?_
          refine Jc.region ?_
          refine Jl.pv (PR.fieldAddr rfl tfl30_6) ?_
          refine Jl.pv (PR.fieldAddr rfl tfl28_0) ?_
          refine Jl.pv (PR.load1 rfl tsh5 (by repeat (first | exact Has.here | apply Has.there)) (by rfl)) ?_
          refine Jl.pv (PR.eql _ rfl rfl rfl) ?_
          refine Jl.nil ?_
          refine Jq.thenN ?_
          refine Jc.cond rfl (fun h3 => ?_) (fun h3 => ?_)
          · try replace h3 := of_decide_eq_true h3
            refine Jc.region ?_
            refine Jl.pv (PR.fieldAddr rfl tfl30_6) ?_
            refine Jl.pv (PR.fieldAddr rfl tfl28_6) ?_
            refine Jl.store1 rfl tsh3 rfl (by rfl) (by repeat (first | exact Swap.here | apply Swap.there)) (by rfl) ?_
            refine Jl.nil ?_
            refine Jq.thenN ?_
            refine Jc.seq ?_
            refine Jc.region ?_
            refine Jl.pv (PR.loadW rfl tsh30 (by repeat (first | exact Has.here | apply Has.there)) (by rfl)) ?_
            refine Jl.pv (PR.loadW rfl tsh38 (by repeat (first | exact Has.here | apply Has.there)) (by rfl)) ?_
            refine Jl.sealR (by repeat (first | exact Del.here | apply Del.there)) ?_
            refine Jl.call (keep_ct (b.eraI k { b.rf with fa := 0 }) ((M, cM), (A46, c46), (K, cK)) (mkH b.its[k] 1 id now) hm hK') en45 (by rfl) (by repeat (first | exact Take.nil | apply Take.cons (by repeat (first | exact Del.here | apply Del.there)))) (by repeat (first | exact trivial | refine And.intro (by repeat (first | exact Mem.here | apply Mem.there)) ?_)) ?_
            rintro ⟨⟨a, ha⟩, A72, c72⟩
            refine Jl.storeW rfl tsh30 rfl (by rfl) (by first | exact Br.cs_one _ _ | simp [Value.oneCell', Kp.cs, It1.cs, Br.cs]) (by repeat (first | exact Swap.here | apply Swap.there)) (by rfl) ?_
            refine Jl.nil ?_
            refine Jq.thenN ?_
            refine Jc.ret ?_
            exact Jq.fin ⟨((b.eraI k { b.rf with fa := 0 }).kept (mkH b.its[k] 1 id now) a, ((M, cM), (A46, c46), (A72, c72))), madeTo_of id now hk ha _ _ (by rw [Br.rf0, show b.act = true by simp [Br.act]; omega]; rfl) (by simp [mkH, madeK, h1])⟩ (.inl rfl) rfl (RetVs.cellA rfl (by repeat (first | exact Has.here | apply Has.there)) tsh30 (by rfl) RetVs.nil) rfl (by repeat (first | exact Take.nil | apply Take.cons (by repeat (first | exact Del.here | apply Del.there)))) (by repeat (first | exact trivial | refine And.intro (by repeat (first | exact Mem.here | apply Mem.there)) ?_))
          · try replace h3 := of_decide_eq_false h3
            refine Jc.skip ?_
            refine Jq.thenN ?_
            refine Jc.seq ?_
            refine Jc.region ?_
            refine Jl.pv (PR.loadW rfl tsh30 (by repeat (first | exact Has.here | apply Has.there)) (by rfl)) ?_
            refine Jl.pv (PR.loadW rfl tsh38 (by repeat (first | exact Has.here | apply Has.there)) (by rfl)) ?_
            refine Jl.sealR (by repeat (first | exact Del.here | apply Del.there)) ?_
            refine Jl.call (keep_ct (b.eraI k b.rf) ((M, cM), (A46, c46), (K, cK)) (mkH b.its[k] 1 id now) hm hK') en45 (by rfl) (by repeat (first | exact Take.nil | apply Take.cons (by repeat (first | exact Del.here | apply Del.there)))) (by repeat (first | exact trivial | refine And.intro (by repeat (first | exact Mem.here | apply Mem.there)) ?_)) ?_
            rintro ⟨⟨a, ha⟩, A72, c72⟩
            refine Jl.storeW rfl tsh30 rfl (by rfl) (by first | exact Br.cs_one _ _ | simp [Value.oneCell', Kp.cs, It1.cs, Br.cs]) (by repeat (first | exact Swap.here | apply Swap.there)) (by rfl) ?_
            refine Jl.nil ?_
            refine Jq.thenN ?_
            refine Jc.ret ?_
            exact Jq.fin ⟨((b.eraI k b.rf).kept (mkH b.its[k] 1 id now) a, ((M, cM), (A46, c46), (A72, c72))), madeTo_of id now hk ha _ _ (by rw [Br.rf0, show b.act = false by simp [Br.act]; omega]; rfl) (by simp [mkH, madeK, h1])⟩ (.inl rfl) rfl (RetVs.cellA rfl (by repeat (first | exact Has.here | apply Has.there)) tsh30 (by rfl) RetVs.nil) rfl (by repeat (first | exact Take.nil | apply Take.cons (by repeat (first | exact Del.here | apply Del.there)))) (by repeat (first | exact trivial | refine And.intro (by repeat (first | exact Mem.here | apply Mem.there)) ?_))
theorem start_ct (b : Br) (z : BrA) (L : Option Addr) (cL : Nat) (v now : Int) (hset : b.set = true) (hact : b.act = false) (hv : 1 ≤ v) : Ct Tryd.prog 35 [b.v z, .int .u8 11, .slice L 2 cL] [] [.rd L (i64s [v, now])] (fun _ : Unit => (b.start v now).v z) (fun _ => []) (fun _ => []) := by
  have hst : ¬ b.rf.st.toNat = 1 := by simpa [Br.act] using hact
  refine Ct.of _ Tryd.func35 Tryd.ntmps35 rfl rfl (fun X W => ?_)
  refine Jc.seq ?_
  refine Jc.region ?_
  refine Jl.box rfl (by rfl) ?_
  intro b3
  refine Jl.alloc tze30 ?_
  intro b6
  refine Jl.nil ?_
  refine Jq.thenN ?_
  refine Jc.seq ?_
  refine Jc.region ?_
  refine Jl.pv (PR.fieldAddr rfl tfl30_6) ?_
  refine Jl.pv (PR.fieldAddr rfl tfl28_0) ?_
  refine Jl.pv (PR.load1 rfl tsh5 (by repeat (first | exact Has.here | apply Has.there)) (by rfl)) ?_
  refine Jl.pv (PR.eql false rfl rfl (by simp; omega)) ?_
  refine Jl.pv (PR.assign rfl) ?_
  refine Jl.nil ?_
  refine Jq.thenN ?_
  refine Jc.seq ?_
  refine Jc.seq ?_
  refine Jc.region ?_
  refine Jl.pv (PR.move rfl) ?_
  refine Jl.pv (PR.eql true rfl rfl (by decide)) ?_
  refine Jl.nil ?_
  refine Jq.thenN ?_
  refine Jc.condT rfl ?_
  refine Jc.seq ?_
  refine Jc.seq ?_
  refine Jc.region ?_
  refine Jl.pv (PR.fieldAddr rfl tfl30_2) ?_
  refine Jl.pv (PR.load1 rfl tsh4 (by repeat (first | exact Has.here | apply Has.there)) (by rfl)) ?_
  refine Jl.pv (PR.move rfl) ?_
  refine Jl.bsplit (fun g16 => ?_) (fun g16 => ?_)
  · try replace g16 := of_decide_eq_true g16
    refine Jl.on rfl rfl ?_
    refine Jl.pv (PR.move rfl) ?_
    refine Jl.on rfl rfl ?_
    refine Jl.pv (PR.not rfl) ?_
    refine Jl.pv (PR.pickT rfl rfl) ?_
    refine Jl.pv (PR.move rfl) ?_
    refine Jl.on rfl rfl ?_
    refine Jl.pv (PR.move rfl) ?_
    refine Jl.on rfl rfl ?_
    refine Jl.pv (PR.idx1 0 rfl rfl tsl22 (by repeat (first | exact Mem.here | apply Mem.there)) rfl rfl (by decide)) ?_
    refine Jl.on rfl rfl ?_
    refine Jl.pv (PR.loadR rfl tsh3 (by repeat (first | exact Mem.here | apply Mem.there)) rfl) ?_
    refine Jl.on rfl rfl ?_
    refine Jl.pv (PR.geq true rfl rfl (by simpa using hv)) ?_
    refine Jl.pv (PR.pickT rfl rfl) ?_
    refine Jl.nil ?_
    refine Jq.thenN ?_
    refine Jc.condT rfl ?_
    refine Jc.drawn [0, 1, 3, 0, 8, 24, 0, 64, 192, 511, 1023, 2047] ([], []) [⟨[(0, false), (1, false), (2, false), (3, false), (4, false), (5, false), (6, false), (7, false), (8, false), (9, false), (10, false)], [], 11⟩] tmx (by kernel_rfl) ?_
    refine Dh.JH.cons ?_
    refine Dh.JB.pv rfl trivial (fun _ => PR.fieldAddr rfl tfl30_3) ?_
    refine Dh.JB.pv rfl trivial (fun _ => PR.fieldAddr rfl tfl24_12) ?_
    refine Dh.JB.rd [.blk _ _ _] rfl trivial (by repeat (first | exact Take.nil | apply Take.cons (by repeat (first | exact Del.here | apply Del.there)))) (fun _ => PR.load1 rfl tsh3 Has.here (by rfl)) ?_
    refine Dh.JB.pv rfl trivial (fun _ => PR.move rfl) ?_
    refine Dh.JB.pv rfl trivial (fun _ => PR.idx1 0 rfl rfl tsl22 (by repeat (first | exact Mem.here | apply Mem.there)) rfl rfl (by decide)) ?_
    refine Dh.JB.pv rfl trivial (fun _ => PR.loadR rfl tsh3 (by repeat (first | exact Mem.here | apply Mem.there)) rfl) ?_
    refine Dh.JB.pv rfl trivial (fun _ => PR.move rfl) ?_
    refine Dh.JB.pv rfl trivial (fun _ => PR.idx1 1 rfl rfl tsl22 (by repeat (first | exact Mem.here | apply Mem.there)) rfl rfl (by decide)) ?_
    refine Dh.JB.pv rfl trivial (fun _ => PR.loadR rfl tsh3 (by repeat (first | exact Mem.here | apply Mem.there)) rfl) ?_
    refine Dh.JB.pv rfl trivial (fun _ => PR.build (by rfl) tze28 tpl28_0_1_2_5 (by rfl)) ?_
    refine Dh.JB.pv rfl trivial (fun _ => PR.fieldAddr rfl tfl30_6) ?_
    refine Dh.JB.nil ?_
    refine Dh.JL.nil ?_
    refine Dh.JE.mk rfl (fun _ h => by cases h) (fun C4_11 => ?_)
    refine Jl.storeA rfl tsh28 rfl (by rfl) (by first | exact Br.cs_one _ _ | simp [Value.oneCell', Rf.cs, Br.cs]) (by repeat (first | exact Swap.here | apply Swap.there)) (by rfl) ?_
    refine Jl.nil ?_
    refine Dh.Jq.segN (by repeat (first | exact Dh.FExt.refl | apply Dh.FExt.cons | apply Dh.FExt.app)) ?_ (by repeat (first | exact Dh.KeepL.nil | apply Dh.KeepL.anc (by rfl) | apply Dh.KeepL.keep (by repeat (first | exact Take.nil | apply Take.cons (by repeat (first | exact Del.here | apply Del.there))))))
    refine Dh.JH.nil ?_
    refine Dh.JB.nil ?_
    refine Dh.JL.nil ?_
    refine Jq.thenN ?_
    refine Jc.seq ?_
    refine Jc.region ?_
    refine Jl.pv (PR.loadW rfl tsh30 (by repeat (first | exact Has.here | apply Has.there)) (by rfl)) ?_
    refine Jl.storeW rfl tsh30 rfl (by rfl) (by first | exact Br.cs_one _ _ | simp [Value.oneCell', Rf.cs, Br.cs]) (by repeat (first | exact Swap.here | apply Swap.there)) (by rfl) ?_
    refine Jl.nil ?_
    refine Jq.thenN ?_
    refine Jc.ret ?_
    refine Jq.thenR ?_
    exact Jq.fin () (.inl rfl) rfl (RetVs.cellA rfl (by repeat (first | exact Has.here | apply Has.there)) tsh30 (by rfl) RetVs.nil) rfl (by repeat (first | exact Take.nil | apply Take.cons (by repeat (first | exact Del.here | apply Del.there)))) (by repeat (first | exact trivial | refine And.intro (by repeat (first | exact Mem.here | apply Mem.there)) ?_))
  · try replace g16 := of_decide_eq_false g16
    exact absurd (hset.symm.trans g16) (by decide)
theorem cancel_ct (b : Br) (z : BrA) (hact : b.act = true) : Ct Tryd.prog 35 [b.v z, .int .u8 12, .slice none 0 0] [] [] (fun _ : Unit => b.cancel.v z) (fun _ => []) (fun _ => []) := by
  have hst : b.rf.st.toNat = 1 := by simpa [Br.act] using hact
  refine Ct.of _ Tryd.func35 Tryd.ntmps35 rfl rfl (fun X W => ?_)
  refine Jc.seq ?_
  refine Jc.region ?_
  refine Jl.box rfl (by rfl) ?_
  intro b3
  refine Jl.alloc tze30 ?_
  intro b6
  refine Jl.nil ?_
  refine Jq.thenN ?_
  refine Jc.seq ?_
  refine Jc.region ?_
  refine Jl.pv (PR.fieldAddr rfl tfl30_6) ?_
  refine Jl.pv (PR.fieldAddr rfl tfl28_0) ?_
  refine Jl.pv (PR.load1 rfl tsh5 (by repeat (first | exact Has.here | apply Has.there)) (by rfl)) ?_
  refine Jl.pv (PR.eql true rfl rfl (by simp; omega)) ?_
  refine Jl.pv (PR.assign rfl) ?_
  refine Jl.nil ?_
  refine Jq.thenN ?_
  refine Jc.seq ?_
  refine Jc.seq ?_
  refine Jc.region ?_
  refine Jl.pv (PR.move rfl) ?_
  refine Jl.pv (PR.eql false rfl rfl (by decide)) ?_
  refine Jl.nil ?_
  refine Jq.thenN ?_
  refine Jc.condF rfl ?_
  refine Jc.skip ?_
  refine Jq.thenN ?_
  refine Jc.seq ?_
  refine Jc.seq ?_
  refine Jc.region ?_
  refine Jl.pv (PR.move rfl) ?_
  refine Jl.pv (PR.not rfl) ?_
  refine Jl.nil ?_
  refine Jq.thenN ?_
  refine Jc.condF rfl ?_
  refine Jc.skip ?_
  refine Jq.thenN ?_
  refine Jc.seq ?_
  refine Jc.seq ?_
  refine Jc.region ?_
  refine Jl.pv (PR.move rfl) ?_
  refine Jl.nil ?_
  refine Jq.thenN ?_
  refine Jc.block ?_
  refine Jc.seq ?_
  refine Jc.region ?_
  refine Jl.pv (PR.eql false rfl rfl (by decide)) ?_
  refine Jl.pv (PR.assign rfl) ?_
  refine Jl.nil ?_
  refine Jq.thenN ?_
  refine Jc.condF rfl ?_
  refine Jc.seq ?_
  refine Jc.region ?_
  refine Jl.pv (PR.eql true rfl rfl (by decide)) ?_
  refine Jl.pv (PR.assign rfl) ?_
  refine Jl.nil ?_
  refine Jq.thenN ?_
  refine Jc.condT rfl ?_
  refine Jc.seq ?_
  refine Jc.region ?_
  refine Jl.pv (PR.fieldAddr rfl tfl30_6) ?_
  refine Jl.pv (PR.fieldAddr rfl tfl28_0) ?_
  refine Jl.store1 rfl tsh5 rfl (by rfl) (by repeat (first | exact Swap.here | apply Swap.there)) (by rfl) ?_
  refine Jl.nil ?_
  refine Jq.thenN ?_
  refine Jc.region ?_
  refine Jl.pv (PR.fieldAddr rfl tfl30_6) ?_
  refine Jl.pv (PR.fieldAddr rfl tfl28_4) ?_
  refine Jl.store1 rfl tsh4 rfl (by rfl) (by repeat (first | exact Swap.here | apply Swap.there)) (by rfl) ?_
  refine Jl.nil ?_
  refine Jq.blkN ?_
  refine Jq.thenN ?_
  refine Jc.seq ?_
  refine Jc.region ?_
  refine Jl.pv (PR.loadW rfl tsh30 (by repeat (first | exact Has.here | apply Has.there)) (by rfl)) ?_
  refine Jl.storeW rfl tsh30 rfl (by rfl) (by first | exact Br.cs_one _ _ | simp [Value.oneCell', Rf.cs, Br.cs]) (by repeat (first | exact Swap.here | apply Swap.there)) (by rfl) ?_
  refine Jl.nil ?_
  refine Jq.thenN ?_
  refine Jc.ret ?_
  exact Jq.fin () (.inl rfl) rfl (RetVs.cellA rfl (by repeat (first | exact Has.here | apply Has.there)) tsh30 (by rfl) RetVs.nil) rfl (by repeat (first | exact Take.nil | apply Take.cons (by repeat (first | exact Del.here | apply Del.there)))) (by repeat (first | exact trivial | refine And.intro (by repeat (first | exact Mem.here | apply Mem.there)) ?_))
theorem applyMade_ct (b : Br) (z : BrA) (L : Option Addr) (cL : Nat) (tok id now : Int) (hn : b.its.length ≤ 1000) (hm : b.kps.length ≤ 1000) (hms : b.cf.ms.length ≤ 1000) : Ct Tryd.prog 16 [b.v z, .agg #[.int .u8 4, .slice L 3 cL]] [] (b.rd z ++ [.rd L (i64s [tok, id, now])]) (fun x : MadeR b => x.1.1.v x.1.2) (fun _ => []) (fun x => x.1.1.rd x.1.2) := by
  obtain ⟨⟨M, cM⟩, ⟨I, cI⟩, ⟨K, cK⟩⟩ := z
  by_cases hnum : numsOk [tok, id, now] = true
  · skip
    refine Ct.of _ Tryd.func16 Tryd.ntmps16 rfl rfl (fun X W => ?_)
    refine Jc.seq ?_
    refine Jc.region ?_
    refine Jl.box rfl (by rfl) ?_
    intro b2
    refine Jl.box rfl (by rfl) ?_
    intro b3
    refine Jl.alloc tze30 ?_
    intro b4
    refine Jl.nil ?_
    refine Jq.thenN ?_
    refine Jc.seq ?_
    refine Jc.region ?_
    refine Jl.pv (PR.loadW rfl tsh30 (by repeat (first | exact Has.here | apply Has.there)) (by rfl)) ?_
    refine Jl.call (brown_ct b ((M, cM), (I, cI), (K, cK)) (by omega) (by omega) (by omega)) en14 (by rfl) (by repeat (first | exact Take.nil | apply Take.cons (by repeat (first | exact Del.here | apply Del.there)))) (by repeat (first | exact trivial | refine And.intro (by repeat (first | exact Mem.here | apply Mem.there)) ?_)) ?_
    rintro ⟨⟨A1, c1⟩, ⟨A2, c2⟩, ⟨A3, c3⟩⟩
    refine Jl.sealR (by repeat (first | exact Del.here | apply Del.there)) ?_
    refine Jl.sealC (by repeat (first | exact Del.here | apply Del.there)) (fun hc2 => ?_)
    refine Jl.sealC (by repeat (first | exact Del.here | apply Del.there)) (fun hc3 => ?_)
    refine Jl.storeW rfl tsh30 rfl (by rfl) (by first | exact Br.cs_one _ _ | simp [Value.oneCell', Br.cs]) (by repeat (first | exact Swap.here | apply Swap.there)) (by rfl) ?_
    refine Jl.nil ?_
    refine Jq.thenN ?_
    refine Jc.seq ?_
    refine Jc.seq ?_
    refine Jc.region ?_
    refine Jl.pv (PR.fieldAddr rfl tfl46_1) ?_
    refine Jl.pv (PR.load1 rfl tsh22 (by repeat (first | exact Has.here | apply Has.there)) (by rfl)) ?_
    refine Jl.call (numbers_ct L cL [tok, id, now] (by simp)) en30 (by rfl) (by repeat (first | exact Take.nil | apply Take.cons (by repeat (first | exact Del.here | apply Del.there)))) (by repeat (first | exact trivial | refine And.intro (by repeat (first | exact Mem.here | apply Mem.there)) ?_)) ?_
    rintro ⟨⟩
    refine Jl.as (.bool true) (congrArg Value.bool hnum) ?_
    refine Jl.pv (PR.not rfl) ?_
    refine Jl.nil ?_
    refine Jq.thenN ?_
    refine Jc.condF rfl ?_
    refine Jc.skip ?_
    refine Jq.thenN ?_
    refine Jc.seq ?_
    refine Jc.seq ?_
    refine Jc.region ?_
    refine Jl.pv (PR.fieldAddr rfl tfl46_0) ?_
    refine Jl.pv (PR.load1 rfl tsh5 (by repeat (first | exact Has.here | apply Has.there)) (by rfl)) ?_
    refine Jl.pv (PR.eql false rfl rfl (by decide)) ?_
    refine Jl.nil ?_
    refine Jq.thenN ?_
    refine Jc.condF rfl ?_
    refine Jc.skip ?_
    refine Jq.thenN ?_
    refine Jc.seq ?_
    refine Jc.seq ?_
    refine Jc.drawn [0, 1, 3, 0, 8, 24, 63] ([(6, false)], []) [⟨[(0, false), (1, false), (3, false), (4, false), (5, false)], [], 2⟩] tmx (by kernel_rfl) ?_
    refine Dh.JH.cons ?_
    refine Dh.JB.pv rfl trivial (fun _ => PR.fieldAddr rfl tfl46_0) ?_
    refine Dh.JB.rd [.blk _ _ _] rfl trivial (by repeat (first | exact Take.nil | apply Take.cons (by repeat (first | exact Del.here | apply Del.there)))) (fun _ => PR.load1 rfl tsh5 Has.here (by rfl)) ?_
    refine Dh.JB.pv rfl trivial (fun _ => PR.fieldAddr rfl tfl46_1) ?_
    refine Dh.JB.rd [.blk _ _ _] rfl trivial (by repeat (first | exact Take.nil | apply Take.cons (by repeat (first | exact Del.here | apply Del.there)))) (fun _ => PR.load1 rfl tsh22 Has.here (by rfl)) ?_
    refine Dh.JB.pv rfl trivial (fun _ => PR.len rfl tsl22) ?_
    refine Dh.JB.nil ?_
    refine Dh.JL.nil ?_
    refine Dh.JE.mk rfl (fun _ h => by cases h) (fun C12_2 => ?_)
    refine Jl.call many4_ct en32 (by rfl) (by repeat (first | exact Take.nil | apply Take.cons (by repeat (first | exact Del.here | apply Del.there)))) (by repeat (first | exact trivial | refine And.intro (by repeat (first | exact Mem.here | apply Mem.there)) ?_)) ?_
    rintro ⟨⟩
    refine Jl.nil ?_
    refine Dh.Jq.segV (by repeat (first | exact Dh.FExt.refl | apply Dh.FExt.cons | apply Dh.FExt.app)) ?_ (by repeat (first | exact Dh.KeepL.nil | apply Dh.KeepL.anc (by rfl) | apply Dh.KeepL.keep (by repeat (first | exact Take.nil | apply Take.cons (by repeat (first | exact Del.here | apply Del.there))))))
    refine Dh.JH.nil ?_
    refine Dh.JB.pv rfl trivial (fun _ => PR.neq false rfl rfl (by decide)) ?_
    refine Dh.JB.nil ?_
    refine Dh.JL.nil ?_
    refine Jq.thenN ?_
    refine Jc.condF rfl ?_
    refine Jc.skip ?_
    refine Jq.thenN ?_
    refine Jc.seq ?_
    refine Jc.seq ?_
    refine Jc.region ?_
    refine Jl.pv (PR.fieldAddr rfl tfl46_0) ?_
    refine Jl.pv (PR.load1 rfl tsh5 (by repeat (first | exact Has.here | apply Has.there)) (by rfl)) ?_
    refine Jl.nil ?_
    refine Jq.thenN ?_
    refine Jc.block ?_
    refine Jc.seq ?_
    refine Jc.region ?_
    refine Jl.pv (PR.eql false rfl rfl (by decide)) ?_
    refine Jl.pv (PR.assign rfl) ?_
    refine Jl.nil ?_
    refine Jq.thenN ?_
    refine Jc.condF rfl ?_
    refine Jc.seq ?_
    refine Jc.region ?_
    refine Jl.pv (PR.eql false rfl rfl (by decide)) ?_
    refine Jl.pv (PR.assign rfl) ?_
    refine Jl.nil ?_
    refine Jq.thenN ?_
    refine Jc.condF rfl ?_
    refine Jc.seq ?_
    refine Jc.region ?_
    refine Jl.pv (PR.eql true rfl rfl (by decide)) ?_
    refine Jl.pv (PR.assign rfl) ?_
    refine Jl.nil ?_
    refine Jq.thenN ?_
    refine Jc.condT rfl ?_
    refine Jc.seq ?_
    refine Jc.region ?_
    refine Jl.pv (PR.loadW rfl tsh30 (by repeat (first | exact Has.here | apply Has.there)) (by rfl)) ?_
    refine Jl.pv (PR.fieldAddr rfl tfl46_1) ?_
    refine Jl.pv (PR.load1 rfl tsh22 (by repeat (first | exact Has.here | apply Has.there)) (by rfl)) ?_
    refine Jl.call (made_ct b ((A1, c1), (A2, c2), (A3, c3)) L cL tok id now (by omega) (by omega) hc2 hc3) en33 (by rfl) (by repeat (first | exact Take.nil | apply Take.cons (by repeat (first | exact Del.here | apply Del.there)))) (by repeat (first | exact trivial | refine And.intro (by repeat (first | exact Mem.here | apply Mem.there)) ?_)) ?_
    rintro ⟨⟨x, zx⟩, hx⟩
    refine Jl.storeW rfl tsh30 rfl (by rfl) (by first | exact Br.cs_one _ _ | simp [Value.oneCell', Br.cs]) (by repeat (first | exact Swap.here | apply Swap.there)) (by rfl) ?_
    refine Jl.nil ?_
    refine Jq.thenN ?_
    refine Jc.ret ?_
    refine Jq.blkR ?_
    refine Jq.thenR ?_
    exact Jq.fin ⟨(x, zx), hx⟩ (.inl rfl) rfl (RetVs.cellA rfl (by repeat (first | exact Has.here | apply Has.there)) tsh30 (by rfl) RetVs.nil) rfl (by repeat (first | exact Take.nil | apply Take.cons (by repeat (first | exact Del.here | apply Del.there)))) (by repeat (first | exact trivial | refine And.intro (by repeat (first | exact Mem.here | apply Mem.there)) ?_))
  · skip
    refine Ct.of _ Tryd.func16 Tryd.ntmps16 rfl rfl (fun X W => ?_)
    refine Jc.seq ?_
    refine Jc.region ?_
    refine Jl.box rfl (by rfl) ?_
    intro b2
    refine Jl.box rfl (by rfl) ?_
    intro b3
    refine Jl.alloc tze30 ?_
    intro b4
    refine Jl.nil ?_
    refine Jq.thenN ?_
    refine Jc.seq ?_
    refine Jc.region ?_
    refine Jl.pv (PR.loadW rfl tsh30 (by repeat (first | exact Has.here | apply Has.there)) (by rfl)) ?_
    refine Jl.call (brown_ct b ((M, cM), (I, cI), (K, cK)) (by omega) (by omega) (by omega)) en14 (by rfl) (by repeat (first | exact Take.nil | apply Take.cons (by repeat (first | exact Del.here | apply Del.there)))) (by repeat (first | exact trivial | refine And.intro (by repeat (first | exact Mem.here | apply Mem.there)) ?_)) ?_
    rintro ⟨⟨A1, c1⟩, ⟨A2, c2⟩, ⟨A3, c3⟩⟩
    refine Jl.sealR (by repeat (first | exact Del.here | apply Del.there)) ?_
    refine Jl.sealR (by repeat (first | exact Del.here | apply Del.there)) ?_
    refine Jl.sealR (by repeat (first | exact Del.here | apply Del.there)) ?_
    refine Jl.storeW rfl tsh30 rfl (by rfl) (by first | exact Br.cs_one _ _ | simp [Value.oneCell', Br.cs]) (by repeat (first | exact Swap.here | apply Swap.there)) (by rfl) ?_
    refine Jl.nil ?_
    refine Jq.thenN ?_
    refine Jc.seq ?_
    refine Jc.seq ?_
    refine Jc.region ?_
    refine Jl.pv (PR.fieldAddr rfl tfl46_1) ?_
    refine Jl.pv (PR.load1 rfl tsh22 (by repeat (first | exact Has.here | apply Has.there)) (by rfl)) ?_
    refine Jl.call (numbers_ct L cL [tok, id, now] (by simp)) en30 (by rfl) (by repeat (first | exact Take.nil | apply Take.cons (by repeat (first | exact Del.here | apply Del.there)))) (by repeat (first | exact trivial | refine And.intro (by repeat (first | exact Mem.here | apply Mem.there)) ?_)) ?_
    rintro ⟨⟩
    refine Jl.as (.bool false) (congrArg Value.bool (by simpa using hnum)) ?_
    refine Jl.pv (PR.not rfl) ?_
    refine Jl.nil ?_
    refine Jq.thenN ?_
    refine Jc.condT rfl ?_
    refine Jc.seq ?_
    refine Jc.region ?_
    refine Jl.pv (PR.loadW rfl tsh30 (by repeat (first | exact Has.here | apply Has.there)) (by rfl)) ?_
    refine Jl.storeW rfl tsh30 rfl (by rfl) (by first | exact Br.cs_one _ _ | simp [Value.oneCell', Br.cs]) (by repeat (first | exact Swap.here | apply Swap.there)) (by rfl) ?_
    refine Jl.nil ?_
    refine Jq.thenN ?_
    refine Jc.ret ?_
    refine Jq.thenR ?_
    exact Jq.fin ⟨(b, ((A1, c1), (A2, c2), (A3, c3))), .same⟩ (.inl rfl) rfl (RetVs.cellA rfl (by repeat (first | exact Has.here | apply Has.there)) tsh30 (by rfl) RetVs.nil) rfl (by repeat (first | exact Take.nil | apply Take.cons (by repeat (first | exact Del.here | apply Del.there)))) (by repeat (first | exact trivial | refine And.intro (by repeat (first | exact Mem.here | apply Mem.there)) ?_))
theorem applyStart_ct (b : Br) (z : BrA) (L : Option Addr) (cL : Nat) (v now : Int) (hn : b.its.length ≤ 1000) (hm : b.kps.length ≤ 1000) (hms : b.cf.ms.length ≤ 1000) (hset : b.set = true) (hact : b.act = false) (hv : 1 ≤ v) (hnum : numsOk [v, now] = true) :
    Ct Tryd.prog 16 [b.v z, .agg #[.int .u8 11, .slice L 2 cL]] [] (b.rd z ++ [.rd L (i64s [v, now])]) (fun x : BrA => (b.start v now).v x) (fun _ => []) (fun x => b.rd x) := by
  obtain ⟨⟨M, cM⟩, ⟨I, cI⟩, ⟨K, cK⟩⟩ := z
  refine Ct.of _ Tryd.func16 Tryd.ntmps16 rfl rfl (fun X W => ?_)
  refine Jc.seq ?_
  refine Jc.region ?_
  refine Jl.box rfl (by rfl) ?_
  intro b2
  refine Jl.box rfl (by rfl) ?_
  intro b3
  refine Jl.alloc tze30 ?_
  intro b4
  refine Jl.nil ?_
  refine Jq.thenN ?_
  refine Jc.seq ?_
  refine Jc.region ?_
  refine Jl.pv (PR.loadW rfl tsh30 (by repeat (first | exact Has.here | apply Has.there)) (by rfl)) ?_
  refine Jl.call (brown_ct b ((M, cM), (I, cI), (K, cK)) (by omega) (by omega) (by omega)) en14 (by rfl) (by repeat (first | exact Take.nil | apply Take.cons (by repeat (first | exact Del.here | apply Del.there)))) (by repeat (first | exact trivial | refine And.intro (by repeat (first | exact Mem.here | apply Mem.there)) ?_)) ?_
  rintro ⟨⟨A1, c1⟩, ⟨A2, c2⟩, ⟨A3, c3⟩⟩
  refine Jl.sealR (by repeat (first | exact Del.here | apply Del.there)) ?_
  refine Jl.sealR (by repeat (first | exact Del.here | apply Del.there)) ?_
  refine Jl.sealR (by repeat (first | exact Del.here | apply Del.there)) ?_
  refine Jl.storeW rfl tsh30 rfl (by rfl) (by first | exact Br.cs_one _ _ | simp [Value.oneCell', Br.cs]) (by repeat (first | exact Swap.here | apply Swap.there)) (by rfl) ?_
  refine Jl.nil ?_
  refine Jq.thenN ?_
  refine Jc.seq ?_
  refine Jc.seq ?_
  refine Jc.region ?_
  refine Jl.pv (PR.fieldAddr rfl tfl46_1) ?_
  refine Jl.pv (PR.load1 rfl tsh22 (by repeat (first | exact Has.here | apply Has.there)) (by rfl)) ?_
  refine Jl.call (numbers_ct L cL [v, now] (by simp)) en30 (by rfl) (by repeat (first | exact Take.nil | apply Take.cons (by repeat (first | exact Del.here | apply Del.there)))) (by repeat (first | exact trivial | refine And.intro (by repeat (first | exact Mem.here | apply Mem.there)) ?_)) ?_
  rintro ⟨⟩
  refine Jl.as (.bool true) (congrArg Value.bool hnum) ?_
  refine Jl.pv (PR.not rfl) ?_
  refine Jl.nil ?_
  refine Jq.thenN ?_
  refine Jc.condF rfl ?_
  refine Jc.skip ?_
  refine Jq.thenN ?_
  refine Jc.seq ?_
  refine Jc.seq ?_
  refine Jc.region ?_
  refine Jl.pv (PR.fieldAddr rfl tfl46_0) ?_
  refine Jl.pv (PR.load1 rfl tsh5 (by repeat (first | exact Has.here | apply Has.there)) (by rfl)) ?_
  refine Jl.pv (PR.eql false rfl rfl (by decide)) ?_
  refine Jl.nil ?_
  refine Jq.thenN ?_
  refine Jc.condF rfl ?_
  refine Jc.skip ?_
  refine Jq.thenN ?_
  refine Jc.seq ?_
  refine Jc.seq ?_
  refine Jc.drawn [0, 1, 3, 0, 8, 24, 63] ([(6, false)], []) [⟨[(0, false), (1, false), (3, false), (4, false), (5, false)], [], 2⟩] tmx (by kernel_rfl) ?_
  refine Dh.JH.cons ?_
  refine Dh.JB.pv rfl trivial (fun _ => PR.fieldAddr rfl tfl46_0) ?_
  refine Dh.JB.rd [.blk _ _ _] rfl trivial (by repeat (first | exact Take.nil | apply Take.cons (by repeat (first | exact Del.here | apply Del.there)))) (fun _ => PR.load1 rfl tsh5 Has.here (by rfl)) ?_
  refine Dh.JB.pv rfl trivial (fun _ => PR.fieldAddr rfl tfl46_1) ?_
  refine Dh.JB.rd [.blk _ _ _] rfl trivial (by repeat (first | exact Take.nil | apply Take.cons (by repeat (first | exact Del.here | apply Del.there)))) (fun _ => PR.load1 rfl tsh22 Has.here (by rfl)) ?_
  refine Dh.JB.pv rfl trivial (fun _ => PR.len rfl tsl22) ?_
  refine Dh.JB.nil ?_
  refine Dh.JL.nil ?_
  refine Dh.JE.mk rfl (fun _ h => by cases h) (fun C12_2 => ?_)
  refine Jl.call many11_ct en32 (by rfl) (by repeat (first | exact Take.nil | apply Take.cons (by repeat (first | exact Del.here | apply Del.there)))) (by repeat (first | exact trivial | refine And.intro (by repeat (first | exact Mem.here | apply Mem.there)) ?_)) ?_
  rintro ⟨⟩
  refine Jl.nil ?_
  refine Dh.Jq.segV (by repeat (first | exact Dh.FExt.refl | apply Dh.FExt.cons | apply Dh.FExt.app)) ?_ (by repeat (first | exact Dh.KeepL.nil | apply Dh.KeepL.anc (by rfl) | apply Dh.KeepL.keep (by repeat (first | exact Take.nil | apply Take.cons (by repeat (first | exact Del.here | apply Del.there))))))
  refine Dh.JH.nil ?_
  refine Dh.JB.pv rfl trivial (fun _ => PR.neq false rfl rfl (by decide)) ?_
  refine Dh.JB.nil ?_
  refine Dh.JL.nil ?_
  refine Jq.thenN ?_
  refine Jc.condF rfl ?_
  refine Jc.skip ?_
  refine Jq.thenN ?_
  refine Jc.seq ?_
  refine Jc.seq ?_
  refine Jc.region ?_
  refine Jl.pv (PR.fieldAddr rfl tfl46_0) ?_
  refine Jl.pv (PR.load1 rfl tsh5 (by repeat (first | exact Has.here | apply Has.there)) (by rfl)) ?_
  refine Jl.nil ?_
  refine Jq.thenN ?_
  refine Jc.block ?_
  refine Jc.seq ?_
  refine Jc.region ?_
  refine Jl.pv (PR.eql false rfl rfl (by decide)) ?_
  refine Jl.pv (PR.assign rfl) ?_
  refine Jl.nil ?_
  refine Jq.thenN ?_
  refine Jc.condF rfl ?_
  refine Jc.seq ?_
  refine Jc.region ?_
  refine Jl.pv (PR.eql false rfl rfl (by decide)) ?_
  refine Jl.pv (PR.assign rfl) ?_
  refine Jl.nil ?_
  refine Jq.thenN ?_
  refine Jc.condF rfl ?_
  refine Jc.seq ?_
  refine Jc.region ?_
  refine Jl.pv (PR.eql false rfl rfl (by decide)) ?_
  refine Jl.pv (PR.assign rfl) ?_
  refine Jl.nil ?_
  refine Jq.thenN ?_
  refine Jc.condF rfl ?_
  refine Jc.seq ?_
  refine Jc.seq ?_
  refine Jc.region ?_
  refine Jl.pv (PR.eql false rfl rfl (by decide)) ?_
  refine Jl.pv (PR.assign rfl) ?_
  refine Jl.nil ?_
  refine Jq.thenN ?_
  refine Jc.condF rfl ?_
  refine Jc.seq ?_
  refine Jc.region ?_
  refine Jl.pv (PR.eql false rfl rfl (by decide)) ?_
  refine Jl.pv (PR.assign rfl) ?_
  refine Jl.nil ?_
  refine Jq.thenN ?_
  refine Jc.condF rfl ?_
  refine Jc.seq ?_
  refine Jc.region ?_
  refine Jl.pv (PR.eql false rfl rfl (by decide)) ?_
  refine Jl.pv (PR.assign rfl) ?_
  refine Jl.nil ?_
  refine Jq.thenN ?_
  refine Jc.condF rfl ?_
  refine Jc.seq ?_
  refine Jc.region ?_
  refine Jl.pv (PR.eql false rfl rfl (by decide)) ?_
  refine Jl.pv (PR.assign rfl) ?_
  refine Jl.nil ?_
  refine Jq.thenN ?_
  refine Jc.condF rfl ?_
  refine Jc.region ?_
  refine Jl.pv (PR.eql false rfl rfl (by decide)) ?_
  refine Jl.pv (PR.assign rfl) ?_
  refine Jl.nil ?_
  refine Jq.thenN ?_
  refine Jc.condF rfl ?_
  refine Jc.seq ?_
  refine Jc.region ?_
  refine Jl.pv (PR.loadW rfl tsh30 (by repeat (first | exact Has.here | apply Has.there)) (by rfl)) ?_
  refine Jl.pv (PR.fieldAddr rfl tfl46_0) ?_
  refine Jl.pv (PR.load1 rfl tsh5 (by repeat (first | exact Has.here | apply Has.there)) (by rfl)) ?_
  refine Jl.pv (PR.fieldAddr rfl tfl46_1) ?_
  refine Jl.pv (PR.load1 rfl tsh22 (by repeat (first | exact Has.here | apply Has.there)) (by rfl)) ?_
  refine Jl.call (start_ct b ((A1, c1), (A2, c2), (A3, c3)) L cL v now hset hact hv) en35 (by rfl) (by repeat (first | exact Take.nil | apply Take.cons (by repeat (first | exact Del.here | apply Del.there)))) (by repeat (first | exact trivial | refine And.intro (by repeat (first | exact Mem.here | apply Mem.there)) ?_)) ?_
  rintro ⟨⟩
  refine Jl.storeW rfl tsh30 rfl (by rfl) (by first | exact Br.cs_one _ _ | simp [Value.oneCell', Br.cs]) (by repeat (first | exact Swap.here | apply Swap.there)) (by rfl) ?_
  refine Jl.nil ?_
  refine Jq.thenN ?_
  refine Jc.ret ?_
  refine Jq.blkR ?_
  refine Jq.thenR ?_
  exact Jq.fin ((A1, c1), (A2, c2), (A3, c3)) (.inl rfl) rfl (RetVs.cellA rfl (by repeat (first | exact Has.here | apply Has.there)) tsh30 (by rfl) RetVs.nil) rfl (by repeat (first | exact Take.nil | apply Take.cons (by repeat (first | exact Del.here | apply Del.there)))) (by repeat (first | exact trivial | refine And.intro (by repeat (first | exact Mem.here | apply Mem.there)) ?_))
theorem applyCancel_ct (b : Br) (z : BrA) (hn : b.its.length ≤ 1000) (hm : b.kps.length ≤ 1000) (hms : b.cf.ms.length ≤ 1000) (hact : b.act = true) :
    Ct Tryd.prog 16 [b.v z, .agg #[.int .u8 12, .slice none 0 0]] [] (b.rd z) (fun x : BrA => b.cancel.v x) (fun _ => []) (fun x => b.rd x) := by
  obtain ⟨⟨M, cM⟩, ⟨I, cI⟩, ⟨K, cK⟩⟩ := z
  refine Ct.of _ Tryd.func16 Tryd.ntmps16 rfl rfl (fun X W => ?_)
  refine Jc.fact0 (.rd none (i64s [])) (fun X W => Fact.rd_nil none X W) ?_
  refine Jc.seq ?_
  refine Jc.region ?_
  refine Jl.box rfl (by rfl) ?_
  intro b2
  refine Jl.box rfl (by rfl) ?_
  intro b3
  refine Jl.alloc tze30 ?_
  intro b4
  refine Jl.nil ?_
  refine Jq.thenN ?_
  refine Jc.seq ?_
  refine Jc.region ?_
  refine Jl.pv (PR.loadW rfl tsh30 (by repeat (first | exact Has.here | apply Has.there)) (by rfl)) ?_
  refine Jl.call (brown_ct b ((M, cM), (I, cI), (K, cK)) (by omega) (by omega) (by omega)) en14 (by rfl) (by repeat (first | exact Take.nil | apply Take.cons (by repeat (first | exact Del.here | apply Del.there)))) (by repeat (first | exact trivial | refine And.intro (by repeat (first | exact Mem.here | apply Mem.there)) ?_)) ?_
  rintro ⟨⟨A1, c1⟩, ⟨A2, c2⟩, ⟨A3, c3⟩⟩
  refine Jl.sealR (by repeat (first | exact Del.here | apply Del.there)) ?_
  refine Jl.sealR (by repeat (first | exact Del.here | apply Del.there)) ?_
  refine Jl.sealR (by repeat (first | exact Del.here | apply Del.there)) ?_
  refine Jl.storeW rfl tsh30 rfl (by rfl) (by first | exact Br.cs_one _ _ | simp [Value.oneCell', Br.cs]) (by repeat (first | exact Swap.here | apply Swap.there)) (by rfl) ?_
  refine Jl.nil ?_
  refine Jq.thenN ?_
  refine Jc.seq ?_
  refine Jc.seq ?_
  refine Jc.region ?_
  refine Jl.pv (PR.fieldAddr rfl tfl46_1) ?_
  refine Jl.pv (PR.load1 rfl tsh22 (by repeat (first | exact Has.here | apply Has.there)) (by rfl)) ?_
  refine Jl.call (numbers_ct none 0 [] (by decide)) en30 (by rfl) (by repeat (first | exact Take.nil | apply Take.cons (by repeat (first | exact Del.here | apply Del.there)))) (by repeat (first | exact trivial | refine And.intro (by repeat (first | exact Mem.here | apply Mem.there)) ?_)) ?_
  rintro ⟨⟩
  refine Jl.as (.bool true) (congrArg Value.bool (by decide)) ?_
  refine Jl.pv (PR.not rfl) ?_
  refine Jl.nil ?_
  refine Jq.thenN ?_
  refine Jc.condF rfl ?_
  refine Jc.skip ?_
  refine Jq.thenN ?_
  refine Jc.seq ?_
  refine Jc.seq ?_
  refine Jc.region ?_
  refine Jl.pv (PR.fieldAddr rfl tfl46_0) ?_
  refine Jl.pv (PR.load1 rfl tsh5 (by repeat (first | exact Has.here | apply Has.there)) (by rfl)) ?_
  refine Jl.pv (PR.eql false rfl rfl (by decide)) ?_
  refine Jl.nil ?_
  refine Jq.thenN ?_
  refine Jc.condF rfl ?_
  refine Jc.skip ?_
  refine Jq.thenN ?_
  refine Jc.seq ?_
  refine Jc.seq ?_
  refine Jc.drawn [0, 1, 3, 0, 8, 24, 63] ([(6, false)], []) [⟨[(0, false), (1, false), (3, false), (4, false), (5, false)], [], 2⟩] tmx (by kernel_rfl) ?_
  refine Dh.JH.cons ?_
  refine Dh.JB.pv rfl trivial (fun _ => PR.fieldAddr rfl tfl46_0) ?_
  refine Dh.JB.rd [.blk _ _ _] rfl trivial (by repeat (first | exact Take.nil | apply Take.cons (by repeat (first | exact Del.here | apply Del.there)))) (fun _ => PR.load1 rfl tsh5 Has.here (by rfl)) ?_
  refine Dh.JB.pv rfl trivial (fun _ => PR.fieldAddr rfl tfl46_1) ?_
  refine Dh.JB.rd [.blk _ _ _] rfl trivial (by repeat (first | exact Take.nil | apply Take.cons (by repeat (first | exact Del.here | apply Del.there)))) (fun _ => PR.load1 rfl tsh22 Has.here (by rfl)) ?_
  refine Dh.JB.pv rfl trivial (fun _ => PR.len rfl tsl22) ?_
  refine Dh.JB.nil ?_
  refine Dh.JL.nil ?_
  refine Dh.JE.mk rfl (fun _ h => by cases h) (fun C12_2 => ?_)
  refine Jl.call many12_ct en32 (by rfl) (by repeat (first | exact Take.nil | apply Take.cons (by repeat (first | exact Del.here | apply Del.there)))) (by repeat (first | exact trivial | refine And.intro (by repeat (first | exact Mem.here | apply Mem.there)) ?_)) ?_
  rintro ⟨⟩
  refine Jl.nil ?_
  refine Dh.Jq.segV (by repeat (first | exact Dh.FExt.refl | apply Dh.FExt.cons | apply Dh.FExt.app)) ?_ (by repeat (first | exact Dh.KeepL.nil | apply Dh.KeepL.anc (by rfl) | apply Dh.KeepL.keep (by repeat (first | exact Take.nil | apply Take.cons (by repeat (first | exact Del.here | apply Del.there))))))
  refine Dh.JH.nil ?_
  refine Dh.JB.pv rfl trivial (fun _ => PR.neq false rfl rfl (by decide)) ?_
  refine Dh.JB.nil ?_
  refine Dh.JL.nil ?_
  refine Jq.thenN ?_
  refine Jc.condF rfl ?_
  refine Jc.skip ?_
  refine Jq.thenN ?_
  refine Jc.seq ?_
  refine Jc.seq ?_
  refine Jc.region ?_
  refine Jl.pv (PR.fieldAddr rfl tfl46_0) ?_
  refine Jl.pv (PR.load1 rfl tsh5 (by repeat (first | exact Has.here | apply Has.there)) (by rfl)) ?_
  refine Jl.nil ?_
  refine Jq.thenN ?_
  refine Jc.block ?_
  refine Jc.seq ?_
  refine Jc.region ?_
  refine Jl.pv (PR.eql false rfl rfl (by decide)) ?_
  refine Jl.pv (PR.assign rfl) ?_
  refine Jl.nil ?_
  refine Jq.thenN ?_
  refine Jc.condF rfl ?_
  refine Jc.seq ?_
  refine Jc.region ?_
  refine Jl.pv (PR.eql false rfl rfl (by decide)) ?_
  refine Jl.pv (PR.assign rfl) ?_
  refine Jl.nil ?_
  refine Jq.thenN ?_
  refine Jc.condF rfl ?_
  refine Jc.seq ?_
  refine Jc.region ?_
  refine Jl.pv (PR.eql false rfl rfl (by decide)) ?_
  refine Jl.pv (PR.assign rfl) ?_
  refine Jl.nil ?_
  refine Jq.thenN ?_
  refine Jc.condF rfl ?_
  refine Jc.seq ?_
  refine Jc.seq ?_
  refine Jc.region ?_
  refine Jl.pv (PR.eql false rfl rfl (by decide)) ?_
  refine Jl.pv (PR.assign rfl) ?_
  refine Jl.nil ?_
  refine Jq.thenN ?_
  refine Jc.condF rfl ?_
  refine Jc.seq ?_
  refine Jc.region ?_
  refine Jl.pv (PR.eql false rfl rfl (by decide)) ?_
  refine Jl.pv (PR.assign rfl) ?_
  refine Jl.nil ?_
  refine Jq.thenN ?_
  refine Jc.condF rfl ?_
  refine Jc.seq ?_
  refine Jc.region ?_
  refine Jl.pv (PR.eql false rfl rfl (by decide)) ?_
  refine Jl.pv (PR.assign rfl) ?_
  refine Jl.nil ?_
  refine Jq.thenN ?_
  refine Jc.condF rfl ?_
  refine Jc.seq ?_
  refine Jc.region ?_
  refine Jl.pv (PR.eql false rfl rfl (by decide)) ?_
  refine Jl.pv (PR.assign rfl) ?_
  refine Jl.nil ?_
  refine Jq.thenN ?_
  refine Jc.condF rfl ?_
  refine Jc.region ?_
  refine Jl.pv (PR.eql false rfl rfl (by decide)) ?_
  refine Jl.pv (PR.assign rfl) ?_
  refine Jl.nil ?_
  refine Jq.thenN ?_
  refine Jc.condF rfl ?_
  refine Jc.seq ?_
  refine Jc.region ?_
  refine Jl.pv (PR.loadW rfl tsh30 (by repeat (first | exact Has.here | apply Has.there)) (by rfl)) ?_
  refine Jl.pv (PR.fieldAddr rfl tfl46_0) ?_
  refine Jl.pv (PR.load1 rfl tsh5 (by repeat (first | exact Has.here | apply Has.there)) (by rfl)) ?_
  refine Jl.pv (PR.fieldAddr rfl tfl46_1) ?_
  refine Jl.pv (PR.load1 rfl tsh22 (by repeat (first | exact Has.here | apply Has.there)) (by rfl)) ?_
  refine Jl.call (cancel_ct b ((A1, c1), (A2, c2), (A3, c3)) hact) en35 (by rfl) (by repeat (first | exact Take.nil | apply Take.cons (by repeat (first | exact Del.here | apply Del.there)))) (by repeat (first | exact trivial | refine And.intro (by repeat (first | exact Mem.here | apply Mem.there)) ?_)) ?_
  rintro ⟨⟩
  refine Jl.storeW rfl tsh30 rfl (by rfl) (by first | exact Br.cs_one _ _ | simp [Value.oneCell', Br.cs]) (by repeat (first | exact Swap.here | apply Swap.there)) (by rfl) ?_
  refine Jl.nil ?_
  refine Jq.thenN ?_
  refine Jc.ret ?_
  refine Jq.blkR ?_
  refine Jq.thenR ?_
  exact Jq.fin ((A1, c1), (A2, c2), (A3, c3)) (.inl rfl) rfl (RetVs.cellA rfl (by repeat (first | exact Has.here | apply Has.there)) tsh30 (by rfl) RetVs.nil) rfl (by repeat (first | exact Take.nil | apply Take.cons (by repeat (first | exact Del.here | apply Del.there)))) (by repeat (first | exact trivial | refine And.intro (by repeat (first | exact Mem.here | apply Mem.there)) ?_))
end Go.Proofs.YtiebgcahdnaekaaDoor
