/-
The laws of groups: ConfRows, ConfOne.
-/
import Derived.Test.YtbihjlncocdnnaaDoorCfL
namespace Go.Proofs.YtbihjlncocdnnaaDoor
set_option linter.unusedVariables false
open Go.RowKit
attribute [local irreducible] Res.blk Res.row Fact.rd
theorem row_len60 (c : Cf) (h : c.ms.length ≤ 60) : c.rowN.length ≤ 100 := by by_cases hok : c.ok = true <;> simp [Cf.rowN, hok, Cf.nums]; omega
theorem rows_same {c d : Cf} (hc : c.ok = true) (hd : d.ok = true) : decide (c.rowN = d.rowN) = sameC c d := by
  rw [Bool.eq_iff_iff, decide_eq_true_eq, row_inj hc hd, sameC_iff]
theorem at_idx (a : Int) (L : Nat) (h : 0 < L) : ∃ k : Nat, k < L ∧ (a.tmod L + L).tmod L = k ∧ -(L : Int) < a.tmod L ∧ a.tmod L < L := by
  have h1 := Int.tmod_lt_of_pos a (show (0 : Int) < L by omega)
  have h2 := Int.lt_tmod_of_pos a (show (0 : Int) < L by omega)
  have h3 : 0 ≤ (a.tmod L + L).tmod L := Int.tmod_nonneg _ (by omega)
  have h4 := Int.tmod_lt_of_pos (a.tmod L + L) (show (0 : Int) < L by omega)
  exact ⟨((a.tmod L + L).tmod L).toNat, by omega, by omega, h2, h1⟩
theorem i64s_set (l : List Int) (k : Nat) (n : Int) : (i64s l).set k (.int .i64 n) = i64s (l.set k n) := by simp [i64s]
theorem cof_at {A : Option Addr} {cA n : Nat} (l : List Int) (hl : l.length = n) (hn : n ≤ 1000) (hc : n ≤ cA) : Ct Tryd.prog 11 [.slice A n cA] [] [.rd A (i64s l), .lim] (fun x : AdC => .tuple #[(cfOf l).v x, .int .i64 (cfE l)]) (fun x => [(cfOf l).row x]) (fun _ => []) := by
  subst hl; exact cof_ct A cA l hn hc
theorem confRows_ct (x y : AdC) (c d : Cf) (a n : Int) : Ct Tryd.prog 7 [c.v x, d.v y, .int .i64 a, .int .i64 n] [] [.rd x.1 (i64s c.ms), .rd y.1 (i64s d.ms), .lim] (fun _ : Unit => .bool true) (fun _ => []) (fun _ => []) := by
  refine Ct.of _ Tryd.func7 Tryd.ntmps7 rfl rfl (fun X W => ?_)
  refine Jc.seq ?_
  refine Jc.region ?_
  refine Jl.box rfl (by rfl) ?_
  intro b4
  refine Jl.box rfl (by rfl) ?_
  intro b5
  refine Jl.pv (PR.assign rfl) ?_
  refine Jl.nil ?_
  refine Jq.thenN ?_
  refine Jc.seq ?_
  refine Jc.seq ?_
  refine Jc.region ?_
  refine Jl.pv (PR.fieldAddr rfl tfl24_14) ?_
  refine Jl.pv (PR.load1 rfl tsh22 (by repeat (first | exact Has.here | apply Has.there)) (by rfl)) ?_
  refine Jl.pv (PR.len rfl tsl22) ?_
  refine Jl.pv (PR.gtr _ rfl rfl rfl) ?_
  refine Jl.pv (PR.move rfl) ?_
  refine Jl.bsplit (fun g20 => ?_) (fun g20 => ?_)
  · try replace g20 := of_decide_eq_true g20
    refine Jl.offS rfl rfl rfl ?_
    refine Jl.offS rfl rfl rfl ?_
    refine Jl.offS rfl rfl rfl ?_
    refine Jl.offS rfl rfl rfl ?_
    refine Jl.pv (PR.pickT rfl rfl) ?_
    refine Jl.pv (PR.move rfl) ?_
    refine Jl.offS rfl rfl rfl ?_
    refine Jl.offS rfl rfl rfl ?_
    refine Jl.offS rfl rfl rfl ?_
    refine Jl.pv (PR.pickT rfl rfl) ?_
    refine Jl.pv (PR.move rfl) ?_
    refine Jl.offS rfl rfl rfl ?_
    refine Jl.offS rfl rfl rfl ?_
    refine Jl.offS rfl rfl rfl ?_
    refine Jl.pv (PR.pickT rfl rfl) ?_
    refine Jl.nil ?_
    refine Jq.thenN ?_
    refine Jc.condT rfl ?_
    refine Jc.seq ?_
    refine Jc.region ?_
    refine Jl.call cwakes_ct en8 (by rfl) (by repeat (first | exact Take.nil | apply Take.cons (by repeat (first | exact Del.here | apply Del.there)))) (by repeat (first | exact trivial | refine And.intro (by repeat (first | exact Mem.here | apply Mem.there)) ?_)) ?_
    rintro ⟨⟩
    refine Jl.pv (PR.assign rfl) ?_
    refine Jl.nil ?_
    refine Jq.thenN ?_
    refine Jc.ret ?_
    refine Jq.thenR ?_
    exact Jq.fin () (.inl rfl) rfl (RetVs.tmp rfl RetVs.nil) rfl (by repeat (first | exact Take.nil | apply Take.cons (by repeat (first | exact Del.here | apply Del.there)))) (by repeat (first | exact trivial | refine And.intro (by repeat (first | exact Mem.here | apply Mem.there)) ?_))
  · try replace g20 := of_decide_eq_false g20
    refine Jl.on rfl rfl ?_
    refine Jl.pv (PR.fieldAddr rfl tfl24_14) ?_
    refine Jl.on rfl rfl ?_
    refine Jl.pv (PR.load1 rfl tsh22 (by repeat (first | exact Has.here | apply Has.there)) (by rfl)) ?_
    refine Jl.on rfl rfl ?_
    refine Jl.pv (PR.len rfl tsl22) ?_
    refine Jl.on rfl rfl ?_
    refine Jl.pv (PR.gtr _ rfl rfl rfl) ?_
    refine Jl.pv (PR.pickF rfl rfl) ?_
    refine Jl.pv (PR.move rfl) ?_
    refine Jl.bsplit (fun g26 => ?_) (fun g26 => ?_)
    · try replace g26 := of_decide_eq_true g26
      refine Jl.offS rfl rfl rfl ?_
      refine Jl.offS rfl rfl rfl ?_
      refine Jl.offS rfl rfl rfl ?_
      refine Jl.pv (PR.pickT rfl rfl) ?_
      refine Jl.pv (PR.move rfl) ?_
      refine Jl.offS rfl rfl rfl ?_
      refine Jl.offS rfl rfl rfl ?_
      refine Jl.offS rfl rfl rfl ?_
      refine Jl.pv (PR.pickT rfl rfl) ?_
      refine Jl.nil ?_
      refine Jq.thenN ?_
      refine Jc.condT rfl ?_
      refine Jc.seq ?_
      refine Jc.region ?_
      refine Jl.call cwakes_ct en8 (by rfl) (by repeat (first | exact Take.nil | apply Take.cons (by repeat (first | exact Del.here | apply Del.there)))) (by repeat (first | exact trivial | refine And.intro (by repeat (first | exact Mem.here | apply Mem.there)) ?_)) ?_
      rintro ⟨⟩
      refine Jl.pv (PR.assign rfl) ?_
      refine Jl.nil ?_
      refine Jq.thenN ?_
      refine Jc.ret ?_
      refine Jq.thenR ?_
      exact Jq.fin () (.inl rfl) rfl (RetVs.tmp rfl RetVs.nil) rfl (by repeat (first | exact Take.nil | apply Take.cons (by repeat (first | exact Del.here | apply Del.there)))) (by repeat (first | exact trivial | refine And.intro (by repeat (first | exact Mem.here | apply Mem.there)) ?_))
    · try replace g26 := of_decide_eq_false g26
      refine Jl.on rfl rfl ?_
      refine Jl.pv (PR.loadW rfl tsh24 (by repeat (first | exact Has.here | apply Has.there)) (by rfl)) ?_
      refine Jl.on rfl rfl ?_
      refine Jl.call (rcheck_ct c x (by omega)) en10 (by rfl) (by repeat (first | exact Take.nil | apply Take.cons (by repeat (first | exact Del.here | apply Del.there)))) (by repeat (first | exact trivial | refine And.intro (by repeat (first | exact Mem.here | apply Mem.there)) ?_)) ?_
      rintro ⟨⟩
      refine Jl.on rfl rfl ?_
      refine Jl.pv (PR.neq _ rfl rfl rfl) ?_
      refine Jl.pv (PR.pickF rfl rfl) ?_
      refine Jl.pv (PR.move rfl) ?_
      refine Jl.bsplit (fun g31 => ?_) (fun g31 => ?_)
      · try replace g31 := of_decide_eq_true g31
        refine Jl.offS rfl rfl rfl ?_
        refine Jl.offS rfl rfl rfl ?_
        refine Jl.offS rfl rfl rfl ?_
        refine Jl.pv (PR.pickT rfl rfl) ?_
        refine Jl.nil ?_
        refine Jq.thenN ?_
        refine Jc.condT rfl ?_
        refine Jc.seq ?_
        refine Jc.region ?_
        refine Jl.call cwakes_ct en8 (by rfl) (by repeat (first | exact Take.nil | apply Take.cons (by repeat (first | exact Del.here | apply Del.there)))) (by repeat (first | exact trivial | refine And.intro (by repeat (first | exact Mem.here | apply Mem.there)) ?_)) ?_
        rintro ⟨⟩
        refine Jl.pv (PR.assign rfl) ?_
        refine Jl.nil ?_
        refine Jq.thenN ?_
        refine Jc.ret ?_
        refine Jq.thenR ?_
        exact Jq.fin () (.inl rfl) rfl (RetVs.tmp rfl RetVs.nil) rfl (by repeat (first | exact Take.nil | apply Take.cons (by repeat (first | exact Del.here | apply Del.there)))) (by repeat (first | exact trivial | refine And.intro (by repeat (first | exact Mem.here | apply Mem.there)) ?_))
      · try replace g31 := of_decide_eq_false g31
        refine Jl.on rfl rfl ?_
        refine Jl.pv (PR.loadW rfl tsh24 (by repeat (first | exact Has.here | apply Has.there)) (by rfl)) ?_
        refine Jl.on rfl rfl ?_
        refine Jl.call (rcheck_ct d y (by omega)) en10 (by rfl) (by repeat (first | exact Take.nil | apply Take.cons (by repeat (first | exact Del.here | apply Del.there)))) (by repeat (first | exact trivial | refine And.intro (by repeat (first | exact Mem.here | apply Mem.there)) ?_)) ?_
        rintro ⟨⟩
        refine Jl.on rfl rfl ?_
        refine Jl.pv (PR.neq _ rfl rfl rfl) ?_
        refine Jl.pv (PR.pickF rfl rfl) ?_
        refine Jl.nil ?_
        refine Jq.thenN ?_
        refine Jc.cond rfl (fun h0 => ?_) (fun h0 => ?_)
        · try replace h0 := of_decide_eq_true h0
          refine Jc.seq ?_
          refine Jc.region ?_
          refine Jl.call cwakes_ct en8 (by rfl) (by repeat (first | exact Take.nil | apply Take.cons (by repeat (first | exact Del.here | apply Del.there)))) (by repeat (first | exact trivial | refine And.intro (by repeat (first | exact Mem.here | apply Mem.there)) ?_)) ?_
          rintro ⟨⟩
          refine Jl.pv (PR.assign rfl) ?_
          refine Jl.nil ?_
          refine Jq.thenN ?_
          refine Jc.ret ?_
          refine Jq.thenR ?_
          exact Jq.fin () (.inl rfl) rfl (RetVs.tmp rfl RetVs.nil) rfl (by repeat (first | exact Take.nil | apply Take.cons (by repeat (first | exact Del.here | apply Del.there)))) (by repeat (first | exact trivial | refine And.intro (by repeat (first | exact Mem.here | apply Mem.there)) ?_))
        · try replace h0 := of_decide_eq_false h0
          have hn : c.ms.length ≤ 60 ∧ d.ms.length ≤ 60 := by omega
          have hc : c.ok = true := chk_0 (Decidable.of_not_not g31)
          have hd : d.ok = true := chk_0 (Decidable.of_not_not h0)
          have hrl := row_len hc
          have hrd := row_len hd
          have hm4 := Cf.ok_m hc
          refine Jc.skip ?_
          refine Jq.thenN ?_
          refine Jc.seq ?_
          refine Jc.region ?_
          refine Jl.pv (PR.loadW rfl tsh24 (by repeat (first | exact Has.here | apply Has.there)) (by rfl)) ?_
          refine Jl.call (crow_ct c x (by omega)) en9 (by rfl) (by repeat (first | exact Take.nil | apply Take.cons (by repeat (first | exact Del.here | apply Del.there)))) (by repeat (first | exact trivial | refine And.intro (by repeat (first | exact Mem.here | apply Mem.there)) ?_)) ?_
          rintro ⟨A39, c39⟩
          refine Jl.sealR (by repeat (first | exact Del.here | apply Del.there)) ?_
          refine Jl.pv (PR.move rfl) ?_
          refine Jl.pv (PR.extract rfl (by rfl)) ?_
          refine Jl.pv (PR.extract rfl (by rfl)) ?_
          refine Jl.pv (PR.assign rfl) ?_
          refine Jl.pv (PR.assign rfl) ?_
          refine Jl.nil ?_
          refine Jq.thenN ?_
          refine Jc.seq ?_
          refine Jc.region ?_
          refine Jl.pv (PR.loadW rfl tsh24 (by repeat (first | exact Has.here | apply Has.there)) (by rfl)) ?_
          refine Jl.call (crow_ct d y (by omega)) en9 (by rfl) (by repeat (first | exact Take.nil | apply Take.cons (by repeat (first | exact Del.here | apply Del.there)))) (by repeat (first | exact trivial | refine And.intro (by repeat (first | exact Mem.here | apply Mem.there)) ?_)) ?_
          rintro ⟨A44, c44⟩
          refine Jl.sealR (by repeat (first | exact Del.here | apply Del.there)) ?_
          refine Jl.pv (PR.move rfl) ?_
          refine Jl.pv (PR.extract rfl (by rfl)) ?_
          refine Jl.pv (PR.extract rfl (by rfl)) ?_
          refine Jl.pv (PR.assign rfl) ?_
          refine Jl.pv (PR.assign rfl) ?_
          refine Jl.nil ?_
          refine Jq.thenN ?_
          refine Jc.seq ?_
          refine Jc.seq ?_
          refine Jc.drawn [0, 1, 3, 7, 15, 31, 63, 127, 127, 511, 127, 127, 4095, 8191, 16383, 32767, 65535, 65535, 262143, 65535, 65535, 2097151, 4194303, 8388607, 16777215, 33554431, 67108863, 134217727, 268435455] ([(22, false), (23, false), (24, false), (25, false), (26, false), (27, false), (28, false)], []) [⟨[(0, false), (1, false), (2, false), (3, false), (4, false), (5, false), (6, false), (7, false), (8, false), (10, false), (11, false)], [], 9⟩, ⟨[], [], 12⟩, ⟨[(13, false), (14, false), (15, false), (16, false), (17, false), (19, false), (20, false)], [], 18⟩, ⟨[], [], 21⟩] tmx (by kernel_rfl) ?_
          refine Dh.JH.cons ?_
          refine Dh.JB.pv rfl trivial (fun _ => PR.move rfl) ?_
          refine Dh.JB.pv rfl trivial (fun _ => PR.neq false rfl rfl (by rw [c.chk_ok hc]; rfl)) ?_
          refine Dh.JB.pv rfl trivial (fun _ => PR.move rfl) ?_
          refine Dh.JB.pv rfl ⟨_, rfl, rfl⟩ (fun _ => PR.move rfl) ?_
          refine Dh.JB.pv rfl ⟨_, rfl, rfl⟩ (fun _ => PR.neq false rfl rfl (by rw [d.chk_ok hd]; rfl)) ?_
          refine Dh.JB.pv rfl trivial (fun _ => PR.pickF rfl rfl) ?_
          refine Dh.JB.pv rfl trivial (fun _ => PR.move rfl) ?_
          refine Dh.JB.pv rfl ⟨_, rfl, rfl⟩ (fun _ => PR.move rfl) ?_
          refine Dh.JB.pv rfl ⟨_, rfl, rfl⟩ (fun _ => PR.move rfl) ?_
          refine Dh.JB.rd [.blk _ _ _] rfl ⟨_, rfl, rfl⟩ (by repeat (first | exact Take.nil | apply Take.cons (by repeat (first | exact Del.here | apply Del.there)))) (fun _ => PR.loadW rfl tsh24 Has.here (by rfl)) ?_
          refine Dh.JB.rd [.blk _ _ _] rfl ⟨_, rfl, rfl⟩ (by repeat (first | exact Take.nil | apply Take.cons (by repeat (first | exact Del.here | apply Del.there)))) (fun _ => PR.loadW rfl tsh24 Has.here (by rfl)) ?_
          refine Dh.JB.nil ?_
          refine Dh.JL.nil ?_
          refine Dh.JE.mk rfl (fun _ h => by cases h) (fun C5_9 => ?_)
          refine Jl.on rfl rfl ?_
          refine Jl.call (cints_ct A39 A44 c39 c44 c.rowN d.rowN (by omega)) en13 (by rfl) (by repeat (first | exact Take.nil | apply Take.cons (by repeat (first | exact Del.here | apply Del.there)))) (by repeat (first | exact trivial | refine And.intro (by repeat (first | exact Mem.here | apply Mem.there)) ?_)) ?_
          rintro ⟨⟩
          refine Jl.nil ?_
          refine Dh.Jq.segV (by repeat (first | exact Dh.FExt.refl | apply Dh.FExt.cons | apply Dh.FExt.app)) ?_ (by repeat (first | exact Dh.KeepL.nil | apply Dh.KeepL.anc (by rfl) | apply Dh.KeepL.keep (by repeat (first | exact Take.nil | apply Take.cons (by repeat (first | exact Del.here | apply Del.there))))))
          refine Dh.JH.cons ?_
          refine Dh.JB.nil ?_
          refine Dh.JL.nil ?_
          refine Dh.JE.mk rfl (fun _ h => by cases h) (fun C5_12 => ?_)
          refine Jl.on rfl rfl ?_
          refine Jl.call (rsame_ct c d x y (by omega)) en12 (by rfl) (by repeat (first | exact Take.nil | apply Take.cons (by repeat (first | exact Del.here | apply Del.there)))) (by repeat (first | exact trivial | refine And.intro (by repeat (first | exact Mem.here | apply Mem.there)) ?_)) ?_
          rintro ⟨⟩
          refine Jl.nil ?_
          refine Dh.Jq.segV (by repeat (first | exact Dh.FExt.refl | apply Dh.FExt.cons | apply Dh.FExt.app)) ?_ (by repeat (first | exact Dh.KeepL.nil | apply Dh.KeepL.anc (by rfl) | apply Dh.KeepL.keep (by repeat (first | exact Take.nil | apply Take.cons (by repeat (first | exact Del.here | apply Del.there))))))
          refine Dh.JH.cons ?_
          refine Dh.JB.pv rfl ⟨_, rfl, rfl⟩ (fun _ => PR.bneq false Tryd.underlying4 rfl rfl (by rw [rows_same hc hd]; simp)) ?_
          refine Dh.JB.pv rfl trivial (fun _ => PR.pickF rfl rfl) ?_
          refine Dh.JB.pv rfl trivial (fun _ => PR.move rfl) ?_
          refine Dh.JB.rd [.blk _ _ _] rfl ⟨_, rfl, rfl⟩ (by repeat (first | exact Take.nil | apply Take.cons (by repeat (first | exact Del.here | apply Del.there)))) (fun _ => PR.loadW rfl tsh24 Has.here (by rfl)) ?_
          refine Dh.JB.rd [.blk _ _ _] rfl ⟨_, rfl, rfl⟩ (by repeat (first | exact Take.nil | apply Take.cons (by repeat (first | exact Del.here | apply Del.there)))) (fun _ => PR.loadW rfl tsh24 Has.here (by rfl)) ?_
          refine Dh.JB.rd [.blk _ _ _] rfl ⟨_, rfl, rfl⟩ (by repeat (first | exact Take.nil | apply Take.cons (by repeat (first | exact Del.here | apply Del.there)))) (fun _ => PR.loadW rfl tsh24 Has.here (by rfl)) ?_
          refine Dh.JB.rd [.blk _ _ _] rfl ⟨_, rfl, rfl⟩ (by repeat (first | exact Take.nil | apply Take.cons (by repeat (first | exact Del.here | apply Del.there)))) (fun _ => PR.loadW rfl tsh24 Has.here (by rfl)) ?_
          refine Dh.JB.nil ?_
          refine Dh.JL.nil ?_
          refine Dh.JE.mk rfl (fun _ h => by cases h) (fun C5_18 => ?_)
          refine Jl.on rfl rfl ?_
          refine Jl.call (csame_ct c d x y (by omega)) en21 (by rfl) (by repeat (first | exact Take.nil | apply Take.cons (by repeat (first | exact Del.here | apply Del.there)))) (by repeat (first | exact trivial | refine And.intro (by repeat (first | exact Mem.here | apply Mem.there)) ?_)) ?_
          rintro ⟨⟩
          refine Jl.nil ?_
          refine Dh.Jq.segV (by repeat (first | exact Dh.FExt.refl | apply Dh.FExt.cons | apply Dh.FExt.app)) ?_ (by repeat (first | exact Dh.KeepL.nil | apply Dh.KeepL.anc (by rfl) | apply Dh.KeepL.keep (by repeat (first | exact Take.nil | apply Take.cons (by repeat (first | exact Del.here | apply Del.there))))))
          refine Dh.JH.cons ?_
          refine Dh.JB.nil ?_
          refine Dh.JL.nil ?_
          refine Dh.JE.mk rfl (fun _ h => by cases h) (fun C5_21 => ?_)
          refine Jl.on rfl rfl ?_
          refine Jl.call (rsame_ct c d x y (by omega)) en12 (by rfl) (by repeat (first | exact Take.nil | apply Take.cons (by repeat (first | exact Del.here | apply Del.there)))) (by repeat (first | exact trivial | refine And.intro (by repeat (first | exact Mem.here | apply Mem.there)) ?_)) ?_
          rintro ⟨⟩
          refine Jl.nil ?_
          refine Dh.Jq.segV (by repeat (first | exact Dh.FExt.refl | apply Dh.FExt.cons | apply Dh.FExt.app)) ?_ (by repeat (first | exact Dh.KeepL.nil | apply Dh.KeepL.anc (by rfl) | apply Dh.KeepL.keep (by repeat (first | exact Take.nil | apply Take.cons (by repeat (first | exact Del.here | apply Del.there))))))
          refine Dh.JH.nil ?_
          refine Dh.JB.pv rfl ⟨_, rfl, rfl⟩ (fun _ => PR.bneq false Tryd.underlying4 rfl rfl (by simp)) ?_
          refine Dh.JB.pv rfl trivial (fun _ => PR.pickF rfl rfl) ?_
          refine Dh.JB.pv rfl trivial (fun _ => PR.move rfl) ?_
          refine Dh.JB.pv rfl ⟨_, rfl, rfl⟩ (fun _ => PR.move rfl) ?_
          refine Dh.JB.pv rfl ⟨_, rfl, rfl⟩ (fun _ => PR.len rfl tsl22) ?_
          refine Dh.JB.pv rfl ⟨_, rfl, rfl⟩ (fun _ => PR.lss false rfl rfl (by rw [hrl]; simp; omega)) ?_
          refine Dh.JB.pv rfl trivial (fun _ => PR.pickF rfl rfl) ?_
          refine Dh.JB.nil ?_
          refine Dh.JL.nil ?_
          refine Jq.thenN ?_
          refine Jc.condF rfl ?_
          refine Jc.skip ?_
          refine Jq.thenN ?_
          refine Jc.seq ?_
          refine Jc.region ?_
          refine Jl.buildSlice (by rfl) tsl22 tzr22_0 (by rfl) (by rfl) ?_
          intro b76
          refine Jl.pv (PR.move rfl) ?_
          refine Jl.toRow 1 0 (by repeat (first | exact Swap.here | apply Swap.there)) (by rfl) (by rfl) ?_
          refine Jl.append c.rowN.length (i64s c.rowN) rfl rfl rfl tsl22 tze3 (by rfl) (by decide) tby3 (fun _ _ => (by repeat (first | exact Swap.here | apply Swap.there))) (by repeat (first | exact Mem.here | apply Mem.there)) (by omega) rfl (by simp) (i64s_one _) (by omega) (by decide) ?_
          intro A78 c78
          refine Jl.pv (PR.assign rfl) ?_
          refine Jl.nil ?_
          refine Jq.thenN ?_
          refine Jc.seq ?_
          obtain ⟨k, hk, hke, hk1, hk2⟩ := at_idx a c.rowN.length (by omega)
          refine Jc.region ?_
          refine Jl.pv (PR.move rfl) ?_
          refine Jl.pv (PR.move rfl) ?_
          refine Jl.pv (PR.len rfl tsl22) ?_
          refine Jl.pv (PR.rem (a.tmod c.rowN.length) rfl rfl (by omega) rfl) ?_
          refine Jl.pv (PR.move rfl) ?_
          refine Jl.pv (PR.len rfl tsl22) ?_
          refine Jl.pv (PR.add (a.tmod c.rowN.length + c.rowN.length) rfl rfl (w64 (by omega) (by omega))) ?_
          refine Jl.pv (PR.move rfl) ?_
          refine Jl.pv (PR.len rfl tsl22) ?_
          refine Jl.pv (PR.rem ((k : Nat) : Int) rfl rfl (by omega) hke) ?_
          refine Jl.pv (PR.assign rfl) ?_
          refine Jl.nil ?_
          refine Jq.thenN ?_
          refine Jc.seq ?_
          refine Jc.region ?_
          refine Jl.pv (PR.move rfl) ?_
          refine Jl.pv (PR.move rfl) ?_
          refine Jl.pv (PR.move rfl) ?_
          refine Jl.pv (PR.idxO1 k rfl rfl tsl22 (by repeat (first | exact Del.here | apply Del.there)) rfl hk) ?_
          refine Jl.storeO rfl tsh3 rfl (by rfl) (by repeat (first | exact Swap.here | apply Swap.there)) (by simpa using hk) (i64s_set _ _ _) ?_
          refine Jl.sealC (by repeat (first | exact Del.here | apply Del.there)) (fun hc78 => ?_)
          refine Jl.nil ?_
          refine Jq.thenN ?_
          refine Jc.seq ?_
          refine Jc.region ?_
          refine Jl.pv (PR.move rfl) ?_
          refine Jl.call (cof_at (c.rowN.set k n) (by simp) (by omega) hc78) en11 (by rfl) (by repeat (first | exact Take.nil | apply Take.cons (by repeat (first | exact Del.here | apply Del.there)))) (by repeat (first | exact trivial | refine And.intro (by repeat (first | exact Mem.here | apply Mem.there)) ?_)) ?_
          rintro ⟨A95, c95⟩
          refine Jl.sealR (by repeat (first | exact Del.here | apply Del.there)) ?_
          refine Jl.pv (PR.move rfl) ?_
          refine Jl.pv (PR.extract rfl (by rfl)) ?_
          refine Jl.pv (PR.extract rfl (by rfl)) ?_
          refine Jl.alloc tze24 ?_
          intro b14
          refine Jl.storeW rfl tsh24 rfl (by rfl) (by first | exact cs_one _ _ | simp [Value.oneCell']) (by repeat (first | exact Swap.here | apply Swap.there)) (by rfl) ?_
          refine Jl.pv (PR.assign rfl) ?_
          refine Jl.nil ?_
          refine Jq.thenN ?_
          refine Jc.seq ?_
          refine Jc.drawn [0, 1, 3, 7, 7, 31, 7, 7, 7, 391, 903, 1991, 4095, 8191, 16383, 32767, 65535, 131071] ([(16, false), (17, false)], []) [⟨[(0, false), (1, false), (2, false), (3, false), (4, false), (6, false), (7, false), (8, false), (9, false), (10, false), (11, false)], [], 5⟩, ⟨[(12, false), (13, false), (14, false)], [], 15⟩] tmx (by kernel_rfl) ?_
          refine Dh.JH.cons ?_
          refine Dh.JB.pv rfl trivial (fun _ => PR.move rfl) ?_
          refine Dh.JB.pv rfl trivial (fun _ => PR.neq _ rfl rfl rfl) ?_
          refine Dh.JB.pv rfl trivial (fun _ => PR.move rfl) ?_
          refine Dh.JB.bsplit (fun g100 => ?_) (fun g100 => ?_)
          · try replace g100 := of_decide_eq_true g100
            refine Dh.JB.off rfl ⟨_, rfl, .inr rfl⟩ ?_
            refine Dh.JB.off rfl ⟨_, rfl, .inr rfl⟩ ?_
            refine Dh.JB.off rfl ⟨_, rfl, .inr rfl⟩ ?_
            refine Dh.JB.off rfl ⟨_, rfl, .inr rfl⟩ ?_
            refine Dh.JB.off rfl ⟨_, rfl, .inr rfl⟩ ?_
            refine Dh.JB.off rfl ⟨_, rfl, .inr rfl⟩ ?_
            refine Dh.JB.off rfl ⟨_, rfl, .inr rfl⟩ ?_
            refine Dh.JB.off rfl ⟨_, rfl, .inr rfl⟩ ?_
            refine Dh.JB.nil ?_
            refine Dh.JL.nil ?_
            refine Dh.JE.mk rfl (fun _ h => by cases h) (fun C11_5 => ?_)
            refine Jl.offS rfl rfl rfl ?_
            refine Jl.nil ?_
            refine Dh.Jq.segV (by repeat (first | exact Dh.FExt.refl | apply Dh.FExt.cons | apply Dh.FExt.app)) ?_ (by repeat (first | exact Dh.KeepL.nil | apply Dh.KeepL.anc (by rfl) | apply Dh.KeepL.keep (by repeat (first | exact Take.nil | apply Take.cons (by repeat (first | exact Del.here | apply Del.there))))))
            refine Dh.JH.cons ?_
            refine Dh.JB.off rfl ⟨_, rfl, .inr rfl⟩ ?_
            refine Dh.JB.pv rfl trivial (fun _ => PR.pickT rfl rfl) ?_
            refine Dh.JB.pv rfl trivial (fun _ => PR.move rfl) ?_
            refine Dh.JB.nil ?_
            refine Dh.JL.nil ?_
            refine Dh.JE.mk rfl (fun _ h => by cases h) (fun C11_15 => ?_)
            refine Jl.on rfl rfl ?_
            refine Jl.call cwakes_ct en8 (by rfl) (by repeat (first | exact Take.nil | apply Take.cons (by repeat (first | exact Del.here | apply Del.there)))) (by repeat (first | exact trivial | refine And.intro (by repeat (first | exact Mem.here | apply Mem.there)) ?_)) ?_
            rintro ⟨⟩
            refine Jl.nil ?_
            refine Dh.Jq.segV (by repeat (first | exact Dh.FExt.refl | apply Dh.FExt.cons | apply Dh.FExt.app)) ?_ (by repeat (first | exact Dh.KeepL.nil | apply Dh.KeepL.anc (by rfl) | apply Dh.KeepL.keep (by repeat (first | exact Take.nil | apply Take.cons (by repeat (first | exact Del.here | apply Del.there))))))
            refine Dh.JH.nil ?_
            refine Dh.JB.pv rfl trivial (fun _ => PR.pickT rfl rfl) ?_
            refine Dh.JB.pv rfl trivial (fun _ => PR.assign rfl) ?_
            refine Dh.JB.nil ?_
            refine Dh.JL.nil ?_
            refine Jq.thenN ?_
            refine Jc.ret ?_
            exact Jq.fin () (.inl rfl) rfl (RetVs.tmp rfl RetVs.nil) rfl (by repeat (first | exact Take.nil | apply Take.cons (by repeat (first | exact Del.here | apply Del.there)))) (by repeat (first | exact trivial | refine And.intro (by repeat (first | exact Mem.here | apply Mem.there)) ?_))
          · try replace g100 := of_decide_eq_false g100
            have hraw := ofE_0 (Decidable.of_not_not g100)
            have hro := row_of hraw
            have hsm : (sameC (cfOf (c.rowN.set k n)) c == decide (n = c.rowN.getD k 0)) = true := by
              rw [beq_iff_eq, Bool.eq_iff_iff, sameC_iff, decide_eq_true_eq, ← row_inj (of_ok hraw) hc, hro, getDE hk]
              constructor
              · intro h; have := congrArg (fun l => l[k]?) h; simpa [hk] using this
              · rintro rfl; exact List.set_getElem_self hk
            refine Dh.JB.rd [.blk _ _ _] rfl ⟨_, rfl, rfl⟩ (by repeat (first | exact Take.nil | apply Take.cons (by repeat (first | exact Del.here | apply Del.there)))) (fun _ => PR.loadW rfl tsh24 Has.here (by rfl)) ?_
            refine Dh.JB.rd [.blk _ _ _] rfl ⟨_, rfl, rfl⟩ (by repeat (first | exact Take.nil | apply Take.cons (by repeat (first | exact Del.here | apply Del.there)))) (fun _ => PR.loadW rfl tsh24 Has.here (by rfl)) ?_
            refine Dh.JB.pv rfl ⟨_, rfl, rfl⟩ (fun _ => PR.move rfl) ?_
            refine Dh.JB.pv rfl ⟨_, rfl, rfl⟩ (fun _ => PR.move rfl) ?_
            refine Dh.JB.pv rfl ⟨_, rfl, rfl⟩ (fun _ => PR.move rfl) ?_
            refine Dh.JB.pv rfl ⟨_, rfl, rfl⟩ (fun _ => PR.idx1 k rfl rfl tsl22 (by repeat (first | exact Mem.here | apply Mem.there)) (by simp) rfl hk) ?_
            refine Dh.JB.pv rfl ⟨_, rfl, rfl⟩ (fun _ => PR.loadR rfl tsh3 (by repeat (first | exact Mem.here | apply Mem.there)) (getd hk)) ?_
            refine Dh.JB.pv rfl ⟨_, rfl, rfl⟩ (fun _ => PR.eql _ rfl rfl rfl) ?_
            refine Dh.JB.nil ?_
            refine Dh.JL.nil ?_
            refine Dh.JE.mk rfl (fun _ h => by cases h) (fun C11_5 => ?_)
            refine Jl.on rfl rfl ?_
            refine Jl.call (csame_ct (cfOf (c.rowN.set k n)) c (A95, c95) x (by have := cfOf_ms (c.rowN.set k n); simp at this; omega)) en21 (by rfl) (by repeat (first | exact Take.nil | apply Take.cons (by repeat (first | exact Del.here | apply Del.there)))) (by repeat (first | exact trivial | refine And.intro (by repeat (first | exact Mem.here | apply Mem.there)) ?_)) ?_
            rintro ⟨⟩
            refine Jl.nil ?_
            refine Dh.Jq.segV (by repeat (first | exact Dh.FExt.refl | apply Dh.FExt.cons | apply Dh.FExt.app)) ?_ (by repeat (first | exact Dh.KeepL.nil | apply Dh.KeepL.anc (by rfl) | apply Dh.KeepL.keep (by repeat (first | exact Take.nil | apply Take.cons (by repeat (first | exact Del.here | apply Del.there))))))
            refine Dh.JH.cons ?_
            refine Dh.JB.pv rfl ⟨_, rfl, rfl⟩ (fun _ => PR.beql true Tryd.underlying4 rfl rfl hsm) ?_
            refine Dh.JB.pv rfl trivial (fun _ => PR.pickF rfl rfl) ?_
            refine Dh.JB.pv rfl trivial (fun _ => PR.move rfl) ?_
            refine Dh.JB.nil ?_
            refine Dh.JL.nil ?_
            refine Dh.JE.mk rfl (fun _ h => by cases h) (fun C11_15 => ?_)
            refine Jl.on rfl rfl ?_
            refine Jl.call cwakes_ct en8 (by rfl) (by repeat (first | exact Take.nil | apply Take.cons (by repeat (first | exact Del.here | apply Del.there)))) (by repeat (first | exact trivial | refine And.intro (by repeat (first | exact Mem.here | apply Mem.there)) ?_)) ?_
            rintro ⟨⟩
            refine Jl.nil ?_
            refine Dh.Jq.segV (by repeat (first | exact Dh.FExt.refl | apply Dh.FExt.cons | apply Dh.FExt.app)) ?_ (by repeat (first | exact Dh.KeepL.nil | apply Dh.KeepL.anc (by rfl) | apply Dh.KeepL.keep (by repeat (first | exact Take.nil | apply Take.cons (by repeat (first | exact Del.here | apply Del.there))))))
            refine Dh.JH.nil ?_
            refine Dh.JB.pv rfl trivial (fun _ => PR.pickT rfl rfl) ?_
            refine Dh.JB.pv rfl trivial (fun _ => PR.assign rfl) ?_
            refine Dh.JB.nil ?_
            refine Dh.JL.nil ?_
            refine Jq.thenN ?_
            refine Jc.ret ?_
            exact Jq.fin () (.inl rfl) rfl (RetVs.tmp rfl RetVs.nil) rfl (by repeat (first | exact Take.nil | apply Take.cons (by repeat (first | exact Del.here | apply Del.there)))) (by repeat (first | exact trivial | refine And.intro (by repeat (first | exact Mem.here | apply Mem.there)) ?_))
/-- A group with another number. -/
def Cf.put (c : Cf) (v : Int) : Nat → Cf
  | 0 => { c with d := v } | 1 => { c with mn := v } | 2 => { c with su := v } | 3 => { c with po := v } | 4 => { c with hi := v } | 5 => { c with ho := v } | 6 => { c with wu := v } | 7 => { c with dr := v } | 8 => { c with re := v }
  | 9 => { c with ti := v } | 10 => { c with fa := v } | 11 => { c with de := v } | _ => { c with ve := v }
theorem put_put (c : Cf) (x : AdC) (v : Int) : ∀ {k : Nat}, k < 13 → putL (c.cs x) k [.int .i64 v] = some ((c.put v k).cs x)
  | 0, _ => rfl | 1, _ => rfl | 2, _ => rfl | 3, _ => rfl | 4, _ => rfl | 5, _ => rfl | 6, _ => rfl | 7, _ => rfl | 8, _ => rfl | 9, _ => rfl | 10, _ => rfl | 11, _ => rfl | 12, _ => rfl
  | k + 13, h => by omega
theorem put_ms (c : Cf) (v : Int) : ∀ {k : Nat}, k < 13 → (c.put v k).ms = c.ms
  | 0, _ => rfl | 1, _ => rfl | 2, _ => rfl | 3, _ => rfl | 4, _ => rfl | 5, _ => rfl | 6, _ => rfl | 7, _ => rfl | 8, _ => rfl | 9, _ => rfl | 10, _ => rfl | 11, _ => rfl | 12, _ => rfl
  | k + 13, h => by omega
theorem put_nth (c : Cf) (v : Int) : ∀ {k : Nat}, k < 13 → (c.put v k).nth k = v
  | 0, _ => rfl | 1, _ => rfl | 2, _ => rfl | 3, _ => rfl | 4, _ => rfl | 5, _ => rfl | 6, _ => rfl | 7, _ => rfl | 8, _ => rfl | 9, _ => rfl | 10, _ => rfl | 11, _ => rfl | 12, _ => rfl
  | k + 13, h => by omega
theorem lim_low : ∀ {k : Nat}, k < 13 → 0 ≤ (limAt k).1 ∧ (limAt k).2 ≤ 1099511627776 ∧ 0 ≤ (limAt k).2
  | 0, _ => by decide | 1, _ => by decide | 2, _ => by decide | 3, _ => by decide | 4, _ => by decide | 5, _ => by decide | 6, _ => by decide | 7, _ => by decide | 8, _ => by decide | 9, _ => by decide | 10, _ => by decide | 11, _ => by decide | 12, _ => by decide
  | k + 13, h => by omega
theorem put_bad {c : Cf} {v : Int} {k : Nat} (hc : c.ok = true) (hk : k < 13) (h : v < 0 ∨ (limAt k).2 < v) : ¬ (c.put v k).ok = true ∧ sameC (c.put v k) c = false := by
  have hl := lim_low hk
  have hn : inB ((c.put v k).nth k) (limAt k) = false := by
    rw [put_nth c v hk]
    exact inB_not.2 fun hb => by omega
  refine ⟨no_at k hk hn, sameC_no fun e => ?_⟩
  rw [e] at hn
  have := fOk_iff.1 (Cf.ok_f hc) k hk
  rw [hn] at this; cases this
def tops : List Value := lims.map fun p => .int .i64 p.2
theorem tops_at : ∀ {k : Nat}, k < 13 → tops[0 + k * 1]? = some (.int .i64 (limAt k).2)
  | 0, _ => rfl | 1, _ => rfl | 2, _ => rfl | 3, _ => rfl | 4, _ => rfl | 5, _ => rfl | 6, _ => rfl | 7, _ => rfl | 8, _ => rfl | 9, _ => rfl | 10, _ => rfl | 11, _ => rfl | 12, _ => rfl
  | k + 13, h => by omega
theorem ptr_at' (b : Nat) {k : Nat} (h : k < 13) : (ptrs b)[0 + k * 1]? = some (.pointer (some ⟨b, k, none⟩)) := by rw [Nat.zero_add, Nat.mul_one]; exact ptr_at b h
/-- May a mark stand ahead? -/
def rise (c : Cf) (m : Int) : Bool := (decide (1 ≤ m) && decide (m ≤ 100)) && ((decide (c.ms.length = 0) || decide (m < c.ms.getD 0 0)) && decide (c.ms.length < 4))
theorem ms_app {c : Cf} (n : Int) (hn : 1 ≤ n) : ¬ ({ c with ms := c.ms ++ [100 + n] } : Cf).ok = true := fun h =>
  mOkAt_1 (l := c.ms ++ [100 + n]) (k := c.ms.length) (by simp) (by simp [inB]; omega) (Cf.ok_s h)
theorem ms_cons {c : Cf} (m : Int) (hc : c.ok = true) : ({ c with ms := m :: c.ms } : Cf).ok = rise c m := by
  have hm := mOk_iff.1 (Cf.ok_s hc)
  rw [Bool.eq_iff_iff]
  constructor
  · intro h
    have h4 := Cf.ok_m h
    have hs := mOk_iff.1 (Cf.ok_s h)
    simp only [List.length_cons] at h4
    have h0 := hs 0 (by simp)
    simp only [mOkAt, Bool.and_eq_true, inB_iff] at h0
    have e0 : (m :: c.ms).getD 0 0 = m := rfl
    rw [e0] at h0
    simp only [rise, Bool.and_eq_true, Bool.or_eq_true, decide_eq_true_eq]
    refine ⟨⟨h0.1.1, h0.1.2⟩, ?_, by omega⟩
    by_cases hz : c.ms.length = 0
    · exact .inl hz
    · have h1 := hs 1 (by simp only [List.length_cons]; omega)
      simp only [mOkAt, Bool.and_eq_true, Bool.or_eq_true, decide_eq_true_eq] at h1
      have e1 : (m :: c.ms).getD 1 0 = c.ms.getD 0 0 := rfl
      rw [e1] at h1
      have e2 : (m :: c.ms).getD (1 - 1) 0 = m := rfl
      rw [e2] at h1
      exact .inr (h1.2.resolve_left (by omega))
  · intro h
    simp only [rise, Bool.and_eq_true, Bool.or_eq_true, decide_eq_true_eq] at h
    have hf9 : c.fOk = true := Cf.ok_f hc
    have hl9 := Cf.ok_l hc
    refine Cf.ok_mk hf9 (by simp only [List.length_cons]; omega) (mOk_iff.2 fun k hk => ?_) hl9
    cases k with
    | zero => simp only [mOkAt, Bool.and_eq_true, inB_iff]; exact ⟨h.1, by simp⟩
    | succ k =>
      simp only [List.length_cons] at hk
      have h1 := hm k (by omega)
      simp only [mOkAt, Bool.and_eq_true, Bool.or_eq_true, decide_eq_true_eq] at h1 ⊢
      have e1 : (m :: c.ms).getD (k + 1) 0 = c.ms.getD k 0 := rfl
      rw [e1]
      refine ⟨h1.1, .inr ?_⟩
      cases k with
      | zero => exact h.2.1.resolve_left (by omega)
      | succ k => exact h1.2.resolve_left (by omega)
theorem sk_ok (c : Cf) (b : Bool) : ({ c with sk := b } : Cf).ok = c.ok := rfl
set_option maxHeartbeats 1000000 in
theorem confOne_ct (x : AdC) (c : Cf) (n m : Int) : Ct Tryd.prog 6 [c.v x, .int .i64 n, .int .i64 m] [] [.rd x.1 (i64s c.ms), .lim] (fun _ : Unit => .bool true) (fun _ => []) (fun _ => []) := by
  obtain ⟨A, cA⟩ := x
  refine Ct.of _ Tryd.func6 Tryd.ntmps6 rfl rfl (fun X W => ?_)
  refine Jc.seq ?_
  refine Jc.region ?_
  refine Jl.box rfl (by rfl) ?_
  intro b3
  refine Jl.pv (PR.assign rfl) ?_
  refine Jl.nil ?_
  refine Jq.thenN ?_
  refine Jc.seq ?_
  refine Jc.seq ?_
  refine Jc.region ?_
  refine Jl.pv (PR.fieldAddr rfl tfl24_14) ?_
  refine Jl.pv (PR.load1 rfl tsh22 (by repeat (first | exact Has.here | apply Has.there)) (by rfl)) ?_
  refine Jl.pv (PR.len rfl tsl22) ?_
  refine Jl.pv (PR.gtr _ rfl rfl rfl) ?_
  refine Jl.pv (PR.move rfl) ?_
  refine Jl.bsplit (fun g19 => ?_) (fun g19 => ?_)
  · try replace g19 := of_decide_eq_true g19
    refine Jl.offS rfl rfl rfl ?_
    refine Jl.offS rfl rfl rfl ?_
    refine Jl.offS rfl rfl rfl ?_
    refine Jl.pv (PR.pickT rfl rfl) ?_
    refine Jl.pv (PR.move rfl) ?_
    refine Jl.offS rfl rfl rfl ?_
    refine Jl.offS rfl rfl rfl ?_
    refine Jl.pv (PR.pickT rfl rfl) ?_
    refine Jl.pv (PR.move rfl) ?_
    refine Jl.offS rfl rfl rfl ?_
    refine Jl.offS rfl rfl rfl ?_
    refine Jl.pv (PR.pickT rfl rfl) ?_
    refine Jl.nil ?_
    refine Jq.thenN ?_
    refine Jc.condT rfl ?_
    refine Jc.seq ?_
    refine Jc.region ?_
    refine Jl.call cwakes_ct en8 (by rfl) (by repeat (first | exact Take.nil | apply Take.cons (by repeat (first | exact Del.here | apply Del.there)))) (by repeat (first | exact trivial | refine And.intro (by repeat (first | exact Mem.here | apply Mem.there)) ?_)) ?_
    rintro ⟨⟩
    refine Jl.pv (PR.assign rfl) ?_
    refine Jl.nil ?_
    refine Jq.thenN ?_
    refine Jc.ret ?_
    refine Jq.thenR ?_
    exact Jq.fin () (.inl rfl) rfl (RetVs.tmp rfl RetVs.nil) rfl (by repeat (first | exact Take.nil | apply Take.cons (by repeat (first | exact Del.here | apply Del.there)))) (by repeat (first | exact trivial | refine And.intro (by repeat (first | exact Mem.here | apply Mem.there)) ?_))
  · try replace g19 := of_decide_eq_false g19
    refine Jl.on rfl rfl ?_
    refine Jl.pv (PR.loadW rfl tsh24 (by repeat (first | exact Has.here | apply Has.there)) (by rfl)) ?_
    refine Jl.on rfl rfl ?_
    refine Jl.call (rcheck_ct c (A, cA) (by omega)) en10 (by rfl) (by repeat (first | exact Take.nil | apply Take.cons (by repeat (first | exact Del.here | apply Del.there)))) (by repeat (first | exact trivial | refine And.intro (by repeat (first | exact Mem.here | apply Mem.there)) ?_)) ?_
    rintro ⟨⟩
    refine Jl.on rfl rfl ?_
    refine Jl.pv (PR.neq _ rfl rfl rfl) ?_
    refine Jl.pv (PR.pickF rfl rfl) ?_
    refine Jl.pv (PR.move rfl) ?_
    refine Jl.bsplit (fun g24 => ?_) (fun g24 => ?_)
    · try replace g24 := of_decide_eq_true g24
      refine Jl.offS rfl rfl rfl ?_
      refine Jl.offS rfl rfl rfl ?_
      refine Jl.pv (PR.pickT rfl rfl) ?_
      refine Jl.pv (PR.move rfl) ?_
      refine Jl.offS rfl rfl rfl ?_
      refine Jl.offS rfl rfl rfl ?_
      refine Jl.pv (PR.pickT rfl rfl) ?_
      refine Jl.nil ?_
      refine Jq.thenN ?_
      refine Jc.condT rfl ?_
      refine Jc.seq ?_
      refine Jc.region ?_
      refine Jl.call cwakes_ct en8 (by rfl) (by repeat (first | exact Take.nil | apply Take.cons (by repeat (first | exact Del.here | apply Del.there)))) (by repeat (first | exact trivial | refine And.intro (by repeat (first | exact Mem.here | apply Mem.there)) ?_)) ?_
      rintro ⟨⟩
      refine Jl.pv (PR.assign rfl) ?_
      refine Jl.nil ?_
      refine Jq.thenN ?_
      refine Jc.ret ?_
      refine Jq.thenR ?_
      exact Jq.fin () (.inl rfl) rfl (RetVs.tmp rfl RetVs.nil) rfl (by repeat (first | exact Take.nil | apply Take.cons (by repeat (first | exact Del.here | apply Del.there)))) (by repeat (first | exact trivial | refine And.intro (by repeat (first | exact Mem.here | apply Mem.there)) ?_))
    · try replace g24 := of_decide_eq_false g24
      refine Jl.on rfl rfl ?_
      refine Jl.pv (PR.move rfl) ?_
      refine Jl.on rfl rfl ?_
      refine Jl.pv (PR.lss _ rfl rfl rfl) ?_
      refine Jl.pv (PR.pickF rfl rfl) ?_
      refine Jl.pv (PR.move rfl) ?_
      refine Jl.bsplit (fun g28 => ?_) (fun g28 => ?_)
      · try replace g28 := of_decide_eq_true g28
        refine Jl.offS rfl rfl rfl ?_
        refine Jl.offS rfl rfl rfl ?_
        refine Jl.pv (PR.pickT rfl rfl) ?_
        refine Jl.nil ?_
        refine Jq.thenN ?_
        refine Jc.condT rfl ?_
        refine Jc.seq ?_
        refine Jc.region ?_
        refine Jl.call cwakes_ct en8 (by rfl) (by repeat (first | exact Take.nil | apply Take.cons (by repeat (first | exact Del.here | apply Del.there)))) (by repeat (first | exact trivial | refine And.intro (by repeat (first | exact Mem.here | apply Mem.there)) ?_)) ?_
        rintro ⟨⟩
        refine Jl.pv (PR.assign rfl) ?_
        refine Jl.nil ?_
        refine Jq.thenN ?_
        refine Jc.ret ?_
        refine Jq.thenR ?_
        exact Jq.fin () (.inl rfl) rfl (RetVs.tmp rfl RetVs.nil) rfl (by repeat (first | exact Take.nil | apply Take.cons (by repeat (first | exact Del.here | apply Del.there)))) (by repeat (first | exact trivial | refine And.intro (by repeat (first | exact Mem.here | apply Mem.there)) ?_))
      · try replace g28 := of_decide_eq_false g28
        refine Jl.on rfl rfl ?_
        refine Jl.pv (PR.move rfl) ?_
        refine Jl.on rfl rfl ?_
        refine Jl.pv (PR.gtr _ rfl rfl rfl) ?_
        refine Jl.pv (PR.pickF rfl rfl) ?_
        refine Jl.nil ?_
        refine Jq.thenN ?_
        refine Jc.cond rfl (fun h0 => ?_) (fun h0 => ?_)
        · try replace h0 := of_decide_eq_true h0
          refine Jc.seq ?_
          refine Jc.region ?_
          refine Jl.call cwakes_ct en8 (by rfl) (by repeat (first | exact Take.nil | apply Take.cons (by repeat (first | exact Del.here | apply Del.there)))) (by repeat (first | exact trivial | refine And.intro (by repeat (first | exact Mem.here | apply Mem.there)) ?_)) ?_
          rintro ⟨⟩
          refine Jl.pv (PR.assign rfl) ?_
          refine Jl.nil ?_
          refine Jq.thenN ?_
          refine Jc.ret ?_
          refine Jq.thenR ?_
          exact Jq.fin () (.inl rfl) rfl (RetVs.tmp rfl RetVs.nil) rfl (by repeat (first | exact Take.nil | apply Take.cons (by repeat (first | exact Del.here | apply Del.there)))) (by repeat (first | exact trivial | refine And.intro (by repeat (first | exact Mem.here | apply Mem.there)) ?_))
        · try replace h0 := of_decide_eq_false h0
          have hn : c.ms.length ≤ 60 := by omega
          have hc : c.ok = true := chk_0 (Decidable.of_not_not g24)
          have hm4 := Cf.ok_m hc
          refine Jc.skip ?_
          refine Jq.thenN ?_
          refine Jc.seq ?_
          refine Jc.seq ?_
          refine Jc.region ?_
          refine Jl.pv (PR.assign rfl) ?_
          refine Jl.nil ?_
          refine Jq.thenN ?_
          refine Jc.block ?_
          refine Jc.loop (σ := { i : Nat // i ≤ 26 }) (fun s => [(7, .int .i64 (s.1 : Int)), (3, .pointer (some ⟨b3, 0, none⟩)), (1, .int .i64 n), (2, .int .i64 m)]) (fun _ => [.blk b3 24 (c.cs (A, cA))]) (fun _ => [.rd A (i64s c.ms), .lim]) (fun s => 26 - s.1) ⟨0, by omega⟩ (by repeat (first | exact trivial | refine And.intro rfl ?_)) rfl (by repeat (first | exact trivial | refine And.intro (by repeat (first | exact Mem.here | apply Mem.there)) ?_)) ?_
          rintro ⟨i, hi⟩
          show Jc _ _ _ _ _ _ [(7, Value.int .i64 (i : Int)), (3, .pointer (some ⟨b3, 0, none⟩)), (1, .int .i64 n), (2, .int .i64 m)] [.blk b3 24 (c.cs (A, cA))] [.rd A (i64s c.ms), .lim]
          refine Jc.seq ?_
          refine Jc.seq ?_
          refine Jc.region ?_
          refine Jl.pv (PR.move rfl) ?_
          refine Jl.pv (PR.lss _ rfl rfl rfl) ?_
          refine Jl.nil ?_
          refine Jq.thenN ?_
          refine Jc.cond rfl (fun h1 => ?_) (fun h1 => ?_)
          · try replace h1 := of_decide_eq_true h1
            refine Jc.skip ?_
            refine Jq.thenN ?_
            refine Jc.seq ?_
            refine Jc.block ?_
            refine Jc.seq ?_
            refine Jc.region ?_
            refine Jl.pv (PR.loadW rfl tsh24 (by repeat (first | exact Has.here | apply Has.there)) (by rfl)) ?_
            refine Jl.alloc tze24 ?_
            intro b8
            refine Jl.storeW rfl tsh24 rfl (by rfl) (by first | exact cs_one _ _ | simp [Value.oneCell']) (by repeat (first | exact Swap.here | apply Swap.there)) (by rfl) ?_
            refine Jl.nil ?_
            refine Jq.thenN ?_
            refine Jc.seq ?_
            refine Jc.region ?_
            refine Jl.pv (PR.fieldAddr rfl tfl24_0) ?_
            refine Jl.pv (PR.fieldAddr rfl tfl24_1) ?_
            refine Jl.pv (PR.fieldAddr rfl tfl24_2) ?_
            refine Jl.pv (PR.fieldAddr rfl tfl24_3) ?_
            refine Jl.pv (PR.fieldAddr rfl tfl24_4) ?_
            refine Jl.pv (PR.fieldAddr rfl tfl24_5) ?_
            refine Jl.pv (PR.fieldAddr rfl tfl24_6) ?_
            refine Jl.pv (PR.fieldAddr rfl tfl24_7) ?_
            refine Jl.pv (PR.fieldAddr rfl tfl24_8) ?_
            refine Jl.pv (PR.fieldAddr rfl tfl24_9) ?_
            refine Jl.pv (PR.fieldAddr rfl tfl24_10) ?_
            refine Jl.pv (PR.fieldAddr rfl tfl24_11) ?_
            refine Jl.pv (PR.fieldAddr rfl tfl24_12) ?_
            refine Jl.pv (PR.build (by rfl) tze39 tpl39_0_1_2_3_4_5_6_7_8_9_10_11_12 (by rfl)) ?_
            refine Jl.alloc tze39 ?_
            intro b9
            refine Jl.storeW rfl tsh39 rfl (by rfl) (by first | exact cs_one _ _ | simp [Value.oneCell']) (by repeat (first | exact Swap.here | apply Swap.there)) (by rfl) ?_
            refine Jl.nil ?_
            refine Jq.thenN ?_
            refine Jc.seq ?_
            refine Jc.region ?_
            refine Jl.pv (PR.build (by rfl) tze40 tpl40_0_1_2_3_4_5_6_7_8_9_10_11_12 (by rfl)) ?_
            refine Jl.alloc tze40 ?_
            intro b10
            refine Jl.storeW rfl tsh40 rfl (by rfl) (by first | exact cs_one _ _ | simp [Value.oneCell']) (by repeat (first | exact Swap.here | apply Swap.there)) (by rfl) ?_
            refine Jl.nil ?_
            refine Jq.thenN ?_
            refine Jc.mid (σ := { s : Nat × Cf // ¬ s.2.ok = true ∧ sameC s.2 c = false ∧ s.2.ms = c.ms }) (fun s => [(7, .int .i64 (i : Int)), (8, .pointer (some ⟨s.1.1, 0, none⟩)), (3, .pointer (some ⟨b3, 0, none⟩)), (1, .int .i64 n), (2, .int .i64 m)]) (fun s => [.blk s.1.1 24 (s.1.2.cs (A, cA)), .blk b3 24 (c.cs (A, cA))]) (fun _ => [.rd A (i64s c.ms), .lim]) ?_ ?_
            · refine Jc.seq ?_
              refine Jc.region ?_
              refine Jl.pv (PR.move rfl) ?_
              refine Jl.pv (PR.lss _ rfl rfl rfl) ?_
              refine Jl.nil ?_
              refine Jq.thenN ?_
              refine Jc.cond rfl (fun h2 => ?_) (fun h2 => ?_)
              · try replace h2 := of_decide_eq_true h2
                have hk : i < 13 := by omega
                have hll := lim_low hk
                have hbad := put_bad (v := (limAt i).2 + n) hc hk (.inr (by omega))
                refine Jc.drawn [0, 1, 3, 0, 8, 24, 0, 120, 255, 511] ([], []) [⟨[(0, false), (1, false), (2, false), (3, false), (4, false), (5, false), (6, false), (7, false), (8, false)], [], 9⟩] tmx (by kernel_rfl) ?_
                refine Dh.JH.cons ?_
                refine Dh.JB.pv rfl trivial (fun _ => PR.move rfl) ?_
                refine Dh.JB.pv rfl trivial (fun _ => PR.idxA i rfl rfl tar39 rfl hk) ?_
                refine Dh.JB.rd [.blk _ _ _] rfl trivial (by repeat (first | exact Take.nil | apply Take.cons (by repeat (first | exact Del.here | apply Del.there)))) (fun _ => PR.load1 rfl tsh38 Has.here (ptr_at' b8 hk)) ?_
                refine Dh.JB.pv rfl trivial (fun _ => PR.move rfl) ?_
                refine Dh.JB.pv rfl trivial (fun _ => PR.idxA i rfl rfl tar40 rfl hk) ?_
                refine Dh.JB.rd [.blk _ _ _] rfl trivial (by repeat (first | exact Take.nil | apply Take.cons (by repeat (first | exact Del.here | apply Del.there)))) (fun _ => PR.load1 rfl tsh3 Has.here (tops_at hk)) ?_
                refine Dh.JB.pv rfl trivial (fun _ => PR.move rfl) ?_
                refine Dh.JB.pv rfl trivial (fun _ => PR.add ((limAt i).2 + n) rfl rfl (w64 (by omega) (by omega))) ?_
                refine Dh.JB.pv rfl trivial (fun _ => PR.nilCheck rfl) ?_
                refine Dh.JB.nil ?_
                refine Dh.JL.nil ?_
                refine Dh.JE.mk rfl (fun _ h => by cases h) (fun C10_9 => ?_)
                refine Jl.store1 rfl tsh3 rfl (by rfl) (by repeat (first | exact Swap.here | apply Swap.there)) (put_put c (A, cA) _ hk) ?_
                refine Jl.nil ?_
                refine Dh.Jq.segN (by repeat (first | exact Dh.FExt.refl | apply Dh.FExt.cons | apply Dh.FExt.app)) ?_ (by repeat (first | exact Dh.KeepL.nil | apply Dh.KeepL.anc (by rfl) | apply Dh.KeepL.keep (by repeat (first | exact Take.nil | apply Take.cons (by repeat (first | exact Del.here | apply Del.there))))))
                refine Dh.JH.nil ?_
                refine Dh.JB.nil ?_
                refine Dh.JL.nil ?_
                exact Jq.midT ⟨(b8, c.put ((limAt i).2 + n) i), hbad.1, hbad.2, put_ms c _ hk⟩ (by repeat (first | exact trivial | refine And.intro rfl ?_)) (by repeat (first | exact Take.nil | apply Take.cons (by repeat (first | exact Del.here | apply Del.there)))) (by repeat (first | exact trivial | refine And.intro (by repeat (first | exact Mem.here | apply Mem.there)) ?_))
              · try replace h2 := of_decide_eq_false h2
                have hk : i - 13 < 13 := by omega
                have hbad := put_bad (v := -n) hc hk (.inl (by omega))
                refine Jc.region ?_
                refine Jl.pv (PR.move rfl) ?_
                refine Jl.pv (PR.sub ((i - 13 : Nat) : Int) rfl rfl (by rw [w64 (by omega) (by omega)]; omega)) ?_
                refine Jl.pv (PR.idxA (i - 13) rfl rfl tar39 rfl hk) ?_
                refine Jl.pv (PR.load1 rfl tsh38 (by repeat (first | exact Has.here | apply Has.there)) (ptr_at' b8 hk)) ?_
                refine Jl.pv (PR.move rfl) ?_
                refine Jl.pv (PR.neg (-n) rfl (by rw [w64 (by omega) (by omega)]; omega)) ?_
                refine Jl.pv (PR.nilCheck rfl) ?_
                refine Jl.store1 rfl tsh3 rfl (by rfl) (by repeat (first | exact Swap.here | apply Swap.there)) (put_put c (A, cA) _ hk) ?_
                refine Jl.nil ?_
                exact Jq.midT ⟨(b8, c.put (-n) (i - 13)), hbad.1, hbad.2, put_ms c _ hk⟩ (by repeat (first | exact trivial | refine And.intro rfl ?_)) (by repeat (first | exact Take.nil | apply Take.cons (by repeat (first | exact Del.here | apply Del.there)))) (by repeat (first | exact trivial | refine And.intro (by repeat (first | exact Mem.here | apply Mem.there)) ?_))
            · rintro ⟨⟨b8, c'⟩, hb1, hb2, hb3⟩
              refine Jc.seq ?_
              refine Jc.region ?_
              refine Jl.pv (PR.loadW rfl tsh24 (by repeat (first | exact Has.here | apply Has.there)) (by rfl)) ?_
              refine Jl.fact (.rd A (i64s c'.ms)) (φ := .rd A (i64s c.ms)) (by repeat (first | exact Mem.here | apply Mem.there)) (fun X W h => by simp only at hb3; rw [hb3]; exact h) ?_
              refine Jl.call (ccheck_ct c' (A, cA) (by simp only at hb3; rw [hb3]; omega)) en14 (by rfl) (by repeat (first | exact Take.nil | apply Take.cons (by repeat (first | exact Del.here | apply Del.there)))) (by repeat (first | exact trivial | refine And.intro (by repeat (first | exact Mem.here | apply Mem.there)) ?_)) ?_
              rintro ⟨⟩
              refine Jl.pv (PR.neq false rfl rfl (by rw [c'.chk_no hb1]; rfl)) ?_
              refine Jl.pv (PR.move rfl) ?_
              refine Jl.on rfl rfl ?_
              refine Jl.pv (PR.loadW rfl tsh24 (by repeat (first | exact Has.here | apply Has.there)) (by rfl)) ?_
              refine Jl.on rfl rfl ?_
              refine Jl.pv (PR.loadW rfl tsh24 (by repeat (first | exact Has.here | apply Has.there)) (by rfl)) ?_
              refine Jl.on rfl rfl ?_
              refine Jl.call (csame_ct c' c (A, cA) (A, cA) (by simp only at hb3; rw [hb3]; omega)) en21 (by rfl) (by repeat (first | exact Take.nil | apply Take.cons (by repeat (first | exact Del.here | apply Del.there)))) (by repeat (first | exact trivial | refine And.intro (by repeat (first | exact Mem.here | apply Mem.there)) ?_)) ?_
              rintro ⟨⟩
              refine Jl.as (.bool false) (congrArg Value.bool hb2) ?_
              refine Jl.pv (PR.pickF rfl rfl) ?_
              refine Jl.nil ?_
              refine Jq.thenN ?_
              refine Jc.condF rfl ?_
              refine Jc.skip ?_
              refine Jq.blkN ?_
              refine Jq.thenN ?_
              refine Jc.region ?_
              refine Jl.pv (PR.move rfl) ?_
              refine Jl.pv (PR.add ((i + 1 : Nat) : Int) rfl rfl (by rw [w64 (by omega) (by omega)]; rfl)) ?_
              refine Jl.pv (PR.assign rfl) ?_
              refine Jl.nil ?_
              refine Jq.againT ⟨i + 1, by omega⟩ (by simp only; omega) (by repeat (first | exact trivial | refine And.intro rfl ?_)) (by repeat (first | exact Take.nil | apply Take.cons (by repeat (first | exact Del.here | apply Del.there)))) (by repeat (first | exact trivial | refine And.intro (by repeat (first | exact Mem.here | apply Mem.there)) ?_))
          · try replace h1 := of_decide_eq_false h1
            refine Jc.exit ?_
            refine Jq.thenX ?_
            refine Jq.thenX ?_
            refine Jq.blkX ?_
            refine Jq.thenN ?_
            refine Jc.seq ?_
            refine Jc.region ?_
            refine Jl.pv (PR.loadW rfl tsh24 (by repeat (first | exact Has.here | apply Has.there)) (by rfl)) ?_
            refine Jl.alloc tze24 ?_
            intro b11
            refine Jl.storeW rfl tsh24 rfl (by rfl) (by first | exact cs_one _ _ | simp [Value.oneCell']) (by repeat (first | exact Swap.here | apply Swap.there)) (by rfl) ?_
            refine Jl.nil ?_
            refine Jq.thenN ?_
            refine Jc.seq ?_
            refine Jc.region ?_
            refine Jl.buildSlice (by rfl) tsl22 tzr22_0 (by rfl) (by rfl) ?_
            intro b80
            refine Jl.pv (PR.fieldAddr rfl tfl24_14) ?_
            refine Jl.pv (PR.load1 rfl tsh22 (by repeat (first | exact Has.here | apply Has.there)) (by rfl)) ?_
            refine Jl.toRow 1 0 (by repeat (first | exact Swap.here | apply Swap.there)) (by rfl) (by rfl) ?_
            refine Jl.append c.ms.length (i64s c.ms) rfl rfl rfl tsl22 tze3 (by rfl) (by decide) tby3 (fun _ _ => (by repeat (first | exact Swap.here | apply Swap.there))) (by repeat (first | exact Mem.here | apply Mem.there)) (by omega) rfl (by simp) (i64s_one _) (by omega) (by decide) ?_
            intro A83 c83
            refine Jl.pv (PR.move rfl) ?_
            refine Jl.pv (PR.add (100 + n) rfl rfl (w64 (by omega) (by omega))) ?_
            refine Jl.buildSlice (by rfl) tsl22 tzr22_1 (by rfl) (by rfl) ?_
            intro b86
            refine Jl.seal (by repeat (first | exact Del.here | apply Del.there)) ?_
            refine Jl.append (c.ms ++ [100 + n]).length (i64s (c.ms ++ [100 + n])) rfl rfl rfl tsl22 tze3 (by rfl) (by decide) tby3 (fun _ _ => (by repeat (first | exact Swap.here | apply Swap.there))) (by repeat (first | exact Mem.here | apply Mem.there)) (by simp) (by simp) (by rfl) (by simp [Value.oneCell']) (by omega) (by decide) ?_
            intro A87 c87
            refine Jl.pv (PR.fieldAddr rfl tfl24_14) ?_
            refine Jl.store1 rfl tsh22 rfl (by rfl) (by repeat (first | exact Swap.here | apply Swap.there)) (by rfl) ?_
            refine Jl.nil ?_
            refine Jq.thenN ?_
            refine Jc.seq ?_
            refine Jc.region ?_
            refine Jl.pv (PR.loadW rfl tsh24 (by repeat (first | exact Has.here | apply Has.there)) (by rfl)) ?_
            refine Jl.alloc tze24 ?_
            intro b12
            refine Jl.storeW rfl tsh24 rfl (by rfl) (by first | exact cs_one _ _ | simp [Value.oneCell']) (by repeat (first | exact Swap.here | apply Swap.there)) (by rfl) ?_
            refine Jl.nil ?_
            refine Jq.thenN ?_
            refine Jc.seq ?_
            refine Jc.region ?_
            refine Jl.pv (PR.move rfl) ?_
            refine Jl.buildSlice (by rfl) tsl22 tzr22_1 (by rfl) (by rfl) ?_
            intro b91
            refine Jl.pv (PR.fieldAddr rfl tfl24_14) ?_
            refine Jl.pv (PR.load1 rfl tsh22 (by repeat (first | exact Has.here | apply Has.there)) (by rfl)) ?_
            refine Jl.toRow 1 1 (by repeat (first | exact Swap.here | apply Swap.there)) (by rfl) (by rfl) ?_
            refine Jl.append (m :: c.ms).length (i64s (m :: c.ms)) rfl rfl rfl tsl22 tze3 (by rfl) (by decide) tby3 (fun _ _ => (by repeat (first | exact Swap.here | apply Swap.there))) (by repeat (first | exact Mem.here | apply Mem.there)) (by simp; omega) (by simp) (by simp) (i64s_one _) (by omega) (by decide) ?_
            intro A94 c94
            refine Jl.pv (PR.fieldAddr rfl tfl24_14) ?_
            refine Jl.store1 rfl tsh22 rfl (by rfl) (by repeat (first | exact Swap.here | apply Swap.there)) (by rfl) ?_
            refine Jl.nil ?_
            refine Jq.thenN ?_
            refine Jc.mid (σ := Unit) (fun _ => [(11, .pointer (some ⟨b11, 0, none⟩)), (12, .pointer (some ⟨b12, 0, none⟩)), (3, .pointer (some ⟨b3, 0, none⟩)), (13, .bool (rise c m))]) (fun _ => [.blk b12 24 (({ c with ms := m :: c.ms } : Cf).cs (A94, c94)), .blk b11 24 (({ c with ms := c.ms ++ [100 + n] } : Cf).cs (A87, c87)), .blk b3 24 (c.cs (A, cA))]) (fun _ => [.rd A94 (i64s (m :: c.ms)), .rd A87 (i64s (c.ms ++ [100 + n])), .rd A (i64s c.ms), .lim]) ?_ ?_
            · refine Jc.sealR (by repeat (first | exact Del.here | apply Del.there)) ?_
              refine Jc.sealR (by repeat (first | exact Del.here | apply Del.there)) ?_
              refine Jc.region ?_
              refine Jl.pv (PR.move rfl) ?_
              refine Jl.pv (PR.geq _ rfl rfl rfl) ?_
              refine Jl.pv (PR.move rfl) ?_
              refine Jl.bsplit (fun g98 => ?_) (fun g98 => ?_)
              · try replace g98 := of_decide_eq_true g98
                refine Jl.on rfl rfl ?_
                refine Jl.pv (PR.move rfl) ?_
                refine Jl.on rfl rfl ?_
                refine Jl.pv (PR.leq _ rfl rfl rfl) ?_
                refine Jl.pv (PR.pickT rfl rfl) ?_
                refine Jl.pv (PR.move rfl) ?_
                refine Jl.bsplit (fun g102 => ?_) (fun g102 => ?_)
                · try replace g102 := of_decide_eq_true g102
                  refine Jl.on rfl rfl ?_
                  refine Jl.pv (PR.fieldAddr rfl tfl24_14) ?_
                  refine Jl.on rfl rfl ?_
                  refine Jl.pv (PR.load1 rfl tsh22 (by repeat (first | exact Has.here | apply Has.there)) (by rfl)) ?_
                  refine Jl.on rfl rfl ?_
                  refine Jl.pv (PR.len rfl tsl22) ?_
                  refine Jl.on rfl rfl ?_
                  refine Jl.pv (PR.eql _ rfl rfl rfl) ?_
                  refine Jl.on rfl rfl ?_
                  refine Jl.pv (PR.move rfl) ?_
                  refine Jl.bsplit (fun g107 => ?_) (fun g107 => ?_)
                  · try replace g107 := of_decide_eq_true g107
                    refine Jl.offS rfl rfl rfl ?_
                    refine Jl.offS rfl rfl rfl ?_
                    refine Jl.offS rfl rfl rfl ?_
                    refine Jl.offS rfl rfl rfl ?_
                    refine Jl.offS rfl rfl rfl ?_
                    refine Jl.offS rfl rfl rfl ?_
                    refine Jl.on rfl rfl ?_
                    refine Jl.pv (PR.pickT rfl rfl) ?_
                    refine Jl.pv (PR.pickT rfl rfl) ?_
                    refine Jl.pv (PR.move rfl) ?_
                    refine Jl.on rfl rfl ?_
                    refine Jl.pv (PR.fieldAddr rfl tfl24_14) ?_
                    refine Jl.on rfl rfl ?_
                    refine Jl.pv (PR.load1 rfl tsh22 (by repeat (first | exact Has.here | apply Has.there)) (by rfl)) ?_
                    refine Jl.on rfl rfl ?_
                    refine Jl.pv (PR.len rfl tsl22) ?_
                    refine Jl.on rfl rfl ?_
                    refine Jl.pv (PR.lss _ rfl rfl rfl) ?_
                    refine Jl.pv (PR.pickT rfl rfl) ?_
                    refine Jl.pv (PR.assign rfl) ?_
                    have hr : rise c m = decide ((c.ms.length : Int) < 4) := (by rw [Bool.eq_iff_iff]; simp only [rise, Bool.and_eq_true, Bool.or_eq_true, decide_eq_true_eq, Bool.false_eq_true]; omega)
                    refine Jl.as (.bool (rise c m)) (congrArg Value.bool hr.symm) ?_
                    refine Jl.nil ?_
                    exact Jq.midT () (by repeat (first | exact trivial | refine And.intro rfl ?_)) (by repeat (first | exact Take.nil | apply Take.cons (by repeat (first | exact Del.here | apply Del.there)))) (by repeat (first | exact trivial | refine And.intro (by repeat (first | exact Mem.here | apply Mem.there)) ?_))
                  · try replace g107 := of_decide_eq_false g107
                    refine Jl.on rfl rfl ?_
                    refine Jl.pv (PR.move rfl) ?_
                    refine Jl.on rfl rfl ?_
                    refine Jl.pv (PR.fieldAddr rfl tfl24_14) ?_
                    refine Jl.on rfl rfl ?_
                    refine Jl.pv (PR.load1 rfl tsh22 (by repeat (first | exact Has.here | apply Has.there)) (by rfl)) ?_
                    refine Jl.on rfl rfl ?_
                    refine Jl.pv (PR.idx1 0 rfl rfl tsl22 (by repeat (first | exact Mem.here | apply Mem.there)) (by simp) rfl (by omega)) ?_
                    refine Jl.on rfl rfl ?_
                    refine Jl.pv (PR.loadR rfl tsh3 (by repeat (first | exact Mem.here | apply Mem.there)) (getd (by omega))) ?_
                    refine Jl.on rfl rfl ?_
                    refine Jl.pv (PR.lss _ rfl rfl rfl) ?_
                    refine Jl.on rfl rfl ?_
                    refine Jl.pv (PR.pickF rfl rfl) ?_
                    refine Jl.pv (PR.pickT rfl rfl) ?_
                    refine Jl.pv (PR.move rfl) ?_
                    refine Jl.bsplit (fun g116 => ?_) (fun g116 => ?_)
                    · try replace g116 := of_decide_eq_true g116
                      refine Jl.on rfl rfl ?_
                      refine Jl.pv (PR.fieldAddr rfl tfl24_14) ?_
                      refine Jl.on rfl rfl ?_
                      refine Jl.pv (PR.load1 rfl tsh22 (by repeat (first | exact Has.here | apply Has.there)) (by rfl)) ?_
                      refine Jl.on rfl rfl ?_
                      refine Jl.pv (PR.len rfl tsl22) ?_
                      refine Jl.on rfl rfl ?_
                      refine Jl.pv (PR.lss _ rfl rfl rfl) ?_
                      refine Jl.pv (PR.pickT rfl rfl) ?_
                      refine Jl.pv (PR.assign rfl) ?_
                      have hr : rise c m = decide ((c.ms.length : Int) < 4) := (by rw [Bool.eq_iff_iff]; simp only [rise, Bool.and_eq_true, Bool.or_eq_true, decide_eq_true_eq, Bool.false_eq_true]; omega)
                      refine Jl.as (.bool (rise c m)) (congrArg Value.bool hr.symm) ?_
                      refine Jl.nil ?_
                      exact Jq.midT () (by repeat (first | exact trivial | refine And.intro rfl ?_)) (by repeat (first | exact Take.nil | apply Take.cons (by repeat (first | exact Del.here | apply Del.there)))) (by repeat (first | exact trivial | refine And.intro (by repeat (first | exact Mem.here | apply Mem.there)) ?_))
                    · try replace g116 := of_decide_eq_false g116
                      refine Jl.offS rfl rfl rfl ?_
                      refine Jl.offS rfl rfl rfl ?_
                      refine Jl.offS rfl rfl rfl ?_
                      refine Jl.offS rfl rfl rfl ?_
                      refine Jl.pv (PR.pickF rfl rfl) ?_
                      refine Jl.pv (PR.assign rfl) ?_
                      have hr : rise c m = false := (by rw [Bool.eq_false_iff]; intro h; simp only [rise, Bool.and_eq_true, Bool.or_eq_true, decide_eq_true_eq] at h; omega)
                      refine Jl.as (.bool (rise c m)) (congrArg Value.bool hr.symm) ?_
                      refine Jl.nil ?_
                      exact Jq.midT () (by repeat (first | exact trivial | refine And.intro rfl ?_)) (by repeat (first | exact Take.nil | apply Take.cons (by repeat (first | exact Del.here | apply Del.there)))) (by repeat (first | exact trivial | refine And.intro (by repeat (first | exact Mem.here | apply Mem.there)) ?_))
                · try replace g102 := of_decide_eq_false g102
                  refine Jl.offS rfl rfl rfl ?_
                  refine Jl.offS rfl rfl rfl ?_
                  refine Jl.offS rfl rfl rfl ?_
                  refine Jl.offS rfl rfl rfl ?_
                  refine Jl.offS rfl rfl rfl ?_
                  refine Jl.offUS rfl rfl ?_
                  refine Jl.offUS rfl rfl ?_
                  refine Jl.offUS rfl rfl ?_
                  refine Jl.offUS rfl rfl ?_
                  refine Jl.offUS rfl rfl ?_
                  refine Jl.offUS rfl rfl ?_
                  refine Jl.offS rfl rfl rfl ?_
                  refine Jl.pv (PR.pickF rfl rfl) ?_
                  refine Jl.pv (PR.move rfl) ?_
                  refine Jl.offS rfl rfl rfl ?_
                  refine Jl.offS rfl rfl rfl ?_
                  refine Jl.offS rfl rfl rfl ?_
                  refine Jl.offS rfl rfl rfl ?_
                  refine Jl.pv (PR.pickF rfl rfl) ?_
                  refine Jl.pv (PR.assign rfl) ?_
                  have hr : rise c m = false := (by rw [Bool.eq_false_iff]; intro h; simp only [rise, Bool.and_eq_true, Bool.or_eq_true, decide_eq_true_eq] at h; omega)
                  refine Jl.as (.bool (rise c m)) (congrArg Value.bool hr.symm) ?_
                  refine Jl.nil ?_
                  exact Jq.midT () (by repeat (first | exact trivial | refine And.intro rfl ?_)) (by repeat (first | exact Take.nil | apply Take.cons (by repeat (first | exact Del.here | apply Del.there)))) (by repeat (first | exact trivial | refine And.intro (by repeat (first | exact Mem.here | apply Mem.there)) ?_))
              · try replace g98 := of_decide_eq_false g98
                refine Jl.offS rfl rfl rfl ?_
                refine Jl.offS rfl rfl rfl ?_
                refine Jl.pv (PR.pickF rfl rfl) ?_
                refine Jl.pv (PR.move rfl) ?_
                refine Jl.offS rfl rfl rfl ?_
                refine Jl.offS rfl rfl rfl ?_
                refine Jl.offS rfl rfl rfl ?_
                refine Jl.offS rfl rfl rfl ?_
                refine Jl.offS rfl rfl rfl ?_
                refine Jl.offUS rfl rfl ?_
                refine Jl.offUS rfl rfl ?_
                refine Jl.offUS rfl rfl ?_
                refine Jl.offUS rfl rfl ?_
                refine Jl.offUS rfl rfl ?_
                refine Jl.offUS rfl rfl ?_
                refine Jl.offS rfl rfl rfl ?_
                refine Jl.pv (PR.pickF rfl rfl) ?_
                refine Jl.pv (PR.move rfl) ?_
                refine Jl.offS rfl rfl rfl ?_
                refine Jl.offS rfl rfl rfl ?_
                refine Jl.offS rfl rfl rfl ?_
                refine Jl.offS rfl rfl rfl ?_
                refine Jl.pv (PR.pickF rfl rfl) ?_
                refine Jl.pv (PR.assign rfl) ?_
                have hr : rise c m = false := (by rw [Bool.eq_false_iff]; intro h; simp only [rise, Bool.and_eq_true, Bool.or_eq_true, decide_eq_true_eq] at h; omega)
                refine Jl.as (.bool (rise c m)) (congrArg Value.bool hr.symm) ?_
                refine Jl.nil ?_
                exact Jq.midT () (by repeat (first | exact trivial | refine And.intro rfl ?_)) (by repeat (first | exact Take.nil | apply Take.cons (by repeat (first | exact Del.here | apply Del.there)))) (by repeat (first | exact trivial | refine And.intro (by repeat (first | exact Mem.here | apply Mem.there)) ?_))
            · rintro ⟨⟩
              refine Jc.seq ?_
              refine Jc.region ?_
              refine Jl.pv (PR.loadW rfl tsh24 (by repeat (first | exact Has.here | apply Has.there)) (by rfl)) ?_
              refine Jl.alloc tze24 ?_
              intro b14
              refine Jl.storeW rfl tsh24 rfl (by rfl) (by first | exact cs_one _ _ | simp [Value.oneCell']) (by repeat (first | exact Swap.here | apply Swap.there)) (by rfl) ?_
              refine Jl.nil ?_
              refine Jq.thenN ?_
              refine Jc.seq ?_
              refine Jc.region ?_
              refine Jl.pv (PR.fieldAddr rfl tfl24_13) ?_
              refine Jl.pv (PR.load1 rfl tsh4 (by repeat (first | exact Has.here | apply Has.there)) (by rfl)) ?_
              refine Jl.pv (PR.not rfl) ?_
              refine Jl.pv (PR.fieldAddr rfl tfl24_13) ?_
              refine Jl.store1 rfl tsh4 rfl (by rfl) (by repeat (first | exact Swap.here | apply Swap.there)) (by rfl) ?_
              refine Jl.nil ?_
              refine Jq.thenN ?_
              refine Jc.seq ?_
              refine Jc.region ?_
              refine Jl.pv (PR.loadW rfl tsh24 (by repeat (first | exact Has.here | apply Has.there)) (by rfl)) ?_
              refine Jl.call (ccheck_ct ({ c with ms := c.ms ++ [100 + n] } : Cf) (A87, c87) (by simp; omega)) en14 (by rfl) (by repeat (first | exact Take.nil | apply Take.cons (by repeat (first | exact Del.here | apply Del.there)))) (by repeat (first | exact trivial | refine And.intro (by repeat (first | exact Mem.here | apply Mem.there)) ?_)) ?_
              rintro ⟨⟩
              refine Jl.pv (PR.eql true rfl rfl (by rw [Cf.chk_no (ms_app n (by omega))]; rfl)) ?_
              refine Jl.pv (PR.move rfl) ?_
              refine Jl.on rfl rfl ?_
              refine Jl.pv (PR.loadW rfl tsh24 (by repeat (first | exact Has.here | apply Has.there)) (by rfl)) ?_
              refine Jl.on rfl rfl ?_
              refine Jl.call (ccheck_ct ({ c with ms := m :: c.ms } : Cf) (A94, c94) (by simp; omega)) en14 (by rfl) (by repeat (first | exact Take.nil | apply Take.cons (by repeat (first | exact Del.here | apply Del.there)))) (by repeat (first | exact trivial | refine And.intro (by repeat (first | exact Mem.here | apply Mem.there)) ?_)) ?_
              rintro ⟨⟩
              refine Jl.on rfl rfl ?_
              refine Jl.pv (PR.eql _ rfl rfl rfl) ?_
              refine Jl.on rfl rfl ?_
              refine Jl.pv (PR.move rfl) ?_
              refine Jl.on rfl rfl ?_
              refine Jl.pv (PR.beql true Tryd.underlying4 rfl rfl (by rw [← ms_cons m hc]; simp [Cf.chk])) ?_
              refine Jl.pv (PR.pickT rfl rfl) ?_
              refine Jl.pv (PR.move rfl) ?_
              refine Jl.on rfl rfl ?_
              refine Jl.pv (PR.loadW rfl tsh24 (by repeat (first | exact Has.here | apply Has.there)) (by rfl)) ?_
              refine Jl.on rfl rfl ?_
              refine Jl.call (ccheck_ct ({ c with sk := !c.sk } : Cf) (A, cA) (by simp only; omega)) en14 (by rfl) (by repeat (first | exact Take.nil | apply Take.cons (by repeat (first | exact Del.here | apply Del.there)))) (by repeat (first | exact trivial | refine And.intro (by repeat (first | exact Mem.here | apply Mem.there)) ?_)) ?_
              rintro ⟨⟩
              refine Jl.on rfl rfl ?_
              refine Jl.pv (PR.eql true rfl rfl (by rw [Cf.chk_ok (c := { c with sk := !c.sk }) (show c.ok = true from hc)]; rfl)) ?_
              refine Jl.pv (PR.pickT rfl rfl) ?_
              refine Jl.pv (PR.move rfl) ?_
              refine Jl.on rfl rfl ?_
              refine Jl.pv (PR.loadW rfl tsh24 (by repeat (first | exact Has.here | apply Has.there)) (by rfl)) ?_
              refine Jl.on rfl rfl ?_
              refine Jl.pv (PR.loadW rfl tsh24 (by repeat (first | exact Has.here | apply Has.there)) (by rfl)) ?_
              refine Jl.on rfl rfl ?_
              refine Jl.call (csame_ct ({ c with sk := !c.sk } : Cf) c (A, cA) (A, cA) (by simp only; omega)) en21 (by rfl) (by repeat (first | exact Take.nil | apply Take.cons (by repeat (first | exact Del.here | apply Del.there)))) (by repeat (first | exact trivial | refine And.intro (by repeat (first | exact Mem.here | apply Mem.there)) ?_)) ?_
              rintro ⟨⟩
              refine Jl.as (.bool false) (congrArg Value.bool (sameC_no (fun h => by have := congrArg Cf.sk h; simp at this))) ?_
              refine Jl.on rfl rfl ?_
              refine Jl.pv (PR.not rfl) ?_
              refine Jl.pv (PR.pickT rfl rfl) ?_
              refine Jl.pv (PR.move rfl) ?_
              refine Jl.on rfl rfl ?_
              refine Jl.pv (PR.loadW rfl tsh24 (by repeat (first | exact Has.here | apply Has.there)) (by rfl)) ?_
              refine Jl.on rfl rfl ?_
              refine Jl.pv (PR.loadW rfl tsh24 (by repeat (first | exact Has.here | apply Has.there)) (by rfl)) ?_
              refine Jl.on rfl rfl ?_
              refine Jl.call (csame_ct c c (A, cA) (A, cA) (by omega)) en21 (by rfl) (by repeat (first | exact Take.nil | apply Take.cons (by repeat (first | exact Del.here | apply Del.there)))) (by repeat (first | exact trivial | refine And.intro (by repeat (first | exact Mem.here | apply Mem.there)) ?_)) ?_
              rintro ⟨⟩
              refine Jl.as (.bool true) (congrArg Value.bool (sameC_iff.2 rfl)) ?_
              refine Jl.pv (PR.pickT rfl rfl) ?_
              refine Jl.pv (PR.move rfl) ?_
              refine Jl.on rfl rfl ?_
              refine Jl.call cwakes_ct en8 (by rfl) (by repeat (first | exact Take.nil | apply Take.cons (by repeat (first | exact Del.here | apply Del.there)))) (by repeat (first | exact trivial | refine And.intro (by repeat (first | exact Mem.here | apply Mem.there)) ?_)) ?_
              rintro ⟨⟩
              refine Jl.pv (PR.pickT rfl rfl) ?_
              refine Jl.pv (PR.assign rfl) ?_
              refine Jl.nil ?_
              refine Jq.thenN ?_
              refine Jc.ret ?_
              exact Jq.fin () (.inl rfl) rfl (RetVs.tmp rfl RetVs.nil) rfl (by repeat (first | exact Take.nil | apply Take.cons (by repeat (first | exact Del.here | apply Del.there)))) (by repeat (first | exact trivial | refine And.intro (by repeat (first | exact Mem.here | apply Mem.there)) ?_))
end Go.Proofs.YtbihjlncocdnnaaDoor
