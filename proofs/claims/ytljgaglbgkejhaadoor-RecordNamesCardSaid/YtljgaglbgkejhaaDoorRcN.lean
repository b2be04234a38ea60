/-
The laws of records: RecordNumbers, RecordNames.
-/
import Derived.Test.YtljgaglbgkejhaaDoorRcM
namespace Go.Proofs.YtljgaglbgkejhaaDoor
set_option linter.unusedVariables false
open Go.RowKit
attribute [local irreducible] Res.blk Res.row Fact.rd
theorem rat_idx (a : Int) (L : Nat) (h : 0 < L) : ∃ k : Nat, k < L ∧ (a.tmod L + L).tmod L = k ∧ -(L : Int) < a.tmod L ∧ a.tmod L < L := by
  have h1 := Int.tmod_lt_of_pos a (show (0 : Int) < L by omega)
  have h2 := Int.lt_tmod_of_pos a (show (0 : Int) < L by omega)
  have h3 : 0 ≤ (a.tmod L + L).tmod L := Int.tmod_nonneg _ (by omega)
  have h4 := Int.tmod_lt_of_pos (a.tmod L + L) (show (0 : Int) < L by omega)
  exact ⟨((a.tmod L + L).tmod L).toNat, by omega, by omega, h2, h1⟩
theorem rset (l : List Int) (k : Nat) (n : Int) : (i64s l).set k (.int .i64 n) = i64s (l.set k n) := by simp [i64s, List.map_set]
theorem rdrop1 (l : List Int) : ((i64s l).drop (1 * 1)).take ((l.drop 1).length * 1) = i64s (l.drop 1) := by
  rw [Nat.mul_one, Nat.mul_one, i64s, i64s, ← List.map_drop, List.take_of_length_le (by simp)]
section
variable {P : Program} {r : Option Nat} {C : Cx} {n : Nat × List Nat} {Q : Exit → Act → World → Prop} {env : List (Nat × Value)} {R R' : List Res} {Φ : List Fact} {ops : Array Oper} {rest : List Oper}
theorem Jc.blkAs {b : Nat} {T : TypeId} {cs : List Value} {c : Code} (cs' : List Value) (h : cs = cs') (hw : Swap (.blk b T cs) (.blk b T cs') R R') (k : Jc P r C n Q c env R' Φ) : Jc P r C n Q c env R Φ :=
  Jc.rsay hw (fun W hs => by rw [← h]; exact hs) (fun g hg => by rw [h]; exact hg) k
theorem Jl.rcNil (k : Jl P r C n ops Q rest env R (.rcs [] :: Φ)) : Jl P r C n ops Q rest env R Φ := Jl.fact0 (.rcs []) (fun X W => by intro z hz; simp at hz) k
theorem Jl.rcCons {zs : Rcs} (z : AdC × Rc) (hm : Mem (.rd z.1.1 (i64s z.2.l)) Φ) (hz : Mem (.rcs zs) Φ) (k : Jl P r C n ops Q rest env R (.rcs (z :: zs) :: Φ)) : Jl P r C n ops Q rest env R Φ := fun a W h1 h2 => k a W h1 (h2.add (φ := .rcs (z :: zs)) fun y hy => by
  rcases List.mem_cons.1 hy with rfl | hy
  · exact h2.fact hm
  · exact h2.fact hz y hy)
end
theorem recordNumbers_ct (x : AdC) (r : Rc) (a off : Int) (m : Nat → AdC) (bn : Nat) (hcx : r.l.length ≤ x.2) : Ct Tryd.prog 6 [r.v x, .int .i64 a, .int .i64 off] [] [.rd x.1 (i64s r.l), .many m, .names bn] (fun _ : Unit => .bool true) (fun _ => []) (fun _ => []) := by
  by_cases hk2 : r.k.toNat = 2
  · skip
    refine Ct.of _ Tryd.func6 Tryd.ntmps6 rfl rfl (fun X W => ?_)
    refine Jc.seq ?_
    refine Jc.region ?_
    refine Jl.box rfl (by rfl) ?_
    intro b3
    refine Jl.pv (PR.assign rfl) ?_
    refine Jl.nil ?_
    refine Jq.thenN ?_
    refine Jc.seq ?_
    refine Jc.seq ?_
    refine Jc.region ?_
    refine Jl.pv (PR.loadW rfl tsh24 (by repeat (first | exact Has.here | apply Has.there)) (by rfl)) ?_
    refine Jl.buildSlice (by rfl) tsl25 tzr25_1 (by rfl) (by rfl) ?_
    intro b11
    refine Jl.seal (by repeat (first | exact Del.here | apply Del.there)) ?_
    refine Jl.call (great_ct (some ⟨b11, 0, none⟩) 1 [(x, r)]) en9 (by rfl) (by repeat (first | exact Take.nil | apply Take.cons (by repeat (first | exact Del.here | apply Del.there)))) (by repeat (first | exact trivial | refine And.intro (by repeat (first | exact Mem.here | apply Mem.there)) ?_)) ?_
    rintro ⟨⟩
    refine Jl.pv (PR.move rfl) ?_
    refine Jl.bsplit (fun g13 => ?_) (fun g13 => ?_)
    · try replace g13 := of_decide_eq_true g13
      refine Jl.offS rfl rfl rfl ?_
      refine Jl.offS rfl rfl rfl ?_
      refine Jl.offS rfl rfl rfl ?_
      refine Jl.pv (PR.pickT rfl rfl) ?_
      refine Jl.pv (PR.move rfl) ?_
      refine Jl.offS rfl rfl rfl ?_
      refine Jl.offS rfl rfl rfl ?_
      refine Jl.pv (PR.pickT rfl rfl) ?_
      refine Jl.pv (PR.move rfl) ?_
      refine Jl.offS rfl rfl rfl ?_
      refine Jl.offS rfl rfl rfl ?_
      refine Jl.pv (PR.pickT rfl rfl) ?_
      refine Jl.nil ?_
      refine Jq.thenN ?_
      refine Jc.condT rfl ?_
      refine Jc.seq ?_
      refine Jc.region ?_
      refine Jl.call (rwakes_ct m bn) en10 (by rfl) (by repeat (first | exact Take.nil | apply Take.cons (by repeat (first | exact Del.here | apply Del.there)))) (by repeat (first | exact trivial | refine And.intro (by repeat (first | exact Mem.here | apply Mem.there)) ?_)) ?_
      rintro ⟨⟩
      refine Jl.pv (PR.assign rfl) ?_
      refine Jl.nil ?_
      refine Jq.thenN ?_
      refine Jc.ret ?_
      refine Jq.thenR ?_
      exact Jq.fin () (.inl rfl) rfl (RetVs.tmp rfl RetVs.nil) rfl (by repeat (first | exact Take.nil | apply Take.cons (by repeat (first | exact Del.here | apply Del.there)))) (by repeat (first | exact trivial | refine And.intro (by repeat (first | exact Mem.here | apply Mem.there)) ?_))
    · try replace g13 := of_decide_eq_false g13
      have hr : r.l.length ≤ 60 := (grt_no g13).2 (x, r) (by simp)
      refine Jl.on rfl rfl ?_
      refine Jl.pv (PR.loadW rfl tsh24 (by repeat (first | exact Has.here | apply Has.there)) (by rfl)) ?_
      refine Jl.on rfl rfl ?_
      refine Jl.call (rright_ct r x (by omega)) en17 (by rfl) (by repeat (first | exact Take.nil | apply Take.cons (by repeat (first | exact Del.here | apply Del.there)))) (by repeat (first | exact trivial | refine And.intro (by repeat (first | exact Mem.here | apply Mem.there)) ?_)) ?_
      rintro ⟨⟩
      refine Jl.on rfl rfl ?_
      refine Jl.pv (PR.not rfl) ?_
      refine Jl.pv (PR.pickF rfl rfl) ?_
      refine Jl.pv (PR.move rfl) ?_
      refine Jl.bsplit (fun g18 => ?_) (fun g18 => ?_)
      · try replace g18 := of_decide_eq_true g18
        refine Jl.offS rfl rfl rfl ?_
        refine Jl.offS rfl rfl rfl ?_
        refine Jl.pv (PR.pickT rfl rfl) ?_
        refine Jl.pv (PR.move rfl) ?_
        refine Jl.offS rfl rfl rfl ?_
        refine Jl.offS rfl rfl rfl ?_
        refine Jl.pv (PR.pickT rfl rfl) ?_
        refine Jl.nil ?_
        refine Jq.thenN ?_
        refine Jc.condT rfl ?_
        refine Jc.seq ?_
        refine Jc.region ?_
        refine Jl.call (rwakes_ct m bn) en10 (by rfl) (by repeat (first | exact Take.nil | apply Take.cons (by repeat (first | exact Del.here | apply Del.there)))) (by repeat (first | exact trivial | refine And.intro (by repeat (first | exact Mem.here | apply Mem.there)) ?_)) ?_
        rintro ⟨⟩
        refine Jl.pv (PR.assign rfl) ?_
        refine Jl.nil ?_
        refine Jq.thenN ?_
        refine Jc.ret ?_
        refine Jq.thenR ?_
        exact Jq.fin () (.inl rfl) rfl (RetVs.tmp rfl RetVs.nil) rfl (by repeat (first | exact Take.nil | apply Take.cons (by repeat (first | exact Del.here | apply Del.there)))) (by repeat (first | exact trivial | refine And.intro (by repeat (first | exact Mem.here | apply Mem.there)) ?_))
      · try replace g18 := of_decide_eq_false g18
        have hro := not_false g18
        refine Jl.on rfl rfl ?_
        refine Jl.pv (PR.move rfl) ?_
        refine Jl.on rfl rfl ?_
        refine Jl.pv (PR.lss _ rfl rfl rfl) ?_
        refine Jl.pv (PR.pickF rfl rfl) ?_
        refine Jl.pv (PR.move rfl) ?_
        refine Jl.bsplit (fun g22 => ?_) (fun g22 => ?_)
        · try replace g22 := of_decide_eq_true g22
          refine Jl.offS rfl rfl rfl ?_
          refine Jl.offS rfl rfl rfl ?_
          refine Jl.pv (PR.pickT rfl rfl) ?_
          refine Jl.nil ?_
          refine Jq.thenN ?_
          refine Jc.condT rfl ?_
          refine Jc.seq ?_
          refine Jc.region ?_
          refine Jl.call (rwakes_ct m bn) en10 (by rfl) (by repeat (first | exact Take.nil | apply Take.cons (by repeat (first | exact Del.here | apply Del.there)))) (by repeat (first | exact trivial | refine And.intro (by repeat (first | exact Mem.here | apply Mem.there)) ?_)) ?_
          rintro ⟨⟩
          refine Jl.pv (PR.assign rfl) ?_
          refine Jl.nil ?_
          refine Jq.thenN ?_
          refine Jc.ret ?_
          refine Jq.thenR ?_
          exact Jq.fin () (.inl rfl) rfl (RetVs.tmp rfl RetVs.nil) rfl (by repeat (first | exact Take.nil | apply Take.cons (by repeat (first | exact Del.here | apply Del.there)))) (by repeat (first | exact trivial | refine And.intro (by repeat (first | exact Mem.here | apply Mem.there)) ?_))
        · try replace g22 := of_decide_eq_false g22
          refine Jl.on rfl rfl ?_
          refine Jl.pv (PR.move rfl) ?_
          refine Jl.on rfl rfl ?_
          refine Jl.pv (PR.gtr _ rfl rfl rfl) ?_
          refine Jl.pv (PR.pickF rfl rfl) ?_
          refine Jl.nil ?_
          refine Jq.thenN ?_
          refine Jc.cond rfl (fun h0 => ?_) (fun h0 => ?_)
          · try replace h0 := of_decide_eq_true h0
            refine Jc.seq ?_
            refine Jc.region ?_
            refine Jl.call (rwakes_ct m bn) en10 (by rfl) (by repeat (first | exact Take.nil | apply Take.cons (by repeat (first | exact Del.here | apply Del.there)))) (by repeat (first | exact trivial | refine And.intro (by repeat (first | exact Mem.here | apply Mem.there)) ?_)) ?_
            rintro ⟨⟩
            refine Jl.pv (PR.assign rfl) ?_
            refine Jl.nil ?_
            refine Jq.thenN ?_
            refine Jc.ret ?_
            refine Jq.thenR ?_
            exact Jq.fin () (.inl rfl) rfl (RetVs.tmp rfl RetVs.nil) rfl (by repeat (first | exact Take.nil | apply Take.cons (by repeat (first | exact Del.here | apply Del.there)))) (by repeat (first | exact trivial | refine And.intro (by repeat (first | exact Mem.here | apply Mem.there)) ?_))
          · try replace h0 := of_decide_eq_false h0
            refine Jc.skip ?_
            refine Jq.thenN ?_
            refine Jc.seq ?_
            refine Jc.seq ?_
            refine Jc.region ?_
            refine Jl.pv (PR.loadW rfl tsh24 (by repeat (first | exact Has.here | apply Has.there)) (by rfl)) ?_
            refine Jl.call (right_ct r x m (by omega)) en16 (by rfl) (by repeat (first | exact Take.nil | apply Take.cons (by repeat (first | exact Del.here | apply Del.there)))) (by repeat (first | exact trivial | refine And.intro (by repeat (first | exact Mem.here | apply Mem.there)) ?_)) ?_
            rintro ⟨⟩
            refine Jl.as (.bool true) (congrArg Value.bool hro) ?_
            refine Jl.pv (PR.not rfl) ?_
            refine Jl.nil ?_
            refine Jq.thenN ?_
            refine Jc.condF rfl ?_
            refine Jc.skip ?_
            refine Jq.thenN ?_
            refine Jc.seq ?_
            refine Jc.drawn [0, 1, 0, 0, 8, 28, 0, 124, 255, 0, 1023] ([], []) [⟨[(0, false), (1, false), (2, true), (3, false), (4, false), (6, true), (9, true)], [2], 5⟩, ⟨[], [6], 7⟩, ⟨[], [], 8⟩, ⟨[], [9], 10⟩] tmx (by kernel_rfl) ?_
            refine Dh.JH.cons ?_
            refine Dh.JB.pv rfl trivial (fun _ => PR.fieldAddr rfl tfl24_0) ?_
            refine Dh.JB.rd [.blk _ _ _] rfl trivial (by repeat (first | exact Take.nil | apply Take.cons (by repeat (first | exact Del.here | apply Del.there)))) (fun _ => PR.load1 rfl tsh5 Has.here (by rfl)) ?_
            refine Dh.JB.buildSlice rfl trivial (by rfl) tsl22 tzr22_0 (by rfl) (by rfl) ?_
            refine Dh.JB.pv rfl trivial (fun _ => PR.fieldAddr rfl tfl24_1) ?_
            refine Dh.JB.rd [.blk _ _ _] rfl trivial (by repeat (first | exact Take.nil | apply Take.cons (by repeat (first | exact Del.here | apply Del.there)))) (fun _ => PR.load1 rfl tsh22 Has.here (by rfl)) ?_
            refine Dh.JB.buildSlice rfl trivial (by rfl) tsl22 tzr22_1 (by rfl) (by rfl) ?_
            refine Dh.JB.alloc rfl trivial tze24 ?_
            refine Dh.JB.nil ?_
            refine Dh.JL.sl rfl (by repeat (first | exact Dh.es_here | apply Dh.es_there)) (fun b32 => ?_)
            refine Dh.JL.nil ?_
            refine Dh.JE.mk rfl (fun _ h => by cases h) (fun C5_5 => ?_)
            refine Jl.toRow 1 0 (by repeat (first | exact Swap.here | apply Swap.there)) (by rfl) (by rfl) ?_
            refine Jl.append r.l.length (i64s r.l) rfl rfl rfl tsl22 tze3 (by rfl) (by decide) tby3 (fun _ _ => (by repeat (first | exact Swap.here | apply Swap.there))) (by repeat (first | exact Mem.here | apply Mem.there)) (by omega) rfl (by simp) (i64s_one _) (by omega) (by decide) ?_
            intro A35 c35
            refine Jl.nil ?_
            refine Dh.Jq.segV (by repeat (first | exact Dh.FExt.refl | apply Dh.FExt.cons | apply Dh.FExt.app)) ?_ (by repeat (first | exact Dh.KeepL.nil | apply Dh.KeepL.anc (by rfl) | apply Dh.KeepL.keep (by repeat (first | exact Take.nil | apply Take.cons (by repeat (first | exact Del.here | apply Del.there))))))
            refine Dh.JH.cons ?_
            refine Dh.JB.nil ?_
            refine Dh.JL.sl rfl (by repeat (first | exact Dh.es_here | apply Dh.es_there)) (fun b36 => ?_)
            refine Dh.JL.nil ?_
            refine Dh.JE.mk rfl (fun _ h => by cases h) (fun C5_7 => ?_)
            refine Jl.seal (by repeat (first | exact Del.here | apply Del.there)) ?_
            refine Jl.append (r.l ++ [1]).length (i64s (r.l ++ [1])) rfl rfl rfl tsl22 tze3 (by rfl) (by decide) tby3 (fun _ _ => (by repeat (first | exact Swap.here | apply Swap.there))) (by repeat (first | exact Mem.here | apply Mem.there)) (by simp) (by simp) (by simp) (by simp [Value.oneCell']) (by omega) (by decide) ?_
            intro A37 c37
            refine Jl.sealR (by repeat (first | exact Del.here | apply Del.there)) ?_
            refine Jl.nil ?_
            refine Dh.Jq.segV (by repeat (first | exact Dh.FExt.refl | apply Dh.FExt.cons | apply Dh.FExt.app)) ?_ (by repeat (first | exact Dh.KeepL.nil | apply Dh.KeepL.anc (by rfl) | apply Dh.KeepL.keep (by repeat (first | exact Take.nil | apply Take.cons (by repeat (first | exact Del.here | apply Del.there))))))
            refine Dh.JH.cons ?_
            refine Dh.JB.nil ?_
            refine Dh.JL.nil ?_
            refine Dh.JE.mk rfl (fun _ h => by cases h) (fun C5_8 => ?_)
            refine Jl.call (of_ct r.k A37 c37 (r.l ++ [1]) (by simp; omega)) en23 (by rfl) (by repeat (first | exact Take.nil | apply Take.cons (by repeat (first | exact Del.here | apply Del.there)))) (by repeat (first | exact trivial | refine And.intro (by repeat (first | exact Mem.here | apply Mem.there)) ?_)) ?_
            rintro ⟨A38, c38⟩
            refine Jl.sealR (by repeat (first | exact Del.here | apply Del.there)) ?_
            refine Jl.nil ?_
            refine Dh.Jq.segV (by repeat (first | exact Dh.FExt.refl | apply Dh.FExt.cons | apply Dh.FExt.app)) ?_ (by repeat (first | exact Dh.KeepL.nil | apply Dh.KeepL.anc (by rfl) | apply Dh.KeepL.keep (by repeat (first | exact Take.nil | apply Take.cons (by repeat (first | exact Del.here | apply Del.there))))))
            refine Dh.JH.cons ?_
            refine Dh.JB.nil ?_
            refine Dh.JL.ptr rfl (by repeat (first | exact Dh.es_here | apply Dh.es_there)) (fun b7 => ?_)
            refine Dh.JL.nil ?_
            refine Dh.JE.mk rfl (fun _ h => by cases h) (fun C5_10 => ?_)
            refine Jl.storeW rfl tsh24 rfl (by rfl) (by first | exact rc_one _ _ | simp [Value.oneCell']) (by repeat (first | exact Swap.here | apply Swap.there)) (by rfl) ?_
            refine Jl.nil ?_
            refine Dh.Jq.segN (by repeat (first | exact Dh.FExt.refl | apply Dh.FExt.cons | apply Dh.FExt.app)) ?_ (by repeat (first | exact Dh.KeepL.nil | apply Dh.KeepL.anc (by rfl) | apply Dh.KeepL.keep (by repeat (first | exact Take.nil | apply Take.cons (by repeat (first | exact Del.here | apply Del.there))))))
            refine Dh.JH.nil ?_
            refine Dh.JB.nil ?_
            refine Dh.JL.nil ?_
            refine Jq.thenN ?_
            refine Jc.seq ?_
            refine Jc.seq ?_
            refine Jc.region ?_
            refine Jl.pv (PR.fieldAddr rfl tfl24_0) ?_
            refine Jl.pv (PR.load1 rfl tsh5 (by repeat (first | exact Has.here | apply Has.there)) (by rfl)) ?_
            refine Jl.pv (PR.neq false rfl rfl (by simp; omega)) ?_
            refine Jl.pv (PR.move rfl) ?_
            refine Jl.offS rfl rfl rfl ?_
            refine Jl.offS rfl rfl rfl ?_
            refine Jl.pv (PR.pickF rfl rfl) ?_
            refine Jl.pv (PR.move rfl) ?_
            refine Jl.on rfl rfl ?_
            refine Jl.pv (PR.fieldAddr rfl tfl24_1) ?_
            refine Jl.on rfl rfl ?_
            refine Jl.pv (PR.load1 rfl tsh22 (by repeat (first | exact Has.here | apply Has.there)) (by rfl)) ?_
            refine Jl.on rfl rfl ?_
            refine Jl.call (of_ct 0 x.1 x.2 r.l (by omega)) en23 (by rfl) (by repeat (first | exact Take.nil | apply Take.cons (by repeat (first | exact Del.here | apply Del.there)))) (by repeat (first | exact trivial | refine And.intro (by repeat (first | exact Mem.here | apply Mem.there)) ?_)) ?_
            rintro ⟨A49, c49⟩
            refine Jl.sealR (by repeat (first | exact Del.here | apply Del.there)) ?_
            refine Jl.on rfl rfl ?_
            refine Jl.call (right_ct ⟨0, r.l⟩ (A49, c49) m (by simp only; omega)) en16 (by rfl) (by repeat (first | exact Take.nil | apply Take.cons (by repeat (first | exact Del.here | apply Del.there)))) (by repeat (first | exact trivial | refine And.intro (by repeat (first | exact Mem.here | apply Mem.there)) ?_)) ?_
            rintro ⟨⟩
            refine Jl.as (.bool false) (congrArg Value.bool (rc_k0_no r.l)) ?_
            refine Jl.pv (PR.pickF rfl rfl) ?_
            refine Jl.pv (PR.move rfl) ?_
            refine Jl.on rfl rfl ?_
            refine Jl.pv (PR.fieldAddr rfl tfl24_1) ?_
            refine Jl.on rfl rfl ?_
            refine Jl.pv (PR.load1 rfl tsh22 (by repeat (first | exact Has.here | apply Has.there)) (by rfl)) ?_
            refine Jl.on rfl rfl ?_
            refine Jl.call (of_ct 17 x.1 x.2 r.l (by omega)) en23 (by rfl) (by repeat (first | exact Take.nil | apply Take.cons (by repeat (first | exact Del.here | apply Del.there)))) (by repeat (first | exact trivial | refine And.intro (by repeat (first | exact Mem.here | apply Mem.there)) ?_)) ?_
            rintro ⟨A55, c55⟩
            refine Jl.sealR (by repeat (first | exact Del.here | apply Del.there)) ?_
            refine Jl.on rfl rfl ?_
            refine Jl.call (right_ct ⟨17, r.l⟩ (A55, c55) m (by simp only; omega)) en16 (by rfl) (by repeat (first | exact Take.nil | apply Take.cons (by repeat (first | exact Del.here | apply Del.there)))) (by repeat (first | exact trivial | refine And.intro (by repeat (first | exact Mem.here | apply Mem.there)) ?_)) ?_
            rintro ⟨⟩
            refine Jl.as (.bool false) (congrArg Value.bool (rc_k17_no r.l)) ?_
            refine Jl.pv (PR.pickF rfl rfl) ?_
            refine Jl.nil ?_
            refine Jq.thenN ?_
            refine Jc.condF rfl ?_
            refine Jc.skip ?_
            refine Jq.thenN ?_
            refine Jc.seq ?_
            refine Jc.seq ?_
            refine Jc.region ?_
            refine Jl.pv (PR.fieldAddr rfl tfl24_1) ?_
            refine Jl.pv (PR.load1 rfl tsh22 (by repeat (first | exact Has.here | apply Has.there)) (by rfl)) ?_
            refine Jl.pv (PR.len rfl tsl22) ?_
            refine Jl.pv (PR.eql _ rfl rfl rfl) ?_
            refine Jl.nil ?_
            refine Jq.thenN ?_
            refine Jc.cond rfl (fun h1 => ?_) (fun h1 => ?_)
            · try replace h1 := of_decide_eq_true h1
              refine Jc.seq ?_
              refine Jc.region ?_
              refine Jl.call (rwakes_ct m bn) en10 (by rfl) (by repeat (first | exact Take.nil | apply Take.cons (by repeat (first | exact Del.here | apply Del.there)))) (by repeat (first | exact trivial | refine And.intro (by repeat (first | exact Mem.here | apply Mem.there)) ?_)) ?_
              rintro ⟨⟩
              refine Jl.pv (PR.assign rfl) ?_
              refine Jl.nil ?_
              refine Jq.thenN ?_
              refine Jc.ret ?_
              refine Jq.thenR ?_
              exact Jq.fin () (.inl rfl) rfl (RetVs.tmp rfl RetVs.nil) rfl (by repeat (first | exact Take.nil | apply Take.cons (by repeat (first | exact Del.here | apply Del.there)))) (by repeat (first | exact trivial | refine And.intro (by repeat (first | exact Mem.here | apply Mem.there)) ?_))
            · try replace h1 := of_decide_eq_false h1
              have hne : 0 < r.l.length := by omega
              obtain ⟨k, hk, hke, hb1, hb2⟩ := rat_idx a r.l.length hne
              have hl1 : (⟨r.k, r.l.set k (-off)⟩ : Rc).ok = false := rc_set_no hk (by simp [fineN]; omega)
              have hl2 : (⟨r.k, r.l.set k (1099511627776 + off)⟩ : Rc).ok = false := rc_set_no hk (by simp [fineN]; omega)
              refine Jc.skip ?_
              refine Jq.thenN ?_
              refine Jc.seq ?_
              refine Jc.seq ?_
              refine Jc.drawn [0, 1, 3, 7, 15, 31, 15, 79, 207, 511, 1023, 2047] ([(11, false)], []) [⟨[(0, false), (1, false), (2, false), (3, false), (4, false), (5, false), (6, false), (7, false), (8, false)], [], 9⟩, ⟨[], [], 10⟩] tmx (by kernel_rfl) ?_
              refine Dh.JH.cons ?_
              refine Dh.JB.pv rfl trivial (fun _ => PR.fieldAddr rfl tfl24_0) ?_
              refine Dh.JB.rd [.blk _ _ _] rfl trivial (by repeat (first | exact Take.nil | apply Take.cons (by repeat (first | exact Del.here | apply Del.there)))) (fun _ => PR.load1 rfl tsh5 Has.here (by rfl)) ?_
              refine Dh.JB.pv rfl trivial (fun _ => PR.neq false rfl rfl (by simp; omega)) ?_
              refine Dh.JB.pv rfl trivial (fun _ => PR.move rfl) ?_
              refine Dh.JB.off rfl ⟨_, rfl, .inr rfl⟩ ?_
              refine Dh.JB.off rfl ⟨_, rfl, .inr rfl⟩ ?_
              refine Dh.JB.off rfl ⟨_, rfl, .inr rfl⟩ ?_
              refine Dh.JB.off rfl ⟨_, rfl, .inr rfl⟩ ?_
              refine Dh.JB.off rfl ⟨_, rfl, .inr rfl⟩ ?_
              refine Dh.JB.nil ?_
              refine Dh.JL.nil ?_
              refine Dh.JE.mk rfl (fun _ h => by cases h) (fun C10_9 => ?_)
              refine Jl.offS rfl rfl rfl ?_
              refine Jl.nil ?_
              refine Dh.Jq.segV (by repeat (first | exact Dh.FExt.refl | apply Dh.FExt.cons | apply Dh.FExt.app)) ?_ (by repeat (first | exact Dh.KeepL.nil | apply Dh.KeepL.anc (by rfl) | apply Dh.KeepL.keep (by repeat (first | exact Take.nil | apply Take.cons (by repeat (first | exact Del.here | apply Del.there))))))
              refine Dh.JH.cons ?_
              refine Dh.JB.nil ?_
              refine Dh.JL.nil ?_
              refine Dh.JE.mk rfl (fun _ h => by cases h) (fun C10_10 => ?_)
              refine Jl.offS rfl rfl rfl ?_
              refine Jl.nil ?_
              refine Dh.Jq.segV (by repeat (first | exact Dh.FExt.refl | apply Dh.FExt.cons | apply Dh.FExt.app)) ?_ (by repeat (first | exact Dh.KeepL.nil | apply Dh.KeepL.anc (by rfl) | apply Dh.KeepL.keep (by repeat (first | exact Take.nil | apply Take.cons (by repeat (first | exact Del.here | apply Del.there))))))
              refine Dh.JH.nil ?_
              refine Dh.JB.pv rfl trivial (fun _ => PR.pickF rfl rfl) ?_
              refine Dh.JB.nil ?_
              refine Dh.JL.nil ?_
              refine Jq.thenN ?_
              refine Jc.condF rfl ?_
              refine Jc.skip ?_
              refine Jq.thenN ?_
              refine Jc.seq ?_
              refine Jc.drawn [0, 0, 2, 6, 15, 0, 32, 96, 255, 0, 512, 1536, 4095, 8191] ([(0, false), (1, false), (2, false), (3, false), (4, false), (5, false), (6, false), (7, false), (8, false), (9, false), (10, false), (11, false), (12, false), (13, false)], []) [] tmx (by kernel_rfl) ?_
              refine Dh.JH.nil ?_
              refine Dh.JB.pv rfl trivial (fun _ => PR.move rfl) ?_
              refine Dh.JB.pv rfl trivial (fun _ => PR.fieldAddr rfl tfl24_1) ?_
              refine Dh.JB.rd [.blk _ _ _] rfl trivial (by repeat (first | exact Take.nil | apply Take.cons (by repeat (first | exact Del.here | apply Del.there)))) (fun _ => PR.load1 rfl tsh22 Has.here (by rfl)) ?_
              refine Dh.JB.pv rfl trivial (fun _ => PR.len rfl tsl22) ?_
              refine Dh.JB.pv rfl trivial (fun _ => PR.rem (a.tmod r.l.length) rfl rfl (by omega) rfl) ?_
              refine Dh.JB.pv rfl trivial (fun _ => PR.fieldAddr rfl tfl24_1) ?_
              refine Dh.JB.rd [.blk _ _ _] rfl trivial (by repeat (first | exact Take.nil | apply Take.cons (by repeat (first | exact Del.here | apply Del.there)))) (fun _ => PR.load1 rfl tsh22 Has.here (by rfl)) ?_
              refine Dh.JB.pv rfl trivial (fun _ => PR.len rfl tsl22) ?_
              refine Dh.JB.pv rfl trivial (fun _ => PR.add (a.tmod r.l.length + r.l.length) rfl rfl (w64 (by omega) (by omega))) ?_
              refine Dh.JB.pv rfl trivial (fun _ => PR.fieldAddr rfl tfl24_1) ?_
              refine Dh.JB.rd [.blk _ _ _] rfl trivial (by repeat (first | exact Take.nil | apply Take.cons (by repeat (first | exact Del.here | apply Del.there)))) (fun _ => PR.load1 rfl tsh22 Has.here (by rfl)) ?_
              refine Dh.JB.pv rfl trivial (fun _ => PR.len rfl tsl22) ?_
              refine Dh.JB.pv rfl trivial (fun _ => PR.rem (k : Int) rfl rfl (by omega) hke) ?_
              refine Dh.JB.pv rfl trivial (fun _ => PR.assign rfl) ?_
              refine Dh.JB.nil ?_
              refine Dh.JL.nil ?_
              refine Jq.thenN ?_
              refine Jc.seq ?_
              refine Jc.drawn [0, 1, 0, 4, 15, 0, 32, 0, 128, 511, 0, 0, 4095, 8191] ([], []) [⟨[(0, false), (1, false), (2, false), (3, false), (5, false), (6, false), (7, false), (8, false), (10, true), (11, true)], [], 4⟩, ⟨[], [], 9⟩, ⟨[], [10, 11], 12⟩, ⟨[], [], 13⟩] tmx (by kernel_rfl) ?_
              refine Dh.JH.cons ?_
              refine Dh.JB.pv rfl trivial (fun _ => PR.fieldAddr rfl tfl24_0) ?_
              refine Dh.JB.rd [.blk _ _ _] rfl trivial (by repeat (first | exact Take.nil | apply Take.cons (by repeat (first | exact Del.here | apply Del.there)))) (fun _ => PR.load1 rfl tsh5 Has.here (by rfl)) ?_
              refine Dh.JB.pv rfl trivial (fun _ => PR.fieldAddr rfl tfl24_1) ?_
              refine Dh.JB.rd [.blk _ _ _] rfl trivial (by repeat (first | exact Take.nil | apply Take.cons (by repeat (first | exact Del.here | apply Del.there)))) (fun _ => PR.load1 rfl tsh22 Has.here (by rfl)) ?_
              refine Dh.JB.pv rfl trivial (fun _ => PR.fieldAddr rfl tfl24_0) ?_
              refine Dh.JB.rd [.blk _ _ _] rfl trivial (by repeat (first | exact Take.nil | apply Take.cons (by repeat (first | exact Del.here | apply Del.there)))) (fun _ => PR.load1 rfl tsh5 Has.here (by rfl)) ?_
              refine Dh.JB.pv rfl trivial (fun _ => PR.fieldAddr rfl tfl24_1) ?_
              refine Dh.JB.rd [.blk _ _ _] rfl trivial (by repeat (first | exact Take.nil | apply Take.cons (by repeat (first | exact Del.here | apply Del.there)))) (fun _ => PR.load1 rfl tsh22 Has.here (by rfl)) ?_
              refine Dh.JB.alloc rfl trivial tze24 ?_
              refine Dh.JB.alloc rfl trivial tze24 ?_
              refine Dh.JB.nil ?_
              refine Dh.JL.nil ?_
              refine Dh.JE.mk rfl (fun _ h => by cases h) (fun C13_4 => ?_)
              refine Jl.call (of_ct r.k x.1 x.2 r.l (by omega)) en23 (by rfl) (by repeat (first | exact Take.nil | apply Take.cons (by repeat (first | exact Del.here | apply Del.there)))) (by repeat (first | exact trivial | refine And.intro (by repeat (first | exact Mem.here | apply Mem.there)) ?_)) ?_
              rintro ⟨A92, c92⟩
              refine Jl.nil ?_
              refine Dh.Jq.segV (by repeat (first | exact Dh.FExt.refl | apply Dh.FExt.cons | apply Dh.FExt.app)) ?_ (by repeat (first | exact Dh.KeepL.nil | apply Dh.KeepL.anc (by rfl) | apply Dh.KeepL.keep (by repeat (first | exact Take.nil | apply Take.cons (by repeat (first | exact Del.here | apply Del.there))))))
              refine Dh.JH.cons ?_
              refine Dh.JB.nil ?_
              refine Dh.JL.nil ?_
              refine Dh.JE.mk rfl (fun _ h => by cases h) (fun C13_9 => ?_)
              refine Jl.call (of_ct r.k x.1 x.2 r.l (by omega)) en23 (by rfl) (by repeat (first | exact Take.nil | apply Take.cons (by repeat (first | exact Del.here | apply Del.there)))) (by repeat (first | exact trivial | refine And.intro (by repeat (first | exact Mem.here | apply Mem.there)) ?_)) ?_
              rintro ⟨A97, c97⟩
              refine Jl.nil ?_
              refine Dh.Jq.segV (by repeat (first | exact Dh.FExt.refl | apply Dh.FExt.cons | apply Dh.FExt.app)) ?_ (by repeat (first | exact Dh.KeepL.nil | apply Dh.KeepL.anc (by rfl) | apply Dh.KeepL.keep (by repeat (first | exact Take.nil | apply Take.cons (by repeat (first | exact Del.here | apply Del.there))))))
              refine Dh.JH.cons ?_
              refine Dh.JB.nil ?_
              refine Dh.JL.ptr rfl (by repeat (first | exact Dh.es_here | apply Dh.es_there)) (fun b8 => ?_)
              refine Dh.JL.ptr rfl (by repeat (first | exact Dh.es_here | apply Dh.es_there)) (fun b9 => ?_)
              refine Dh.JL.nil ?_
              refine Dh.JE.mk rfl (fun _ h => by cases h) (fun C13_12 => ?_)
              refine Jl.storeW rfl tsh24 rfl (by rfl) (by first | exact rc_one _ _ | simp [Value.oneCell']) (by repeat (first | exact Swap.here | apply Swap.there)) (by rfl) ?_
              refine Jl.nil ?_
              refine Dh.Jq.segN (by repeat (first | exact Dh.FExt.refl | apply Dh.FExt.cons | apply Dh.FExt.app)) ?_ (by repeat (first | exact Dh.KeepL.nil | apply Dh.KeepL.anc (by rfl) | apply Dh.KeepL.keep (by repeat (first | exact Take.nil | apply Take.cons (by repeat (first | exact Del.here | apply Del.there))))))
              refine Dh.JH.cons ?_
              refine Dh.JB.nil ?_
              refine Dh.JL.nil ?_
              refine Dh.JE.mk rfl (fun _ h => by cases h) (fun C13_13 => ?_)
              refine Jl.storeW rfl tsh24 rfl (by rfl) (by first | exact rc_one _ _ | simp [Value.oneCell']) (by repeat (first | exact Swap.here | apply Swap.there)) (by rfl) ?_
              refine Jl.nil ?_
              refine Dh.Jq.segN (by repeat (first | exact Dh.FExt.refl | apply Dh.FExt.cons | apply Dh.FExt.app)) ?_ (by repeat (first | exact Dh.KeepL.nil | apply Dh.KeepL.anc (by rfl) | apply Dh.KeepL.keep (by repeat (first | exact Take.nil | apply Take.cons (by repeat (first | exact Del.here | apply Del.there))))))
              refine Dh.JH.nil ?_
              refine Dh.JB.nil ?_
              refine Dh.JL.nil ?_
              refine Jq.thenN ?_
              refine Jc.seq ?_
              refine Jc.seq ?_
              refine Jc.region ?_
              refine Jl.pv (PR.fieldAddr rfl tfl24_1) ?_
              refine Jl.pv (PR.load1 rfl tsh22 (by repeat (first | exact Has.here | apply Has.there)) (by rfl)) ?_
              refine Jl.pv (PR.len rfl tsl22) ?_
              refine Jl.pv (PR.fieldAddr rfl tfl24_1) ?_
              refine Jl.pv (PR.load1 rfl tsh22 (by repeat (first | exact Has.here | apply Has.there)) (by rfl)) ?_
              refine Jl.pv (PR.len rfl tsl22) ?_
              refine Jl.pv (PR.neq false rfl rfl (by simp)) ?_
              refine Jl.pv (PR.move rfl) ?_
              refine Jl.on rfl rfl ?_
              refine Jl.pv (PR.fieldAddr rfl tfl24_1) ?_
              refine Jl.on rfl rfl ?_
              refine Jl.pv (PR.load1 rfl tsh22 (by repeat (first | exact Has.here | apply Has.there)) (by rfl)) ?_
              refine Jl.on rfl rfl ?_
              refine Jl.pv (PR.len rfl tsl22) ?_
              refine Jl.on rfl rfl ?_
              refine Jl.pv (PR.fieldAddr rfl tfl24_1) ?_
              refine Jl.on rfl rfl ?_
              refine Jl.pv (PR.load1 rfl tsh22 (by repeat (first | exact Has.here | apply Has.there)) (by rfl)) ?_
              refine Jl.on rfl rfl ?_
              refine Jl.pv (PR.len rfl tsl22) ?_
              refine Jl.on rfl rfl ?_
              refine Jl.pv (PR.neq false rfl rfl (by simp)) ?_
              refine Jl.pv (PR.pickF rfl rfl) ?_
              refine Jl.nil ?_
              refine Jq.thenN ?_
              refine Jc.condF rfl ?_
              refine Jc.skip ?_
              refine Jq.thenN ?_
              refine Jc.seq ?_
              refine Jc.drawn [0, 1, 0, 0, 8, 0, 0, 64, 0, 256, 199, 1223, 4095, 8191] ([], []) [⟨[(0, false), (1, false), (2, false), (3, false), (4, false), (5, false), (6, false), (7, false), (8, false), (9, false), (10, false)], [], 11⟩, ⟨[(12, false)], [], 13⟩] tmx (by kernel_rfl) ?_
              refine Dh.JH.cons ?_
              refine Dh.JB.pv rfl trivial (fun _ => PR.fieldAddr rfl tfl24_1) ?_
              refine Dh.JB.rd [.blk _ _ _] rfl trivial (by repeat (first | exact Take.nil | apply Take.cons (by repeat (first | exact Del.here | apply Del.there)))) (fun _ => PR.load1 rfl tsh22 Has.here (by rfl)) ?_
              refine Dh.JB.pv rfl trivial (fun _ => PR.move rfl) ?_
              refine Dh.JB.pv rfl trivial (fun _ => PR.fieldAddr rfl tfl24_1) ?_
              refine Dh.JB.rd [.blk _ _ _] rfl trivial (by repeat (first | exact Take.nil | apply Take.cons (by repeat (first | exact Del.here | apply Del.there)))) (fun _ => PR.load1 rfl tsh22 Has.here (by rfl)) ?_
              refine Dh.JB.pv rfl trivial (fun _ => PR.move rfl) ?_
              refine Dh.JB.pv rfl trivial (fun _ => PR.move rfl) ?_
              refine Dh.JB.pv rfl trivial (fun _ => PR.neg (-off) rfl (by rw [w64 (by omega) (by omega)]; omega)) ?_
              refine Dh.JB.pv rfl trivial (fun _ => PR.move rfl) ?_
              refine Dh.JB.pv rfl trivial (fun _ => PR.add _ rfl rfl (w64 (by omega) (by omega))) ?_
              refine Dh.JB.rd [.row _ _ _ _ _] rfl trivial (by repeat (first | exact Take.nil | apply Take.cons (by repeat (first | exact Del.here | apply Del.there)))) (fun _ => PR.idxO1 k rfl rfl tsl22 Del.here rfl hk) ?_
              refine Dh.JB.nil ?_
              refine Dh.JL.nil ?_
              refine Dh.JE.mk rfl (fun _ h => by cases h) (fun C16_11 => ?_)
              refine Jl.storeO rfl tsh3 rfl (by rfl) (by repeat (first | exact Swap.here | apply Swap.there)) (by simpa using hk) (rset _ _ _) ?_
              refine Jl.nil ?_
              refine Dh.Jq.segN (by repeat (first | exact Dh.FExt.refl | apply Dh.FExt.cons | apply Dh.FExt.app)) ?_ (by repeat (first | exact Dh.KeepL.nil | apply Dh.KeepL.anc (by rfl) | apply Dh.KeepL.keep (by repeat (first | exact Take.nil | apply Take.cons (by repeat (first | exact Del.here | apply Del.there))))))
              refine Dh.JH.cons ?_
              refine Dh.JB.rd [.row _ _ _ _ _] rfl trivial (by repeat (first | exact Take.nil | apply Take.cons (by repeat (first | exact Del.here | apply Del.there)))) (fun _ => PR.idxO1 k rfl rfl tsl22 Del.here rfl hk) ?_
              refine Dh.JB.nil ?_
              refine Dh.JL.nil ?_
              refine Dh.JE.mk rfl (fun _ h => by cases h) (fun C16_13 => ?_)
              refine Jl.storeO rfl tsh3 rfl (by rfl) (by repeat (first | exact Swap.here | apply Swap.there)) (by simpa using hk) (rset _ _ _) ?_
              refine Jl.nil ?_
              refine Dh.Jq.segN (by repeat (first | exact Dh.FExt.refl | apply Dh.FExt.cons | apply Dh.FExt.app)) ?_ (by repeat (first | exact Dh.KeepL.nil | apply Dh.KeepL.anc (by rfl) | apply Dh.KeepL.keep (by repeat (first | exact Take.nil | apply Take.cons (by repeat (first | exact Del.here | apply Del.there))))))
              refine Dh.JH.nil ?_
              refine Dh.JB.nil ?_
              refine Dh.JL.nil ?_
              refine Jq.thenN ?_
              refine Jc.seq ?_
              refine Jc.sealR (A := A92) (by repeat (first | exact Del.here | apply Del.there)) ?_
              refine Jc.sealR (A := A97) (by repeat (first | exact Del.here | apply Del.there)) ?_
              refine Jc.blkAs (b := b8) (cs := r.cs (A92, c92)) ((⟨r.k, r.l.set k (-off)⟩ : Rc).cs (A92, c92)) (by simp [Rc.cs]) (by repeat (first | exact Swap.here | apply Swap.there)) ?_
              refine Jc.blkAs (b := b9) (cs := r.cs (A97, c97)) ((⟨r.k, r.l.set k (1099511627776 + off)⟩ : Rc).cs (A97, c97)) (by simp [Rc.cs]) (by repeat (first | exact Swap.here | apply Swap.there)) ?_
              refine Jc.region ?_
              refine Jl.pv (PR.loadW rfl tsh24 (by repeat (first | exact Has.here | apply Has.there)) (by rfl)) ?_
              refine Jl.call (right_ct ⟨r.k, r.l.set k (-off)⟩ (A92, c92) m (by simp; omega)) en16 (by rfl) (by repeat (first | exact Take.nil | apply Take.cons (by repeat (first | exact Del.here | apply Del.there)))) (by repeat (first | exact trivial | refine And.intro (by repeat (first | exact Mem.here | apply Mem.there)) ?_)) ?_
              rintro ⟨⟩
              refine Jl.as (.bool false) (congrArg Value.bool hl1) ?_
              refine Jl.pv (PR.not rfl) ?_
              refine Jl.pv (PR.move rfl) ?_
              refine Jl.on rfl rfl ?_
              refine Jl.pv (PR.loadW rfl tsh24 (by repeat (first | exact Has.here | apply Has.there)) (by rfl)) ?_
              refine Jl.on rfl rfl ?_
              refine Jl.call (right_ct ⟨r.k, r.l.set k (1099511627776 + off)⟩ (A97, c97) m (by simp; omega)) en16 (by rfl) (by repeat (first | exact Take.nil | apply Take.cons (by repeat (first | exact Del.here | apply Del.there)))) (by repeat (first | exact trivial | refine And.intro (by repeat (first | exact Mem.here | apply Mem.there)) ?_)) ?_
              rintro ⟨⟩
              refine Jl.as (.bool false) (congrArg Value.bool hl2) ?_
              refine Jl.on rfl rfl ?_
              refine Jl.pv (PR.not rfl) ?_
              refine Jl.pv (PR.pickT rfl rfl) ?_
              refine Jl.pv (PR.move rfl) ?_
              refine Jl.on rfl rfl ?_
              refine Jl.pv (PR.loadW rfl tsh24 (by repeat (first | exact Has.here | apply Has.there)) (by rfl)) ?_
              refine Jl.on rfl rfl ?_
              refine Jl.pv (PR.loadW rfl tsh24 (by repeat (first | exact Has.here | apply Has.there)) (by rfl)) ?_
              refine Jl.on rfl rfl ?_
              refine Jl.buildSlice (by rfl) tsl25 tzr25_2 (by rfl) (by rfl) ?_
              intro b137
              refine Jl.seal (by repeat (first | exact Del.here | apply Del.there)) ?_
              refine Jl.rcNil ?_
              refine Jl.rcCons ((A92, c92), ⟨r.k, r.l.set k (-off)⟩) (by repeat (first | exact Mem.here | apply Mem.there)) (by repeat (first | exact Mem.here | apply Mem.there)) ?_
              refine Jl.rcCons (x, r) (by repeat (first | exact Mem.here | apply Mem.there)) (by repeat (first | exact Mem.here | apply Mem.there)) ?_
              refine Jl.on rfl rfl ?_
              refine Jl.call (all_ct (some ⟨b137, 0, none⟩) 2 [(x, r), ((A92, c92), ⟨r.k, r.l.set k (-off)⟩)] m (by simp) (by simp; omega)) en21 (by rfl) (by repeat (first | exact Take.nil | apply Take.cons (by repeat (first | exact Del.here | apply Del.there)))) (by repeat (first | exact trivial | refine And.intro (by repeat (first | exact Mem.here | apply Mem.there)) ?_)) ?_
              rintro ⟨⟩
              refine Jl.as (.bool false) (congrArg Value.bool (by simp [okAll, hl1])) ?_
              refine Jl.on rfl rfl ?_
              refine Jl.pv (PR.not rfl) ?_
              refine Jl.pv (PR.pickT rfl rfl) ?_
              refine Jl.pv (PR.move rfl) ?_
              refine Jl.on rfl rfl ?_
              refine Jl.pv (PR.loadW rfl tsh24 (by repeat (first | exact Has.here | apply Has.there)) (by rfl)) ?_
              refine Jl.on rfl rfl ?_
              refine Jl.pv (PR.loadW rfl tsh24 (by repeat (first | exact Has.here | apply Has.there)) (by rfl)) ?_
              refine Jl.on rfl rfl ?_
              refine Jl.buildSlice (by rfl) tsl25 tzr25_2 (by rfl) (by rfl) ?_
              intro b144
              refine Jl.seal (by repeat (first | exact Del.here | apply Del.there)) ?_
              refine Jl.rcCons (zs := []) (x, r) (by repeat (first | exact Mem.here | apply Mem.there)) (by repeat (first | exact Mem.here | apply Mem.there)) ?_
              refine Jl.rcCons (x, r) (by repeat (first | exact Mem.here | apply Mem.there)) (by repeat (first | exact Mem.here | apply Mem.there)) ?_
              refine Jl.on rfl rfl ?_
              refine Jl.call (all_ct (some ⟨b144, 0, none⟩) 2 [(x, r), (x, r)] m (by simp) (by simp; omega)) en21 (by rfl) (by repeat (first | exact Take.nil | apply Take.cons (by repeat (first | exact Del.here | apply Del.there)))) (by repeat (first | exact trivial | refine And.intro (by repeat (first | exact Mem.here | apply Mem.there)) ?_)) ?_
              rintro ⟨⟩
              refine Jl.as (.bool true) (congrArg Value.bool (by simp [okAll, hro])) ?_
              refine Jl.pv (PR.pickT rfl rfl) ?_
              refine Jl.pv (PR.move rfl) ?_
              refine Jl.on rfl rfl ?_
              refine Jl.call (rwakes_ct m bn) en10 (by rfl) (by repeat (first | exact Take.nil | apply Take.cons (by repeat (first | exact Del.here | apply Del.there)))) (by repeat (first | exact trivial | refine And.intro (by repeat (first | exact Mem.here | apply Mem.there)) ?_)) ?_
              rintro ⟨⟩
              refine Jl.pv (PR.pickT rfl rfl) ?_
              refine Jl.pv (PR.assign rfl) ?_
              refine Jl.nil ?_
              refine Jq.thenN ?_
              refine Jc.ret ?_
              exact Jq.fin () (.inl rfl) rfl (RetVs.tmp rfl RetVs.nil) rfl (by repeat (first | exact Take.nil | apply Take.cons (by repeat (first | exact Del.here | apply Del.there)))) (by repeat (first | exact trivial | refine And.intro (by repeat (first | exact Mem.here | apply Mem.there)) ?_))
  · skip
    refine Ct.of _ Tryd.func6 Tryd.ntmps6 rfl rfl (fun X W => ?_)
    refine Jc.seq ?_
    refine Jc.region ?_
    refine Jl.box rfl (by rfl) ?_
    intro b3
    refine Jl.pv (PR.assign rfl) ?_
    refine Jl.nil ?_
    refine Jq.thenN ?_
    refine Jc.seq ?_
    refine Jc.seq ?_
    refine Jc.region ?_
    refine Jl.pv (PR.loadW rfl tsh24 (by repeat (first | exact Has.here | apply Has.there)) (by rfl)) ?_
    refine Jl.buildSlice (by rfl) tsl25 tzr25_1 (by rfl) (by rfl) ?_
    intro b11
    refine Jl.seal (by repeat (first | exact Del.here | apply Del.there)) ?_
    refine Jl.call (great_ct (some ⟨b11, 0, none⟩) 1 [(x, r)]) en9 (by rfl) (by repeat (first | exact Take.nil | apply Take.cons (by repeat (first | exact Del.here | apply Del.there)))) (by repeat (first | exact trivial | refine And.intro (by repeat (first | exact Mem.here | apply Mem.there)) ?_)) ?_
    rintro ⟨⟩
    refine Jl.pv (PR.move rfl) ?_
    refine Jl.bsplit (fun g13 => ?_) (fun g13 => ?_)
    · try replace g13 := of_decide_eq_true g13
      refine Jl.offS rfl rfl rfl ?_
      refine Jl.offS rfl rfl rfl ?_
      refine Jl.offS rfl rfl rfl ?_
      refine Jl.pv (PR.pickT rfl rfl) ?_
      refine Jl.pv (PR.move rfl) ?_
      refine Jl.offS rfl rfl rfl ?_
      refine Jl.offS rfl rfl rfl ?_
      refine Jl.pv (PR.pickT rfl rfl) ?_
      refine Jl.pv (PR.move rfl) ?_
      refine Jl.offS rfl rfl rfl ?_
      refine Jl.offS rfl rfl rfl ?_
      refine Jl.pv (PR.pickT rfl rfl) ?_
      refine Jl.nil ?_
      refine Jq.thenN ?_
      refine Jc.condT rfl ?_
      refine Jc.seq ?_
      refine Jc.region ?_
      refine Jl.call (rwakes_ct m bn) en10 (by rfl) (by repeat (first | exact Take.nil | apply Take.cons (by repeat (first | exact Del.here | apply Del.there)))) (by repeat (first | exact trivial | refine And.intro (by repeat (first | exact Mem.here | apply Mem.there)) ?_)) ?_
      rintro ⟨⟩
      refine Jl.pv (PR.assign rfl) ?_
      refine Jl.nil ?_
      refine Jq.thenN ?_
      refine Jc.ret ?_
      refine Jq.thenR ?_
      exact Jq.fin () (.inl rfl) rfl (RetVs.tmp rfl RetVs.nil) rfl (by repeat (first | exact Take.nil | apply Take.cons (by repeat (first | exact Del.here | apply Del.there)))) (by repeat (first | exact trivial | refine And.intro (by repeat (first | exact Mem.here | apply Mem.there)) ?_))
    · try replace g13 := of_decide_eq_false g13
      have hr : r.l.length ≤ 60 := (grt_no g13).2 (x, r) (by simp)
      refine Jl.on rfl rfl ?_
      refine Jl.pv (PR.loadW rfl tsh24 (by repeat (first | exact Has.here | apply Has.there)) (by rfl)) ?_
      refine Jl.on rfl rfl ?_
      refine Jl.call (rright_ct r x (by omega)) en17 (by rfl) (by repeat (first | exact Take.nil | apply Take.cons (by repeat (first | exact Del.here | apply Del.there)))) (by repeat (first | exact trivial | refine And.intro (by repeat (first | exact Mem.here | apply Mem.there)) ?_)) ?_
      rintro ⟨⟩
      refine Jl.on rfl rfl ?_
      refine Jl.pv (PR.not rfl) ?_
      refine Jl.pv (PR.pickF rfl rfl) ?_
      refine Jl.pv (PR.move rfl) ?_
      refine Jl.bsplit (fun g18 => ?_) (fun g18 => ?_)
      · try replace g18 := of_decide_eq_true g18
        refine Jl.offS rfl rfl rfl ?_
        refine Jl.offS rfl rfl rfl ?_
        refine Jl.pv (PR.pickT rfl rfl) ?_
        refine Jl.pv (PR.move rfl) ?_
        refine Jl.offS rfl rfl rfl ?_
        refine Jl.offS rfl rfl rfl ?_
        refine Jl.pv (PR.pickT rfl rfl) ?_
        refine Jl.nil ?_
        refine Jq.thenN ?_
        refine Jc.condT rfl ?_
        refine Jc.seq ?_
        refine Jc.region ?_
        refine Jl.call (rwakes_ct m bn) en10 (by rfl) (by repeat (first | exact Take.nil | apply Take.cons (by repeat (first | exact Del.here | apply Del.there)))) (by repeat (first | exact trivial | refine And.intro (by repeat (first | exact Mem.here | apply Mem.there)) ?_)) ?_
        rintro ⟨⟩
        refine Jl.pv (PR.assign rfl) ?_
        refine Jl.nil ?_
        refine Jq.thenN ?_
        refine Jc.ret ?_
        refine Jq.thenR ?_
        exact Jq.fin () (.inl rfl) rfl (RetVs.tmp rfl RetVs.nil) rfl (by repeat (first | exact Take.nil | apply Take.cons (by repeat (first | exact Del.here | apply Del.there)))) (by repeat (first | exact trivial | refine And.intro (by repeat (first | exact Mem.here | apply Mem.there)) ?_))
      · try replace g18 := of_decide_eq_false g18
        have hro := not_false g18
        refine Jl.on rfl rfl ?_
        refine Jl.pv (PR.move rfl) ?_
        refine Jl.on rfl rfl ?_
        refine Jl.pv (PR.lss _ rfl rfl rfl) ?_
        refine Jl.pv (PR.pickF rfl rfl) ?_
        refine Jl.pv (PR.move rfl) ?_
        refine Jl.bsplit (fun g22 => ?_) (fun g22 => ?_)
        · try replace g22 := of_decide_eq_true g22
          refine Jl.offS rfl rfl rfl ?_
          refine Jl.offS rfl rfl rfl ?_
          refine Jl.pv (PR.pickT rfl rfl) ?_
          refine Jl.nil ?_
          refine Jq.thenN ?_
          refine Jc.condT rfl ?_
          refine Jc.seq ?_
          refine Jc.region ?_
          refine Jl.call (rwakes_ct m bn) en10 (by rfl) (by repeat (first | exact Take.nil | apply Take.cons (by repeat (first | exact Del.here | apply Del.there)))) (by repeat (first | exact trivial | refine And.intro (by repeat (first | exact Mem.here | apply Mem.there)) ?_)) ?_
          rintro ⟨⟩
          refine Jl.pv (PR.assign rfl) ?_
          refine Jl.nil ?_
          refine Jq.thenN ?_
          refine Jc.ret ?_
          refine Jq.thenR ?_
          exact Jq.fin () (.inl rfl) rfl (RetVs.tmp rfl RetVs.nil) rfl (by repeat (first | exact Take.nil | apply Take.cons (by repeat (first | exact Del.here | apply Del.there)))) (by repeat (first | exact trivial | refine And.intro (by repeat (first | exact Mem.here | apply Mem.there)) ?_))
        · try replace g22 := of_decide_eq_false g22
          refine Jl.on rfl rfl ?_
          refine Jl.pv (PR.move rfl) ?_
          refine Jl.on rfl rfl ?_
          refine Jl.pv (PR.gtr _ rfl rfl rfl) ?_
          refine Jl.pv (PR.pickF rfl rfl) ?_
          refine Jl.nil ?_
          refine Jq.thenN ?_
          refine Jc.cond rfl (fun h0 => ?_) (fun h0 => ?_)
          · try replace h0 := of_decide_eq_true h0
            refine Jc.seq ?_
            refine Jc.region ?_
            refine Jl.call (rwakes_ct m bn) en10 (by rfl) (by repeat (first | exact Take.nil | apply Take.cons (by repeat (first | exact Del.here | apply Del.there)))) (by repeat (first | exact trivial | refine And.intro (by repeat (first | exact Mem.here | apply Mem.there)) ?_)) ?_
            rintro ⟨⟩
            refine Jl.pv (PR.assign rfl) ?_
            refine Jl.nil ?_
            refine Jq.thenN ?_
            refine Jc.ret ?_
            refine Jq.thenR ?_
            exact Jq.fin () (.inl rfl) rfl (RetVs.tmp rfl RetVs.nil) rfl (by repeat (first | exact Take.nil | apply Take.cons (by repeat (first | exact Del.here | apply Del.there)))) (by repeat (first | exact trivial | refine And.intro (by repeat (first | exact Mem.here | apply Mem.there)) ?_))
          · try replace h0 := of_decide_eq_false h0
            refine Jc.skip ?_
            refine Jq.thenN ?_
            refine Jc.seq ?_
            refine Jc.seq ?_
            refine Jc.region ?_
            refine Jl.pv (PR.loadW rfl tsh24 (by repeat (first | exact Has.here | apply Has.there)) (by rfl)) ?_
            refine Jl.call (right_ct r x m (by omega)) en16 (by rfl) (by repeat (first | exact Take.nil | apply Take.cons (by repeat (first | exact Del.here | apply Del.there)))) (by repeat (first | exact trivial | refine And.intro (by repeat (first | exact Mem.here | apply Mem.there)) ?_)) ?_
            rintro ⟨⟩
            refine Jl.as (.bool true) (congrArg Value.bool hro) ?_
            refine Jl.pv (PR.not rfl) ?_
            refine Jl.nil ?_
            refine Jq.thenN ?_
            refine Jc.condF rfl ?_
            refine Jc.skip ?_
            refine Jq.thenN ?_
            refine Jc.seq ?_
            refine Jc.drawn [0, 1, 0, 0, 8, 28, 0, 124, 255, 0, 1023] ([], []) [⟨[(0, false), (1, false), (2, true), (3, false), (4, false), (6, true), (9, true)], [2], 5⟩, ⟨[], [6], 7⟩, ⟨[], [], 8⟩, ⟨[], [9], 10⟩] tmx (by kernel_rfl) ?_
            refine Dh.JH.cons ?_
            refine Dh.JB.pv rfl trivial (fun _ => PR.fieldAddr rfl tfl24_0) ?_
            refine Dh.JB.rd [.blk _ _ _] rfl trivial (by repeat (first | exact Take.nil | apply Take.cons (by repeat (first | exact Del.here | apply Del.there)))) (fun _ => PR.load1 rfl tsh5 Has.here (by rfl)) ?_
            refine Dh.JB.buildSlice rfl trivial (by rfl) tsl22 tzr22_0 (by rfl) (by rfl) ?_
            refine Dh.JB.pv rfl trivial (fun _ => PR.fieldAddr rfl tfl24_1) ?_
            refine Dh.JB.rd [.blk _ _ _] rfl trivial (by repeat (first | exact Take.nil | apply Take.cons (by repeat (first | exact Del.here | apply Del.there)))) (fun _ => PR.load1 rfl tsh22 Has.here (by rfl)) ?_
            refine Dh.JB.buildSlice rfl trivial (by rfl) tsl22 tzr22_1 (by rfl) (by rfl) ?_
            refine Dh.JB.alloc rfl trivial tze24 ?_
            refine Dh.JB.nil ?_
            refine Dh.JL.sl rfl (by repeat (first | exact Dh.es_here | apply Dh.es_there)) (fun b32 => ?_)
            refine Dh.JL.nil ?_
            refine Dh.JE.mk rfl (fun _ h => by cases h) (fun C5_5 => ?_)
            refine Jl.toRow 1 0 (by repeat (first | exact Swap.here | apply Swap.there)) (by rfl) (by rfl) ?_
            refine Jl.append r.l.length (i64s r.l) rfl rfl rfl tsl22 tze3 (by rfl) (by decide) tby3 (fun _ _ => (by repeat (first | exact Swap.here | apply Swap.there))) (by repeat (first | exact Mem.here | apply Mem.there)) (by omega) rfl (by simp) (i64s_one _) (by omega) (by decide) ?_
            intro A35 c35
            refine Jl.nil ?_
            refine Dh.Jq.segV (by repeat (first | exact Dh.FExt.refl | apply Dh.FExt.cons | apply Dh.FExt.app)) ?_ (by repeat (first | exact Dh.KeepL.nil | apply Dh.KeepL.anc (by rfl) | apply Dh.KeepL.keep (by repeat (first | exact Take.nil | apply Take.cons (by repeat (first | exact Del.here | apply Del.there))))))
            refine Dh.JH.cons ?_
            refine Dh.JB.nil ?_
            refine Dh.JL.sl rfl (by repeat (first | exact Dh.es_here | apply Dh.es_there)) (fun b36 => ?_)
            refine Dh.JL.nil ?_
            refine Dh.JE.mk rfl (fun _ h => by cases h) (fun C5_7 => ?_)
            refine Jl.seal (by repeat (first | exact Del.here | apply Del.there)) ?_
            refine Jl.append (r.l ++ [1]).length (i64s (r.l ++ [1])) rfl rfl rfl tsl22 tze3 (by rfl) (by decide) tby3 (fun _ _ => (by repeat (first | exact Swap.here | apply Swap.there))) (by repeat (first | exact Mem.here | apply Mem.there)) (by simp) (by simp) (by simp) (by simp [Value.oneCell']) (by omega) (by decide) ?_
            intro A37 c37
            refine Jl.sealR (by repeat (first | exact Del.here | apply Del.there)) ?_
            refine Jl.nil ?_
            refine Dh.Jq.segV (by repeat (first | exact Dh.FExt.refl | apply Dh.FExt.cons | apply Dh.FExt.app)) ?_ (by repeat (first | exact Dh.KeepL.nil | apply Dh.KeepL.anc (by rfl) | apply Dh.KeepL.keep (by repeat (first | exact Take.nil | apply Take.cons (by repeat (first | exact Del.here | apply Del.there))))))
            refine Dh.JH.cons ?_
            refine Dh.JB.nil ?_
            refine Dh.JL.nil ?_
            refine Dh.JE.mk rfl (fun _ h => by cases h) (fun C5_8 => ?_)
            refine Jl.call (of_ct r.k A37 c37 (r.l ++ [1]) (by simp; omega)) en23 (by rfl) (by repeat (first | exact Take.nil | apply Take.cons (by repeat (first | exact Del.here | apply Del.there)))) (by repeat (first | exact trivial | refine And.intro (by repeat (first | exact Mem.here | apply Mem.there)) ?_)) ?_
            rintro ⟨A38, c38⟩
            refine Jl.sealR (by repeat (first | exact Del.here | apply Del.there)) ?_
            refine Jl.nil ?_
            refine Dh.Jq.segV (by repeat (first | exact Dh.FExt.refl | apply Dh.FExt.cons | apply Dh.FExt.app)) ?_ (by repeat (first | exact Dh.KeepL.nil | apply Dh.KeepL.anc (by rfl) | apply Dh.KeepL.keep (by repeat (first | exact Take.nil | apply Take.cons (by repeat (first | exact Del.here | apply Del.there))))))
            refine Dh.JH.cons ?_
            refine Dh.JB.nil ?_
            refine Dh.JL.ptr rfl (by repeat (first | exact Dh.es_here | apply Dh.es_there)) (fun b7 => ?_)
            refine Dh.JL.nil ?_
            refine Dh.JE.mk rfl (fun _ h => by cases h) (fun C5_10 => ?_)
            refine Jl.storeW rfl tsh24 rfl (by rfl) (by first | exact rc_one _ _ | simp [Value.oneCell']) (by repeat (first | exact Swap.here | apply Swap.there)) (by rfl) ?_
            refine Jl.nil ?_
            refine Dh.Jq.segN (by repeat (first | exact Dh.FExt.refl | apply Dh.FExt.cons | apply Dh.FExt.app)) ?_ (by repeat (first | exact Dh.KeepL.nil | apply Dh.KeepL.anc (by rfl) | apply Dh.KeepL.keep (by repeat (first | exact Take.nil | apply Take.cons (by repeat (first | exact Del.here | apply Del.there))))))
            refine Dh.JH.nil ?_
            refine Dh.JB.nil ?_
            refine Dh.JL.nil ?_
            refine Jq.thenN ?_
            refine Jc.seq ?_
            refine Jc.seq ?_
            refine Jc.region ?_
            refine Jl.pv (PR.fieldAddr rfl tfl24_0) ?_
            refine Jl.pv (PR.load1 rfl tsh5 (by repeat (first | exact Has.here | apply Has.there)) (by rfl)) ?_
            refine Jl.pv (PR.neq true rfl rfl (by simp; omega)) ?_
            refine Jl.pv (PR.move rfl) ?_
            refine Jl.on rfl rfl ?_
            refine Jl.pv (PR.loadW rfl tsh24 (by repeat (first | exact Has.here | apply Has.there)) (by rfl)) ?_
            refine Jl.on rfl rfl ?_
            refine Jl.call (right_ct ⟨r.k, r.l ++ [1]⟩ (A38, c38) m (by simp; omega)) en16 (by rfl) (by repeat (first | exact Take.nil | apply Take.cons (by repeat (first | exact Del.here | apply Del.there)))) (by repeat (first | exact trivial | refine And.intro (by repeat (first | exact Mem.here | apply Mem.there)) ?_)) ?_
            rintro ⟨⟩
            refine Jl.as (.bool false) (congrArg Value.bool (rc_len_no hro hk2 (by simp))) ?_
            refine Jl.pv (PR.pickT rfl rfl) ?_
            refine Jl.pv (PR.move rfl) ?_
            refine Jl.on rfl rfl ?_
            refine Jl.pv (PR.fieldAddr rfl tfl24_1) ?_
            refine Jl.on rfl rfl ?_
            refine Jl.pv (PR.load1 rfl tsh22 (by repeat (first | exact Has.here | apply Has.there)) (by rfl)) ?_
            refine Jl.on rfl rfl ?_
            refine Jl.call (of_ct 0 x.1 x.2 r.l (by omega)) en23 (by rfl) (by repeat (first | exact Take.nil | apply Take.cons (by repeat (first | exact Del.here | apply Del.there)))) (by repeat (first | exact trivial | refine And.intro (by repeat (first | exact Mem.here | apply Mem.there)) ?_)) ?_
            rintro ⟨A49, c49⟩
            refine Jl.sealR (by repeat (first | exact Del.here | apply Del.there)) ?_
            refine Jl.on rfl rfl ?_
            refine Jl.call (right_ct ⟨0, r.l⟩ (A49, c49) m (by simp only; omega)) en16 (by rfl) (by repeat (first | exact Take.nil | apply Take.cons (by repeat (first | exact Del.here | apply Del.there)))) (by repeat (first | exact trivial | refine And.intro (by repeat (first | exact Mem.here | apply Mem.there)) ?_)) ?_
            rintro ⟨⟩
            refine Jl.as (.bool false) (congrArg Value.bool (rc_k0_no r.l)) ?_
            refine Jl.pv (PR.pickF rfl rfl) ?_
            refine Jl.pv (PR.move rfl) ?_
            refine Jl.on rfl rfl ?_
            refine Jl.pv (PR.fieldAddr rfl tfl24_1) ?_
            refine Jl.on rfl rfl ?_
            refine Jl.pv (PR.load1 rfl tsh22 (by repeat (first | exact Has.here | apply Has.there)) (by rfl)) ?_
            refine Jl.on rfl rfl ?_
            refine Jl.call (of_ct 17 x.1 x.2 r.l (by omega)) en23 (by rfl) (by repeat (first | exact Take.nil | apply Take.cons (by repeat (first | exact Del.here | apply Del.there)))) (by repeat (first | exact trivial | refine And.intro (by repeat (first | exact Mem.here | apply Mem.there)) ?_)) ?_
            rintro ⟨A55, c55⟩
            refine Jl.sealR (by repeat (first | exact Del.here | apply Del.there)) ?_
            refine Jl.on rfl rfl ?_
            refine Jl.call (right_ct ⟨17, r.l⟩ (A55, c55) m (by simp only; omega)) en16 (by rfl) (by repeat (first | exact Take.nil | apply Take.cons (by repeat (first | exact Del.here | apply Del.there)))) (by repeat (first | exact trivial | refine And.intro (by repeat (first | exact Mem.here | apply Mem.there)) ?_)) ?_
            rintro ⟨⟩
            refine Jl.as (.bool false) (congrArg Value.bool (rc_k17_no r.l)) ?_
            refine Jl.pv (PR.pickF rfl rfl) ?_
            refine Jl.nil ?_
            refine Jq.thenN ?_
            refine Jc.condF rfl ?_
            refine Jc.skip ?_
            refine Jq.thenN ?_
            refine Jc.seq ?_
            refine Jc.seq ?_
            refine Jc.region ?_
            refine Jl.pv (PR.fieldAddr rfl tfl24_1) ?_
            refine Jl.pv (PR.load1 rfl tsh22 (by repeat (first | exact Has.here | apply Has.there)) (by rfl)) ?_
            refine Jl.pv (PR.len rfl tsl22) ?_
            refine Jl.pv (PR.eql _ rfl rfl rfl) ?_
            refine Jl.nil ?_
            refine Jq.thenN ?_
            refine Jc.cond rfl (fun h1 => ?_) (fun h1 => ?_)
            · try replace h1 := of_decide_eq_true h1
              refine Jc.seq ?_
              refine Jc.region ?_
              refine Jl.call (rwakes_ct m bn) en10 (by rfl) (by repeat (first | exact Take.nil | apply Take.cons (by repeat (first | exact Del.here | apply Del.there)))) (by repeat (first | exact trivial | refine And.intro (by repeat (first | exact Mem.here | apply Mem.there)) ?_)) ?_
              rintro ⟨⟩
              refine Jl.pv (PR.assign rfl) ?_
              refine Jl.nil ?_
              refine Jq.thenN ?_
              refine Jc.ret ?_
              refine Jq.thenR ?_
              exact Jq.fin () (.inl rfl) rfl (RetVs.tmp rfl RetVs.nil) rfl (by repeat (first | exact Take.nil | apply Take.cons (by repeat (first | exact Del.here | apply Del.there)))) (by repeat (first | exact trivial | refine And.intro (by repeat (first | exact Mem.here | apply Mem.there)) ?_))
            · try replace h1 := of_decide_eq_false h1
              have hne : 0 < r.l.length := by omega
              obtain ⟨k, hk, hke, hb1, hb2⟩ := rat_idx a r.l.length hne
              have hl1 : (⟨r.k, r.l.set k (-off)⟩ : Rc).ok = false := rc_set_no hk (by simp [fineN]; omega)
              have hl2 : (⟨r.k, r.l.set k (1099511627776 + off)⟩ : Rc).ok = false := rc_set_no hk (by simp [fineN]; omega)
              refine Jc.skip ?_
              refine Jq.thenN ?_
              refine Jc.seq ?_
              refine Jc.seq ?_
              refine Jc.drawn [0, 1, 3, 7, 15, 31, 15, 79, 207, 511, 1023, 2047] ([(11, false)], []) [⟨[(0, false), (1, false), (2, false), (3, false), (4, false), (5, false), (6, false), (7, false), (8, false)], [], 9⟩, ⟨[], [], 10⟩] tmx (by kernel_rfl) ?_
              refine Dh.JH.cons ?_
              refine Dh.JB.pv rfl trivial (fun _ => PR.fieldAddr rfl tfl24_0) ?_
              refine Dh.JB.rd [.blk _ _ _] rfl trivial (by repeat (first | exact Take.nil | apply Take.cons (by repeat (first | exact Del.here | apply Del.there)))) (fun _ => PR.load1 rfl tsh5 Has.here (by rfl)) ?_
              refine Dh.JB.pv rfl trivial (fun _ => PR.neq true rfl rfl (by simp; omega)) ?_
              refine Dh.JB.pv rfl trivial (fun _ => PR.move rfl) ?_
              refine Dh.JB.pv rfl ⟨_, rfl, rfl⟩ (fun _ => PR.fieldAddr rfl tfl24_0) ?_
              refine Dh.JB.rd [.blk _ _ _] rfl ⟨_, rfl, rfl⟩ (by repeat (first | exact Take.nil | apply Take.cons (by repeat (first | exact Del.here | apply Del.there)))) (fun _ => PR.load1 rfl tsh5 Has.here (by rfl)) ?_
              refine Dh.JB.pv rfl ⟨_, rfl, rfl⟩ (fun _ => PR.fieldAddr rfl tfl24_1) ?_
              refine Dh.JB.rd [.blk _ _ _] rfl ⟨_, rfl, rfl⟩ (by repeat (first | exact Take.nil | apply Take.cons (by repeat (first | exact Del.here | apply Del.there)))) (fun _ => PR.load1 rfl tsh22 Has.here (by rfl)) ?_
              refine Dh.JB.slice 1 r.l.length (r.l.drop 1).length (i64s (r.l.drop 1)) rfl ⟨_, rfl, rfl⟩ rfl tsl22 rfl rfl (by repeat (first | exact Mem.here | apply Mem.there)) (by omega) (Nat.le_refl _) hcx (by simp) (rdrop1 r.l) ?_
              intro A71 c71 hc71
              clear hc71
              refine Dh.JB.nil ?_
              refine Dh.JL.nil ?_
              refine Dh.JE.mk rfl (fun _ h => by cases h) (fun C10_9 => ?_)
              refine Jl.on rfl rfl ?_
              refine Jl.call (of_ct r.k A71 c71 (r.l.drop 1) (by simp; omega)) en23 (by rfl) (by repeat (first | exact Take.nil | apply Take.cons (by repeat (first | exact Del.here | apply Del.there)))) (by repeat (first | exact trivial | refine And.intro (by repeat (first | exact Mem.here | apply Mem.there)) ?_)) ?_
              rintro ⟨A72, c72⟩
              refine Jl.sealR (by repeat (first | exact Del.here | apply Del.there)) ?_
              refine Jl.nil ?_
              refine Dh.Jq.segV (by repeat (first | exact Dh.FExt.refl | apply Dh.FExt.cons | apply Dh.FExt.app)) ?_ (by repeat (first | exact Dh.KeepL.nil | apply Dh.KeepL.anc (by rfl) | apply Dh.KeepL.keep (by repeat (first | exact Take.nil | apply Take.cons (by repeat (first | exact Del.here | apply Del.there))))))
              refine Dh.JH.cons ?_
              refine Dh.JB.nil ?_
              refine Dh.JL.nil ?_
              refine Dh.JE.mk rfl (fun _ h => by cases h) (fun C10_10 => ?_)
              refine Jl.on rfl rfl ?_
              refine Jl.call (right_ct ⟨r.k, r.l.drop 1⟩ (A72, c72) m (by simp; omega)) en16 (by rfl) (by repeat (first | exact Take.nil | apply Take.cons (by repeat (first | exact Del.here | apply Del.there)))) (by repeat (first | exact trivial | refine And.intro (by repeat (first | exact Mem.here | apply Mem.there)) ?_)) ?_
              rintro ⟨⟩
              refine Jl.as (.bool false) (congrArg Value.bool (rc_len_no hro hk2 (by simp; omega))) ?_
              refine Jl.nil ?_
              refine Dh.Jq.segV (by repeat (first | exact Dh.FExt.refl | apply Dh.FExt.cons | apply Dh.FExt.app)) ?_ (by repeat (first | exact Dh.KeepL.nil | apply Dh.KeepL.anc (by rfl) | apply Dh.KeepL.keep (by repeat (first | exact Take.nil | apply Take.cons (by repeat (first | exact Del.here | apply Del.there))))))
              refine Dh.JH.nil ?_
              refine Dh.JB.pv rfl trivial (fun _ => PR.pickT rfl rfl) ?_
              refine Dh.JB.nil ?_
              refine Dh.JL.nil ?_
              refine Jq.thenN ?_
              refine Jc.condF rfl ?_
              refine Jc.skip ?_
              refine Jq.thenN ?_
              refine Jc.seq ?_
              refine Jc.drawn [0, 0, 2, 6, 15, 0, 32, 96, 255, 0, 512, 1536, 4095, 8191] ([(0, false), (1, false), (2, false), (3, false), (4, false), (5, false), (6, false), (7, false), (8, false), (9, false), (10, false), (11, false), (12, false), (13, false)], []) [] tmx (by kernel_rfl) ?_
              refine Dh.JH.nil ?_
              refine Dh.JB.pv rfl trivial (fun _ => PR.move rfl) ?_
              refine Dh.JB.pv rfl trivial (fun _ => PR.fieldAddr rfl tfl24_1) ?_
              refine Dh.JB.rd [.blk _ _ _] rfl trivial (by repeat (first | exact Take.nil | apply Take.cons (by repeat (first | exact Del.here | apply Del.there)))) (fun _ => PR.load1 rfl tsh22 Has.here (by rfl)) ?_
              refine Dh.JB.pv rfl trivial (fun _ => PR.len rfl tsl22) ?_
              refine Dh.JB.pv rfl trivial (fun _ => PR.rem (a.tmod r.l.length) rfl rfl (by omega) rfl) ?_
              refine Dh.JB.pv rfl trivial (fun _ => PR.fieldAddr rfl tfl24_1) ?_
              refine Dh.JB.rd [.blk _ _ _] rfl trivial (by repeat (first | exact Take.nil | apply Take.cons (by repeat (first | exact Del.here | apply Del.there)))) (fun _ => PR.load1 rfl tsh22 Has.here (by rfl)) ?_
              refine Dh.JB.pv rfl trivial (fun _ => PR.len rfl tsl22) ?_
              refine Dh.JB.pv rfl trivial (fun _ => PR.add (a.tmod r.l.length + r.l.length) rfl rfl (w64 (by omega) (by omega))) ?_
              refine Dh.JB.pv rfl trivial (fun _ => PR.fieldAddr rfl tfl24_1) ?_
              refine Dh.JB.rd [.blk _ _ _] rfl trivial (by repeat (first | exact Take.nil | apply Take.cons (by repeat (first | exact Del.here | apply Del.there)))) (fun _ => PR.load1 rfl tsh22 Has.here (by rfl)) ?_
              refine Dh.JB.pv rfl trivial (fun _ => PR.len rfl tsl22) ?_
              refine Dh.JB.pv rfl trivial (fun _ => PR.rem (k : Int) rfl rfl (by omega) hke) ?_
              refine Dh.JB.pv rfl trivial (fun _ => PR.assign rfl) ?_
              refine Dh.JB.nil ?_
              refine Dh.JL.nil ?_
              refine Jq.thenN ?_
              refine Jc.seq ?_
              refine Jc.drawn [0, 1, 0, 4, 15, 0, 32, 0, 128, 511, 0, 0, 4095, 8191] ([], []) [⟨[(0, false), (1, false), (2, false), (3, false), (5, false), (6, false), (7, false), (8, false), (10, true), (11, true)], [], 4⟩, ⟨[], [], 9⟩, ⟨[], [10, 11], 12⟩, ⟨[], [], 13⟩] tmx (by kernel_rfl) ?_
              refine Dh.JH.cons ?_
              refine Dh.JB.pv rfl trivial (fun _ => PR.fieldAddr rfl tfl24_0) ?_
              refine Dh.JB.rd [.blk _ _ _] rfl trivial (by repeat (first | exact Take.nil | apply Take.cons (by repeat (first | exact Del.here | apply Del.there)))) (fun _ => PR.load1 rfl tsh5 Has.here (by rfl)) ?_
              refine Dh.JB.pv rfl trivial (fun _ => PR.fieldAddr rfl tfl24_1) ?_
              refine Dh.JB.rd [.blk _ _ _] rfl trivial (by repeat (first | exact Take.nil | apply Take.cons (by repeat (first | exact Del.here | apply Del.there)))) (fun _ => PR.load1 rfl tsh22 Has.here (by rfl)) ?_
              refine Dh.JB.pv rfl trivial (fun _ => PR.fieldAddr rfl tfl24_0) ?_
              refine Dh.JB.rd [.blk _ _ _] rfl trivial (by repeat (first | exact Take.nil | apply Take.cons (by repeat (first | exact Del.here | apply Del.there)))) (fun _ => PR.load1 rfl tsh5 Has.here (by rfl)) ?_
              refine Dh.JB.pv rfl trivial (fun _ => PR.fieldAddr rfl tfl24_1) ?_
              refine Dh.JB.rd [.blk _ _ _] rfl trivial (by repeat (first | exact Take.nil | apply Take.cons (by repeat (first | exact Del.here | apply Del.there)))) (fun _ => PR.load1 rfl tsh22 Has.here (by rfl)) ?_
              refine Dh.JB.alloc rfl trivial tze24 ?_
              refine Dh.JB.alloc rfl trivial tze24 ?_
              refine Dh.JB.nil ?_
              refine Dh.JL.nil ?_
              refine Dh.JE.mk rfl (fun _ h => by cases h) (fun C13_4 => ?_)
              refine Jl.call (of_ct r.k x.1 x.2 r.l (by omega)) en23 (by rfl) (by repeat (first | exact Take.nil | apply Take.cons (by repeat (first | exact Del.here | apply Del.there)))) (by repeat (first | exact trivial | refine And.intro (by repeat (first | exact Mem.here | apply Mem.there)) ?_)) ?_
              rintro ⟨A92, c92⟩
              refine Jl.nil ?_
              refine Dh.Jq.segV (by repeat (first | exact Dh.FExt.refl | apply Dh.FExt.cons | apply Dh.FExt.app)) ?_ (by repeat (first | exact Dh.KeepL.nil | apply Dh.KeepL.anc (by rfl) | apply Dh.KeepL.keep (by repeat (first | exact Take.nil | apply Take.cons (by repeat (first | exact Del.here | apply Del.there))))))
              refine Dh.JH.cons ?_
              refine Dh.JB.nil ?_
              refine Dh.JL.nil ?_
              refine Dh.JE.mk rfl (fun _ h => by cases h) (fun C13_9 => ?_)
              refine Jl.call (of_ct r.k x.1 x.2 r.l (by omega)) en23 (by rfl) (by repeat (first | exact Take.nil | apply Take.cons (by repeat (first | exact Del.here | apply Del.there)))) (by repeat (first | exact trivial | refine And.intro (by repeat (first | exact Mem.here | apply Mem.there)) ?_)) ?_
              rintro ⟨A97, c97⟩
              refine Jl.nil ?_
              refine Dh.Jq.segV (by repeat (first | exact Dh.FExt.refl | apply Dh.FExt.cons | apply Dh.FExt.app)) ?_ (by repeat (first | exact Dh.KeepL.nil | apply Dh.KeepL.anc (by rfl) | apply Dh.KeepL.keep (by repeat (first | exact Take.nil | apply Take.cons (by repeat (first | exact Del.here | apply Del.there))))))
              refine Dh.JH.cons ?_
              refine Dh.JB.nil ?_
              refine Dh.JL.ptr rfl (by repeat (first | exact Dh.es_here | apply Dh.es_there)) (fun b8 => ?_)
              refine Dh.JL.ptr rfl (by repeat (first | exact Dh.es_here | apply Dh.es_there)) (fun b9 => ?_)
              refine Dh.JL.nil ?_
              refine Dh.JE.mk rfl (fun _ h => by cases h) (fun C13_12 => ?_)
              refine Jl.storeW rfl tsh24 rfl (by rfl) (by first | exact rc_one _ _ | simp [Value.oneCell']) (by repeat (first | exact Swap.here | apply Swap.there)) (by rfl) ?_
              refine Jl.nil ?_
              refine Dh.Jq.segN (by repeat (first | exact Dh.FExt.refl | apply Dh.FExt.cons | apply Dh.FExt.app)) ?_ (by repeat (first | exact Dh.KeepL.nil | apply Dh.KeepL.anc (by rfl) | apply Dh.KeepL.keep (by repeat (first | exact Take.nil | apply Take.cons (by repeat (first | exact Del.here | apply Del.there))))))
              refine Dh.JH.cons ?_
              refine Dh.JB.nil ?_
              refine Dh.JL.nil ?_
              refine Dh.JE.mk rfl (fun _ h => by cases h) (fun C13_13 => ?_)
              refine Jl.storeW rfl tsh24 rfl (by rfl) (by first | exact rc_one _ _ | simp [Value.oneCell']) (by repeat (first | exact Swap.here | apply Swap.there)) (by rfl) ?_
              refine Jl.nil ?_
              refine Dh.Jq.segN (by repeat (first | exact Dh.FExt.refl | apply Dh.FExt.cons | apply Dh.FExt.app)) ?_ (by repeat (first | exact Dh.KeepL.nil | apply Dh.KeepL.anc (by rfl) | apply Dh.KeepL.keep (by repeat (first | exact Take.nil | apply Take.cons (by repeat (first | exact Del.here | apply Del.there))))))
              refine Dh.JH.nil ?_
              refine Dh.JB.nil ?_
              refine Dh.JL.nil ?_
              refine Jq.thenN ?_
              refine Jc.seq ?_
              refine Jc.seq ?_
              refine Jc.region ?_
              refine Jl.pv (PR.fieldAddr rfl tfl24_1) ?_
              refine Jl.pv (PR.load1 rfl tsh22 (by repeat (first | exact Has.here | apply Has.there)) (by rfl)) ?_
              refine Jl.pv (PR.len rfl tsl22) ?_
              refine Jl.pv (PR.fieldAddr rfl tfl24_1) ?_
              refine Jl.pv (PR.load1 rfl tsh22 (by repeat (first | exact Has.here | apply Has.there)) (by rfl)) ?_
              refine Jl.pv (PR.len rfl tsl22) ?_
              refine Jl.pv (PR.neq false rfl rfl (by simp)) ?_
              refine Jl.pv (PR.move rfl) ?_
              refine Jl.on rfl rfl ?_
              refine Jl.pv (PR.fieldAddr rfl tfl24_1) ?_
              refine Jl.on rfl rfl ?_
              refine Jl.pv (PR.load1 rfl tsh22 (by repeat (first | exact Has.here | apply Has.there)) (by rfl)) ?_
              refine Jl.on rfl rfl ?_
              refine Jl.pv (PR.len rfl tsl22) ?_
              refine Jl.on rfl rfl ?_
              refine Jl.pv (PR.fieldAddr rfl tfl24_1) ?_
              refine Jl.on rfl rfl ?_
              refine Jl.pv (PR.load1 rfl tsh22 (by repeat (first | exact Has.here | apply Has.there)) (by rfl)) ?_
              refine Jl.on rfl rfl ?_
              refine Jl.pv (PR.len rfl tsl22) ?_
              refine Jl.on rfl rfl ?_
              refine Jl.pv (PR.neq false rfl rfl (by simp)) ?_
              refine Jl.pv (PR.pickF rfl rfl) ?_
              refine Jl.nil ?_
              refine Jq.thenN ?_
              refine Jc.condF rfl ?_
              refine Jc.skip ?_
              refine Jq.thenN ?_
              refine Jc.seq ?_
              refine Jc.drawn [0, 1, 0, 0, 8, 0, 0, 64, 0, 256, 199, 1223, 4095, 8191] ([], []) [⟨[(0, false), (1, false), (2, false), (3, false), (4, false), (5, false), (6, false), (7, false), (8, false), (9, false), (10, false)], [], 11⟩, ⟨[(12, false)], [], 13⟩] tmx (by kernel_rfl) ?_
              refine Dh.JH.cons ?_
              refine Dh.JB.pv rfl trivial (fun _ => PR.fieldAddr rfl tfl24_1) ?_
              refine Dh.JB.rd [.blk _ _ _] rfl trivial (by repeat (first | exact Take.nil | apply Take.cons (by repeat (first | exact Del.here | apply Del.there)))) (fun _ => PR.load1 rfl tsh22 Has.here (by rfl)) ?_
              refine Dh.JB.pv rfl trivial (fun _ => PR.move rfl) ?_
              refine Dh.JB.pv rfl trivial (fun _ => PR.fieldAddr rfl tfl24_1) ?_
              refine Dh.JB.rd [.blk _ _ _] rfl trivial (by repeat (first | exact Take.nil | apply Take.cons (by repeat (first | exact Del.here | apply Del.there)))) (fun _ => PR.load1 rfl tsh22 Has.here (by rfl)) ?_
              refine Dh.JB.pv rfl trivial (fun _ => PR.move rfl) ?_
              refine Dh.JB.pv rfl trivial (fun _ => PR.move rfl) ?_
              refine Dh.JB.pv rfl trivial (fun _ => PR.neg (-off) rfl (by rw [w64 (by omega) (by omega)]; omega)) ?_
              refine Dh.JB.pv rfl trivial (fun _ => PR.move rfl) ?_
              refine Dh.JB.pv rfl trivial (fun _ => PR.add _ rfl rfl (w64 (by omega) (by omega))) ?_
              refine Dh.JB.rd [.row _ _ _ _ _] rfl trivial (by repeat (first | exact Take.nil | apply Take.cons (by repeat (first | exact Del.here | apply Del.there)))) (fun _ => PR.idxO1 k rfl rfl tsl22 Del.here rfl hk) ?_
              refine Dh.JB.nil ?_
              refine Dh.JL.nil ?_
              refine Dh.JE.mk rfl (fun _ h => by cases h) (fun C16_11 => ?_)
              refine Jl.storeO rfl tsh3 rfl (by rfl) (by repeat (first | exact Swap.here | apply Swap.there)) (by simpa using hk) (rset _ _ _) ?_
              refine Jl.nil ?_
              refine Dh.Jq.segN (by repeat (first | exact Dh.FExt.refl | apply Dh.FExt.cons | apply Dh.FExt.app)) ?_ (by repeat (first | exact Dh.KeepL.nil | apply Dh.KeepL.anc (by rfl) | apply Dh.KeepL.keep (by repeat (first | exact Take.nil | apply Take.cons (by repeat (first | exact Del.here | apply Del.there))))))
              refine Dh.JH.cons ?_
              refine Dh.JB.rd [.row _ _ _ _ _] rfl trivial (by repeat (first | exact Take.nil | apply Take.cons (by repeat (first | exact Del.here | apply Del.there)))) (fun _ => PR.idxO1 k rfl rfl tsl22 Del.here rfl hk) ?_
              refine Dh.JB.nil ?_
              refine Dh.JL.nil ?_
              refine Dh.JE.mk rfl (fun _ h => by cases h) (fun C16_13 => ?_)
              refine Jl.storeO rfl tsh3 rfl (by rfl) (by repeat (first | exact Swap.here | apply Swap.there)) (by simpa using hk) (rset _ _ _) ?_
              refine Jl.nil ?_
              refine Dh.Jq.segN (by repeat (first | exact Dh.FExt.refl | apply Dh.FExt.cons | apply Dh.FExt.app)) ?_ (by repeat (first | exact Dh.KeepL.nil | apply Dh.KeepL.anc (by rfl) | apply Dh.KeepL.keep (by repeat (first | exact Take.nil | apply Take.cons (by repeat (first | exact Del.here | apply Del.there))))))
              refine Dh.JH.nil ?_
              refine Dh.JB.nil ?_
              refine Dh.JL.nil ?_
              refine Jq.thenN ?_
              refine Jc.seq ?_
              refine Jc.sealR (A := A92) (by repeat (first | exact Del.here | apply Del.there)) ?_
              refine Jc.sealR (A := A97) (by repeat (first | exact Del.here | apply Del.there)) ?_
              refine Jc.blkAs (b := b8) (cs := r.cs (A92, c92)) ((⟨r.k, r.l.set k (-off)⟩ : Rc).cs (A92, c92)) (by simp [Rc.cs]) (by repeat (first | exact Swap.here | apply Swap.there)) ?_
              refine Jc.blkAs (b := b9) (cs := r.cs (A97, c97)) ((⟨r.k, r.l.set k (1099511627776 + off)⟩ : Rc).cs (A97, c97)) (by simp [Rc.cs]) (by repeat (first | exact Swap.here | apply Swap.there)) ?_
              refine Jc.region ?_
              refine Jl.pv (PR.loadW rfl tsh24 (by repeat (first | exact Has.here | apply Has.there)) (by rfl)) ?_
              refine Jl.call (right_ct ⟨r.k, r.l.set k (-off)⟩ (A92, c92) m (by simp; omega)) en16 (by rfl) (by repeat (first | exact Take.nil | apply Take.cons (by repeat (first | exact Del.here | apply Del.there)))) (by repeat (first | exact trivial | refine And.intro (by repeat (first | exact Mem.here | apply Mem.there)) ?_)) ?_
              rintro ⟨⟩
              refine Jl.as (.bool false) (congrArg Value.bool hl1) ?_
              refine Jl.pv (PR.not rfl) ?_
              refine Jl.pv (PR.move rfl) ?_
              refine Jl.on rfl rfl ?_
              refine Jl.pv (PR.loadW rfl tsh24 (by repeat (first | exact Has.here | apply Has.there)) (by rfl)) ?_
              refine Jl.on rfl rfl ?_
              refine Jl.call (right_ct ⟨r.k, r.l.set k (1099511627776 + off)⟩ (A97, c97) m (by simp; omega)) en16 (by rfl) (by repeat (first | exact Take.nil | apply Take.cons (by repeat (first | exact Del.here | apply Del.there)))) (by repeat (first | exact trivial | refine And.intro (by repeat (first | exact Mem.here | apply Mem.there)) ?_)) ?_
              rintro ⟨⟩
              refine Jl.as (.bool false) (congrArg Value.bool hl2) ?_
              refine Jl.on rfl rfl ?_
              refine Jl.pv (PR.not rfl) ?_
              refine Jl.pv (PR.pickT rfl rfl) ?_
              refine Jl.pv (PR.move rfl) ?_
              refine Jl.on rfl rfl ?_
              refine Jl.pv (PR.loadW rfl tsh24 (by repeat (first | exact Has.here | apply Has.there)) (by rfl)) ?_
              refine Jl.on rfl rfl ?_
              refine Jl.pv (PR.loadW rfl tsh24 (by repeat (first | exact Has.here | apply Has.there)) (by rfl)) ?_
              refine Jl.on rfl rfl ?_
              refine Jl.buildSlice (by rfl) tsl25 tzr25_2 (by rfl) (by rfl) ?_
              intro b137
              refine Jl.seal (by repeat (first | exact Del.here | apply Del.there)) ?_
              refine Jl.rcNil ?_
              refine Jl.rcCons ((A92, c92), ⟨r.k, r.l.set k (-off)⟩) (by repeat (first | exact Mem.here | apply Mem.there)) (by repeat (first | exact Mem.here | apply Mem.there)) ?_
              refine Jl.rcCons (x, r) (by repeat (first | exact Mem.here | apply Mem.there)) (by repeat (first | exact Mem.here | apply Mem.there)) ?_
              refine Jl.on rfl rfl ?_
              refine Jl.call (all_ct (some ⟨b137, 0, none⟩) 2 [(x, r), ((A92, c92), ⟨r.k, r.l.set k (-off)⟩)] m (by simp) (by simp; omega)) en21 (by rfl) (by repeat (first | exact Take.nil | apply Take.cons (by repeat (first | exact Del.here | apply Del.there)))) (by repeat (first | exact trivial | refine And.intro (by repeat (first | exact Mem.here | apply Mem.there)) ?_)) ?_
              rintro ⟨⟩
              refine Jl.as (.bool false) (congrArg Value.bool (by simp [okAll, hl1])) ?_
              refine Jl.on rfl rfl ?_
              refine Jl.pv (PR.not rfl) ?_
              refine Jl.pv (PR.pickT rfl rfl) ?_
              refine Jl.pv (PR.move rfl) ?_
              refine Jl.on rfl rfl ?_
              refine Jl.pv (PR.loadW rfl tsh24 (by repeat (first | exact Has.here | apply Has.there)) (by rfl)) ?_
              refine Jl.on rfl rfl ?_
              refine Jl.pv (PR.loadW rfl tsh24 (by repeat (first | exact Has.here | apply Has.there)) (by rfl)) ?_
              refine Jl.on rfl rfl ?_
              refine Jl.buildSlice (by rfl) tsl25 tzr25_2 (by rfl) (by rfl) ?_
              intro b144
              refine Jl.seal (by repeat (first | exact Del.here | apply Del.there)) ?_
              refine Jl.rcCons (zs := []) (x, r) (by repeat (first | exact Mem.here | apply Mem.there)) (by repeat (first | exact Mem.here | apply Mem.there)) ?_
              refine Jl.rcCons (x, r) (by repeat (first | exact Mem.here | apply Mem.there)) (by repeat (first | exact Mem.here | apply Mem.there)) ?_
              refine Jl.on rfl rfl ?_
              refine Jl.call (all_ct (some ⟨b144, 0, none⟩) 2 [(x, r), (x, r)] m (by simp) (by simp; omega)) en21 (by rfl) (by repeat (first | exact Take.nil | apply Take.cons (by repeat (first | exact Del.here | apply Del.there)))) (by repeat (first | exact trivial | refine And.intro (by repeat (first | exact Mem.here | apply Mem.there)) ?_)) ?_
              rintro ⟨⟩
              refine Jl.as (.bool true) (congrArg Value.bool (by simp [okAll, hro])) ?_
              refine Jl.pv (PR.pickT rfl rfl) ?_
              refine Jl.pv (PR.move rfl) ?_
              refine Jl.on rfl rfl ?_
              refine Jl.call (rwakes_ct m bn) en10 (by rfl) (by repeat (first | exact Take.nil | apply Take.cons (by repeat (first | exact Del.here | apply Del.there)))) (by repeat (first | exact trivial | refine And.intro (by repeat (first | exact Mem.here | apply Mem.there)) ?_)) ?_
              rintro ⟨⟩
              refine Jl.pv (PR.pickT rfl rfl) ?_
              refine Jl.pv (PR.assign rfl) ?_
              refine Jl.nil ?_
              refine Jq.thenN ?_
              refine Jc.ret ?_
              exact Jq.fin () (.inl rfl) rfl (RetVs.tmp rfl RetVs.nil) rfl (by repeat (first | exact Take.nil | apply Take.cons (by repeat (first | exact Del.here | apply Del.there)))) (by repeat (first | exact trivial | refine And.intro (by repeat (first | exact Mem.here | apply Mem.there)) ?_))
def incL (l : List Int) (k : Nat) : List Int := (l.take k).map (fun n => IntKind.i64.wrap (n + 1)) ++ l.drop k
theorem incL_len (l : List Int) (k : Nat) : (incL l k).length = l.length := by simp [incL]; omega
theorem incL_at {l : List Int} {k : Nat} (h : k < l.length) : (i64s (incL l k))[k]? = some (.int .i64 l[k]) := by
  simp only [i64s, List.getElem?_map, incL]
  rw [List.getElem?_append_right (by simp; omega)]
  simp [Nat.min_eq_left (Nat.le_of_lt h), h]
theorem incL_next {l : List Int} {k : Nat} (h : k < l.length) : (i64s (incL l k)).set k (.int .i64 (IntKind.i64.wrap (l[k] + 1))) = i64s (incL l (k + 1)) := by
  rw [rset]
  congr 1
  unfold incL
  rw [List.set_append_right _ _ (by simp; omega), List.drop_eq_getElem_cons h, List.length_map, List.length_take, Nat.min_eq_left (Nat.le_of_lt h), Nat.sub_self, List.set_cons_zero, List.take_succ_eq_append_getElem h, List.map_append, List.append_assoc]
  rfl
theorem recordNames_ct (a b : UInt8) (A : Option Addr) (c : Nat) (l : List Int) (m : Nat → AdC) (bn : Nat) : Ct Tryd.prog 7 [.int .u8 a.toNat, .int .u8 b.toNat, .slice A l.length c] [] [.rd A (i64s l), .many m, .names bn] (fun _ : Unit => .bool true) (fun _ => []) (fun _ => []) := by
  by_cases ha : 1 ≤ a.toNat ∧ a.toNat < 17
  · skip
    refine Ct.of _ Tryd.func7 Tryd.ntmps7 rfl rfl (fun X W => ?_)
    refine Jc.seq ?_
    refine Jc.region ?_
    refine Jl.pv (PR.assign rfl) ?_
    refine Jl.nil ?_
    refine Jq.thenN ?_
    refine Jc.seq ?_
    refine Jc.seq ?_
    refine Jc.region ?_
    refine Jl.pv (PR.move rfl) ?_
    refine Jl.pv (PR.len rfl tsl22) ?_
    refine Jl.pv (PR.gtr _ rfl rfl rfl) ?_
    refine Jl.nil ?_
    refine Jq.thenN ?_
    refine Jc.cond rfl (fun hlen => ?_) (fun hlen => ?_)
    · try replace hlen := of_decide_eq_true hlen
      refine Jc.seq ?_
      refine Jc.region ?_
      refine Jl.call (rwakes_ct m bn) en10 (by rfl) (by repeat (first | exact Take.nil | apply Take.cons (by repeat (first | exact Del.here | apply Del.there)))) (by repeat (first | exact trivial | refine And.intro (by repeat (first | exact Mem.here | apply Mem.there)) ?_)) ?_
      rintro ⟨⟩
      refine Jl.pv (PR.assign rfl) ?_
      refine Jl.nil ?_
      refine Jq.thenN ?_
      refine Jc.ret ?_
      refine Jq.thenR ?_
      exact Jq.fin () (.inl rfl) rfl (RetVs.tmp rfl RetVs.nil) rfl (by repeat (first | exact Take.nil | apply Take.cons (by repeat (first | exact Del.here | apply Del.there)))) (by repeat (first | exact trivial | refine And.intro (by repeat (first | exact Mem.here | apply Mem.there)) ?_))
    · try replace hlen := of_decide_eq_false hlen
      refine Jc.skip ?_
      refine Jq.thenN ?_
      refine Jc.seq ?_
      refine Jc.region ?_
      refine Jl.pv (PR.move rfl) ?_
      refine Jl.pv (PR.geq true rfl rfl (by simp; omega)) ?_
      refine Jl.pv (PR.move rfl) ?_
      refine Jl.on rfl rfl ?_
      refine Jl.pv (PR.move rfl) ?_
      refine Jl.on rfl rfl ?_
      refine Jl.pv (PR.lss true rfl rfl (by simp; omega)) ?_
      refine Jl.pv (PR.pickT rfl rfl) ?_
      refine Jl.pv (PR.assign rfl) ?_
      refine Jl.nil ?_
      refine Jq.thenN ?_
      refine Jc.seq ?_
      refine Jc.seq ?_
      refine Jc.region ?_
      refine Jl.pv (PR.move rfl) ?_
      refine Jl.call (name_ct a bn) en18 (by rfl) (by repeat (first | exact Take.nil | apply Take.cons (by repeat (first | exact Del.here | apply Del.there)))) (by repeat (first | exact trivial | refine And.intro (by repeat (first | exact Mem.here | apply Mem.there)) ?_)) ?_
      rintro ⟨⟩
      refine Jl.pv (PR.sneq true rfl rfl (by simp [name_pos ha.1 ha.2])) ?_
      refine Jl.pv (PR.move rfl) ?_
      refine Jl.pv (PR.bneq false Tryd.underlying4 rfl rfl rfl) ?_
      refine Jl.pv (PR.move rfl) ?_
      refine Jl.on rfl rfl ?_
      refine Jl.pv (PR.move rfl) ?_
      refine Jl.on rfl rfl ?_
      refine Jl.pv (PR.move rfl) ?_
      refine Jl.on rfl rfl ?_
      refine Jl.pv (PR.move rfl) ?_
      refine Jl.on rfl rfl ?_
      refine Jl.call (name_ct a bn) en18 (by rfl) (by repeat (first | exact Take.nil | apply Take.cons (by repeat (first | exact Del.here | apply Del.there)))) (by repeat (first | exact trivial | refine And.intro (by repeat (first | exact Mem.here | apply Mem.there)) ?_)) ?_
      rintro ⟨⟩
      refine Jl.on rfl rfl ?_
      refine Jl.pv (PR.move rfl) ?_
      refine Jl.on rfl rfl ?_
      refine Jl.call (name_ct b bn) en18 (by rfl) (by repeat (first | exact Take.nil | apply Take.cons (by repeat (first | exact Del.here | apply Del.there)))) (by repeat (first | exact trivial | refine And.intro (by repeat (first | exact Mem.here | apply Mem.there)) ?_)) ?_
      rintro ⟨⟩
      refine Jl.on rfl rfl ?_
      refine Jl.pv (PR.seql (decide (a = b)) rfl rfl (by rw [decide_eq_decide, name_inj ha]; exact UInt8.toNat_inj)) ?_
      refine Jl.on rfl rfl ?_
      refine Jl.pv (PR.move rfl) ?_
      refine Jl.on rfl rfl ?_
      refine Jl.pv (PR.move rfl) ?_
      refine Jl.on rfl rfl ?_
      refine Jl.pv (PR.eql (decide (a = b)) rfl rfl (by rw [decide_eq_decide]; exact u8_eq)) ?_
      refine Jl.on rfl rfl ?_
      refine Jl.pv (PR.bneq false Tryd.underlying4 rfl rfl (by simp)) ?_
      refine Jl.on rfl rfl ?_
      refine Jl.pv (PR.pickT rfl rfl) ?_
      refine Jl.pv (PR.pickF rfl rfl) ?_
      refine Jl.nil ?_
      refine Jq.thenN ?_
      refine Jc.condF rfl ?_
      refine Jc.skip ?_
      refine Jq.thenN ?_
      refine Jc.seq ?_
      refine Jc.region ?_
      refine Jl.pv (PR.move rfl) ?_
      refine Jl.pv (PR.move rfl) ?_
      refine Jl.call (of_ct a A c l (by omega)) en23 (by rfl) (by repeat (first | exact Take.nil | apply Take.cons (by repeat (first | exact Del.here | apply Del.there)))) (by repeat (first | exact trivial | refine And.intro (by repeat (first | exact Mem.here | apply Mem.there)) ?_)) ?_
      rintro ⟨A41, c41⟩
      refine Jl.alloc tze24 ?_
      intro b8
      refine Jl.storeW rfl tsh24 rfl (by rfl) (by first | exact rc_one _ _ | simp [Value.oneCell']) (by repeat (first | exact Swap.here | apply Swap.there)) (by rfl) ?_
      refine Jl.nil ?_
      refine Jq.thenN ?_
      refine Jc.seq ?_
      refine Jc.seq ?_
      refine Jc.region ?_
      refine Jl.pv (PR.fieldAddr rfl tfl24_0) ?_
      refine Jl.pv (PR.load1 rfl tsh5 (by repeat (first | exact Has.here | apply Has.there)) (by rfl)) ?_
      refine Jl.pv (PR.move rfl) ?_
      refine Jl.pv (PR.neq false rfl rfl (by simp)) ?_
      refine Jl.pv (PR.move rfl) ?_
      refine Jl.on rfl rfl ?_
      refine Jl.pv (PR.fieldAddr rfl tfl24_1) ?_
      refine Jl.on rfl rfl ?_
      refine Jl.pv (PR.load1 rfl tsh22 (by repeat (first | exact Has.here | apply Has.there)) (by rfl)) ?_
      refine Jl.on rfl rfl ?_
      refine Jl.pv (PR.len rfl tsl22) ?_
      refine Jl.on rfl rfl ?_
      refine Jl.pv (PR.move rfl) ?_
      refine Jl.on rfl rfl ?_
      refine Jl.pv (PR.len rfl tsl22) ?_
      refine Jl.on rfl rfl ?_
      refine Jl.pv (PR.neq false rfl rfl (by simp)) ?_
      refine Jl.pv (PR.pickF rfl rfl) ?_
      refine Jl.nil ?_
      refine Jq.thenN ?_
      refine Jc.condF rfl ?_
      refine Jc.skip ?_
      refine Jq.thenN ?_
      refine Jc.seq ?_
      refine Jc.seq ?_
      refine Jc.region ?_
      refine Jl.pv (PR.assign rfl) ?_
      refine Jl.nil ?_
      refine Jq.thenN ?_
      refine Jc.block ?_
      refine Jc.loop (σ := { k : Nat // k ≤ l.length }) (fun s => [(9, .int .i64 (s.1 : Int)), (8, .pointer (some ⟨b8, 0, none⟩)), (2, .slice A l.length c), (0, .int .u8 a.toNat)]) (fun s => [.blk b8 24 ((⟨a, l⟩ : Rc).cs (A41, c41)), .row 3 1 (.slice A41 l.length c41) l.length (i64s (incL l s.1))]) (fun _ => [.rd A (i64s l), .many m, .names bn]) (fun s => l.length - s.1) ⟨0, Nat.zero_le _⟩ (by repeat (first | exact trivial | refine And.intro rfl ?_)) rfl (by repeat (first | exact trivial | refine And.intro (by repeat (first | exact Mem.here | apply Mem.there)) ?_)) ?_
      rintro ⟨k, hk⟩
      show Jc _ _ _ _ _ _ [(9, Value.int .i64 (k : Int)), (8, .pointer (some ⟨b8, 0, none⟩)), (2, .slice A l.length c), (0, .int .u8 a.toNat)] [.blk b8 24 ((⟨a, l⟩ : Rc).cs (A41, c41)), .row 3 1 (.slice A41 l.length c41) l.length (i64s (incL l k))] [.rd A (i64s l), .many m, .names bn]
      refine Jc.seq ?_
      refine Jc.seq ?_
      refine Jc.region ?_
      refine Jl.pv (PR.move rfl) ?_
      refine Jl.pv (PR.move rfl) ?_
      refine Jl.pv (PR.len rfl tsl22) ?_
      refine Jl.pv (PR.lss _ rfl rfl rfl) ?_
      refine Jl.nil ?_
      refine Jq.thenN ?_
      refine Jc.cond rfl (fun hlt => ?_) (fun hlt => ?_)
      · try replace hlt := of_decide_eq_true hlt
        have hlt' : k < l.length := by omega
        refine Jc.skip ?_
        refine Jq.thenN ?_
        refine Jc.seq ?_
        refine Jc.block ?_
        refine Jc.seq ?_
        refine Jc.seq ?_
        refine Jc.drawn [0, 1, 0, 7, 15, 0, 0, 96, 224, 511] ([(0, false), (1, false), (2, false), (3, false), (4, false), (5, false), (6, false), (7, false), (8, false), (9, false)], []) [] tmx (by kernel_rfl) ?_
        refine Dh.JH.nil ?_
        refine Dh.JB.pv rfl trivial (fun _ => PR.fieldAddr rfl tfl24_1) ?_
        refine Dh.JB.rd [.blk _ _ _] rfl trivial (by repeat (first | exact Take.nil | apply Take.cons (by repeat (first | exact Del.here | apply Del.there)))) (fun _ => PR.load1 rfl tsh22 Has.here (by rfl)) ?_
        refine Dh.JB.pv rfl trivial (fun _ => PR.move rfl) ?_
        refine Dh.JB.rd [.row _ _ _ _ _] rfl trivial (by repeat (first | exact Take.nil | apply Take.cons (by repeat (first | exact Del.here | apply Del.there)))) (fun _ => PR.idxO1 k rfl rfl tsl22 Del.here rfl hlt') ?_
        refine Dh.JB.rd [.row _ _ _ _ _] rfl trivial (by repeat (first | exact Take.nil | apply Take.cons (by repeat (first | exact Del.here | apply Del.there)))) (fun _ => PR.loadO rfl tsh3 Del.here (incL_at hlt')) ?_
        refine Dh.JB.pv rfl trivial (fun _ => PR.move rfl) ?_
        refine Dh.JB.pv rfl trivial (fun _ => PR.move rfl) ?_
        refine Dh.JB.pv rfl trivial (fun _ => PR.idx1 k rfl rfl tsl22 (by repeat (first | exact Mem.here | apply Mem.there)) (by simp) rfl hlt') ?_
        refine Dh.JB.pv rfl trivial (fun _ => PR.loadR rfl tsh3 (by repeat (first | exact Mem.here | apply Mem.there)) (getm hlt')) ?_
        refine Dh.JB.pv rfl trivial (fun _ => PR.neq false rfl rfl (by simp)) ?_
        refine Dh.JB.nil ?_
        refine Dh.JL.nil ?_
        refine Jq.thenN ?_
        refine Jc.condF rfl ?_
        refine Jc.skip ?_
        refine Jq.thenN ?_
        refine Jc.region ?_
        refine Jl.pv (PR.fieldAddr rfl tfl24_1) ?_
        refine Jl.pv (PR.load1 rfl tsh22 (by repeat (first | exact Has.here | apply Has.there)) (by rfl)) ?_
        refine Jl.pv (PR.move rfl) ?_
        refine Jl.pv (PR.idxO1 k rfl rfl tsl22 (by repeat (first | exact Del.here | apply Del.there)) rfl hlt') ?_
        refine Jl.pv (PR.loadO rfl tsh3 (by repeat (first | exact Del.here | apply Del.there)) (incL_at hlt')) ?_
        refine Jl.pv (PR.add (IntKind.i64.wrap (l[k] + 1)) rfl rfl rfl) ?_
        refine Jl.pv (PR.idxO1 k rfl rfl tsl22 (by repeat (first | exact Del.here | apply Del.there)) rfl hlt') ?_
        refine Jl.storeO rfl tsh3 rfl (by rfl) (by repeat (first | exact Swap.here | apply Swap.there)) (by simp [incL]; omega) (incL_next hlt') ?_
        refine Jl.nil ?_
        refine Jq.blkN ?_
        refine Jq.thenN ?_
        refine Jc.region ?_
        refine Jl.pv (PR.move rfl) ?_
        refine Jl.pv (PR.add ((k + 1 : Nat) : Int) rfl rfl (by rw [w64 (by omega) (by omega)]; rfl)) ?_
        refine Jl.pv (PR.assign rfl) ?_
        refine Jl.nil ?_
        refine Jq.again ⟨k + 1, hlt'⟩ (by simp only; omega) (by repeat (first | exact trivial | refine And.intro rfl ?_)) rfl (by repeat (first | exact trivial | refine And.intro (by repeat (first | exact Mem.here | apply Mem.there)) ?_))
      · try replace hlt := of_decide_eq_false hlt
        refine Jc.exit ?_
        refine Jq.thenX ?_
        refine Jq.thenX ?_
        refine Jq.blkX ?_
        refine Jq.thenN ?_
        refine Jc.seq ?_
        refine Jc.region ?_
        refine Jl.pv (PR.move rfl) ?_
        refine Jl.pv (PR.move rfl) ?_
        refine Jl.call (of_ct a A c l (by omega)) en23 (by rfl) (by repeat (first | exact Take.nil | apply Take.cons (by repeat (first | exact Del.here | apply Del.there)))) (by repeat (first | exact trivial | refine And.intro (by repeat (first | exact Mem.here | apply Mem.there)) ?_)) ?_
        rintro ⟨A79, c79⟩
        refine Jl.sealR (by repeat (first | exact Del.here | apply Del.there)) ?_
        refine Jl.pv (PR.move rfl) ?_
        refine Jl.pv (PR.move rfl) ?_
        refine Jl.pv (PR.build (by rfl) tze24 tpl24_0_1 (by rfl)) ?_
        refine Jl.call (rsameR_eq ⟨a, l⟩ (A79, c79) (A, c) (by simp only; omega)) en15 (by rfl) (by repeat (first | exact Take.nil | apply Take.cons (by repeat (first | exact Del.here | apply Del.there)))) (by repeat (first | exact trivial | refine And.intro (by repeat (first | exact Mem.here | apply Mem.there)) ?_)) ?_
        rintro ⟨⟩
        refine Jl.as (.bool true) (congrArg Value.bool rfl) ?_
        refine Jl.pv (PR.move rfl) ?_
        refine Jl.on rfl rfl ?_
        refine Jl.call (rwakes_ct m bn) en10 (by rfl) (by repeat (first | exact Take.nil | apply Take.cons (by repeat (first | exact Del.here | apply Del.there)))) (by repeat (first | exact trivial | refine And.intro (by repeat (first | exact Mem.here | apply Mem.there)) ?_)) ?_
        rintro ⟨⟩
        refine Jl.pv (PR.pickT rfl rfl) ?_
        refine Jl.pv (PR.assign rfl) ?_
        refine Jl.nil ?_
        refine Jq.thenN ?_
        refine Jc.ret ?_
        exact Jq.fin () (.inl rfl) rfl (RetVs.tmp rfl RetVs.nil) rfl (by repeat (first | exact Take.nil | apply Take.cons (by repeat (first | exact Del.here | apply Del.there)))) (by repeat (first | exact trivial | refine And.intro (by repeat (first | exact Mem.here | apply Mem.there)) ?_))
  · by_cases h0 : 1 ≤ a.toNat
    · skip
      refine Ct.of _ Tryd.func7 Tryd.ntmps7 rfl rfl (fun X W => ?_)
      refine Jc.seq ?_
      refine Jc.region ?_
      refine Jl.pv (PR.assign rfl) ?_
      refine Jl.nil ?_
      refine Jq.thenN ?_
      refine Jc.seq ?_
      refine Jc.seq ?_
      refine Jc.region ?_
      refine Jl.pv (PR.move rfl) ?_
      refine Jl.pv (PR.len rfl tsl22) ?_
      refine Jl.pv (PR.gtr _ rfl rfl rfl) ?_
      refine Jl.nil ?_
      refine Jq.thenN ?_
      refine Jc.cond rfl (fun hlen => ?_) (fun hlen => ?_)
      · try replace hlen := of_decide_eq_true hlen
        refine Jc.seq ?_
        refine Jc.region ?_
        refine Jl.call (rwakes_ct m bn) en10 (by rfl) (by repeat (first | exact Take.nil | apply Take.cons (by repeat (first | exact Del.here | apply Del.there)))) (by repeat (first | exact trivial | refine And.intro (by repeat (first | exact Mem.here | apply Mem.there)) ?_)) ?_
        rintro ⟨⟩
        refine Jl.pv (PR.assign rfl) ?_
        refine Jl.nil ?_
        refine Jq.thenN ?_
        refine Jc.ret ?_
        refine Jq.thenR ?_
        exact Jq.fin () (.inl rfl) rfl (RetVs.tmp rfl RetVs.nil) rfl (by repeat (first | exact Take.nil | apply Take.cons (by repeat (first | exact Del.here | apply Del.there)))) (by repeat (first | exact trivial | refine And.intro (by repeat (first | exact Mem.here | apply Mem.there)) ?_))
      · try replace hlen := of_decide_eq_false hlen
        refine Jc.skip ?_
        refine Jq.thenN ?_
        refine Jc.seq ?_
        refine Jc.region ?_
        refine Jl.pv (PR.move rfl) ?_
        refine Jl.pv (PR.geq true rfl rfl (by simp; omega)) ?_
        refine Jl.pv (PR.move rfl) ?_
        refine Jl.on rfl rfl ?_
        refine Jl.pv (PR.move rfl) ?_
        refine Jl.on rfl rfl ?_
        refine Jl.pv (PR.lss false rfl rfl (by simp; omega)) ?_
        refine Jl.pv (PR.pickT rfl rfl) ?_
        refine Jl.pv (PR.assign rfl) ?_
        refine Jl.nil ?_
        refine Jq.thenN ?_
        refine Jc.seq ?_
        refine Jc.seq ?_
        refine Jc.region ?_
        refine Jl.pv (PR.move rfl) ?_
        refine Jl.call (name_ct a bn) en18 (by rfl) (by repeat (first | exact Take.nil | apply Take.cons (by repeat (first | exact Del.here | apply Del.there)))) (by repeat (first | exact trivial | refine And.intro (by repeat (first | exact Mem.here | apply Mem.there)) ?_)) ?_
        rintro ⟨⟩
        refine Jl.pv (PR.sneq false rfl rfl (by simp [name_none ha])) ?_
        refine Jl.pv (PR.move rfl) ?_
        refine Jl.pv (PR.bneq false Tryd.underlying4 rfl rfl rfl) ?_
        refine Jl.pv (PR.move rfl) ?_
        refine Jl.on rfl rfl ?_
        refine Jl.pv (PR.move rfl) ?_
        refine Jl.on rfl rfl ?_
        refine Jl.pv (PR.move rfl) ?_
        refine Jl.offS rfl rfl rfl ?_
        refine Jl.offS rfl rfl rfl ?_
        refine Jl.offS rfl rfl rfl ?_
        refine Jl.offS rfl rfl rfl ?_
        refine Jl.offS rfl rfl rfl ?_
        refine Jl.offS rfl rfl rfl ?_
        refine Jl.offS rfl rfl rfl ?_
        refine Jl.offS rfl rfl rfl ?_
        refine Jl.offS rfl rfl rfl ?_
        refine Jl.on rfl rfl ?_
        refine Jl.pv (PR.pickF rfl rfl) ?_
        refine Jl.pv (PR.pickF rfl rfl) ?_
        refine Jl.nil ?_
        refine Jq.thenN ?_
        refine Jc.condF rfl ?_
        refine Jc.skip ?_
        refine Jq.thenN ?_
        refine Jc.seq ?_
        refine Jc.region ?_
        refine Jl.pv (PR.move rfl) ?_
        refine Jl.pv (PR.move rfl) ?_
        refine Jl.call (of_ct a A c l (by omega)) en23 (by rfl) (by repeat (first | exact Take.nil | apply Take.cons (by repeat (first | exact Del.here | apply Del.there)))) (by repeat (first | exact trivial | refine And.intro (by repeat (first | exact Mem.here | apply Mem.there)) ?_)) ?_
        rintro ⟨A41, c41⟩
        refine Jl.alloc tze24 ?_
        intro b8
        refine Jl.storeW rfl tsh24 rfl (by rfl) (by first | exact rc_one _ _ | simp [Value.oneCell']) (by repeat (first | exact Swap.here | apply Swap.there)) (by rfl) ?_
        refine Jl.nil ?_
        refine Jq.thenN ?_
        refine Jc.seq ?_
        refine Jc.seq ?_
        refine Jc.region ?_
        refine Jl.pv (PR.fieldAddr rfl tfl24_0) ?_
        refine Jl.pv (PR.load1 rfl tsh5 (by repeat (first | exact Has.here | apply Has.there)) (by rfl)) ?_
        refine Jl.pv (PR.move rfl) ?_
        refine Jl.pv (PR.neq false rfl rfl (by simp)) ?_
        refine Jl.pv (PR.move rfl) ?_
        refine Jl.on rfl rfl ?_
        refine Jl.pv (PR.fieldAddr rfl tfl24_1) ?_
        refine Jl.on rfl rfl ?_
        refine Jl.pv (PR.load1 rfl tsh22 (by repeat (first | exact Has.here | apply Has.there)) (by rfl)) ?_
        refine Jl.on rfl rfl ?_
        refine Jl.pv (PR.len rfl tsl22) ?_
        refine Jl.on rfl rfl ?_
        refine Jl.pv (PR.move rfl) ?_
        refine Jl.on rfl rfl ?_
        refine Jl.pv (PR.len rfl tsl22) ?_
        refine Jl.on rfl rfl ?_
        refine Jl.pv (PR.neq false rfl rfl (by simp)) ?_
        refine Jl.pv (PR.pickF rfl rfl) ?_
        refine Jl.nil ?_
        refine Jq.thenN ?_
        refine Jc.condF rfl ?_
        refine Jc.skip ?_
        refine Jq.thenN ?_
        refine Jc.seq ?_
        refine Jc.seq ?_
        refine Jc.region ?_
        refine Jl.pv (PR.assign rfl) ?_
        refine Jl.nil ?_
        refine Jq.thenN ?_
        refine Jc.block ?_
        refine Jc.loop (σ := { k : Nat // k ≤ l.length }) (fun s => [(9, .int .i64 (s.1 : Int)), (8, .pointer (some ⟨b8, 0, none⟩)), (2, .slice A l.length c), (0, .int .u8 a.toNat)]) (fun s => [.blk b8 24 ((⟨a, l⟩ : Rc).cs (A41, c41)), .row 3 1 (.slice A41 l.length c41) l.length (i64s (incL l s.1))]) (fun _ => [.rd A (i64s l), .many m, .names bn]) (fun s => l.length - s.1) ⟨0, Nat.zero_le _⟩ (by repeat (first | exact trivial | refine And.intro rfl ?_)) rfl (by repeat (first | exact trivial | refine And.intro (by repeat (first | exact Mem.here | apply Mem.there)) ?_)) ?_
        rintro ⟨k, hk⟩
        show Jc _ _ _ _ _ _ [(9, Value.int .i64 (k : Int)), (8, .pointer (some ⟨b8, 0, none⟩)), (2, .slice A l.length c), (0, .int .u8 a.toNat)] [.blk b8 24 ((⟨a, l⟩ : Rc).cs (A41, c41)), .row 3 1 (.slice A41 l.length c41) l.length (i64s (incL l k))] [.rd A (i64s l), .many m, .names bn]
        refine Jc.seq ?_
        refine Jc.seq ?_
        refine Jc.region ?_
        refine Jl.pv (PR.move rfl) ?_
        refine Jl.pv (PR.move rfl) ?_
        refine Jl.pv (PR.len rfl tsl22) ?_
        refine Jl.pv (PR.lss _ rfl rfl rfl) ?_
        refine Jl.nil ?_
        refine Jq.thenN ?_
        refine Jc.cond rfl (fun hlt => ?_) (fun hlt => ?_)
        · try replace hlt := of_decide_eq_true hlt
          have hlt' : k < l.length := by omega
          refine Jc.skip ?_
          refine Jq.thenN ?_
          refine Jc.seq ?_
          refine Jc.block ?_
          refine Jc.seq ?_
          refine Jc.seq ?_
          refine Jc.drawn [0, 1, 0, 7, 15, 0, 0, 96, 224, 511] ([(0, false), (1, false), (2, false), (3, false), (4, false), (5, false), (6, false), (7, false), (8, false), (9, false)], []) [] tmx (by kernel_rfl) ?_
          refine Dh.JH.nil ?_
          refine Dh.JB.pv rfl trivial (fun _ => PR.fieldAddr rfl tfl24_1) ?_
          refine Dh.JB.rd [.blk _ _ _] rfl trivial (by repeat (first | exact Take.nil | apply Take.cons (by repeat (first | exact Del.here | apply Del.there)))) (fun _ => PR.load1 rfl tsh22 Has.here (by rfl)) ?_
          refine Dh.JB.pv rfl trivial (fun _ => PR.move rfl) ?_
          refine Dh.JB.rd [.row _ _ _ _ _] rfl trivial (by repeat (first | exact Take.nil | apply Take.cons (by repeat (first | exact Del.here | apply Del.there)))) (fun _ => PR.idxO1 k rfl rfl tsl22 Del.here rfl hlt') ?_
          refine Dh.JB.rd [.row _ _ _ _ _] rfl trivial (by repeat (first | exact Take.nil | apply Take.cons (by repeat (first | exact Del.here | apply Del.there)))) (fun _ => PR.loadO rfl tsh3 Del.here (incL_at hlt')) ?_
          refine Dh.JB.pv rfl trivial (fun _ => PR.move rfl) ?_
          refine Dh.JB.pv rfl trivial (fun _ => PR.move rfl) ?_
          refine Dh.JB.pv rfl trivial (fun _ => PR.idx1 k rfl rfl tsl22 (by repeat (first | exact Mem.here | apply Mem.there)) (by simp) rfl hlt') ?_
          refine Dh.JB.pv rfl trivial (fun _ => PR.loadR rfl tsh3 (by repeat (first | exact Mem.here | apply Mem.there)) (getm hlt')) ?_
          refine Dh.JB.pv rfl trivial (fun _ => PR.neq false rfl rfl (by simp)) ?_
          refine Dh.JB.nil ?_
          refine Dh.JL.nil ?_
          refine Jq.thenN ?_
          refine Jc.condF rfl ?_
          refine Jc.skip ?_
          refine Jq.thenN ?_
          refine Jc.region ?_
          refine Jl.pv (PR.fieldAddr rfl tfl24_1) ?_
          refine Jl.pv (PR.load1 rfl tsh22 (by repeat (first | exact Has.here | apply Has.there)) (by rfl)) ?_
          refine Jl.pv (PR.move rfl) ?_
          refine Jl.pv (PR.idxO1 k rfl rfl tsl22 (by repeat (first | exact Del.here | apply Del.there)) rfl hlt') ?_
          refine Jl.pv (PR.loadO rfl tsh3 (by repeat (first | exact Del.here | apply Del.there)) (incL_at hlt')) ?_
          refine Jl.pv (PR.add (IntKind.i64.wrap (l[k] + 1)) rfl rfl rfl) ?_
          refine Jl.pv (PR.idxO1 k rfl rfl tsl22 (by repeat (first | exact Del.here | apply Del.there)) rfl hlt') ?_
          refine Jl.storeO rfl tsh3 rfl (by rfl) (by repeat (first | exact Swap.here | apply Swap.there)) (by simp [incL]; omega) (incL_next hlt') ?_
          refine Jl.nil ?_
          refine Jq.blkN ?_
          refine Jq.thenN ?_
          refine Jc.region ?_
          refine Jl.pv (PR.move rfl) ?_
          refine Jl.pv (PR.add ((k + 1 : Nat) : Int) rfl rfl (by rw [w64 (by omega) (by omega)]; rfl)) ?_
          refine Jl.pv (PR.assign rfl) ?_
          refine Jl.nil ?_
          refine Jq.again ⟨k + 1, hlt'⟩ (by simp only; omega) (by repeat (first | exact trivial | refine And.intro rfl ?_)) rfl (by repeat (first | exact trivial | refine And.intro (by repeat (first | exact Mem.here | apply Mem.there)) ?_))
        · try replace hlt := of_decide_eq_false hlt
          refine Jc.exit ?_
          refine Jq.thenX ?_
          refine Jq.thenX ?_
          refine Jq.blkX ?_
          refine Jq.thenN ?_
          refine Jc.seq ?_
          refine Jc.region ?_
          refine Jl.pv (PR.move rfl) ?_
          refine Jl.pv (PR.move rfl) ?_
          refine Jl.call (of_ct a A c l (by omega)) en23 (by rfl) (by repeat (first | exact Take.nil | apply Take.cons (by repeat (first | exact Del.here | apply Del.there)))) (by repeat (first | exact trivial | refine And.intro (by repeat (first | exact Mem.here | apply Mem.there)) ?_)) ?_
          rintro ⟨A79, c79⟩
          refine Jl.sealR (by repeat (first | exact Del.here | apply Del.there)) ?_
          refine Jl.pv (PR.move rfl) ?_
          refine Jl.pv (PR.move rfl) ?_
          refine Jl.pv (PR.build (by rfl) tze24 tpl24_0_1 (by rfl)) ?_
          refine Jl.call (rsameR_eq ⟨a, l⟩ (A79, c79) (A, c) (by simp only; omega)) en15 (by rfl) (by repeat (first | exact Take.nil | apply Take.cons (by repeat (first | exact Del.here | apply Del.there)))) (by repeat (first | exact trivial | refine And.intro (by repeat (first | exact Mem.here | apply Mem.there)) ?_)) ?_
          rintro ⟨⟩
          refine Jl.as (.bool true) (congrArg Value.bool rfl) ?_
          refine Jl.pv (PR.move rfl) ?_
          refine Jl.on rfl rfl ?_
          refine Jl.call (rwakes_ct m bn) en10 (by rfl) (by repeat (first | exact Take.nil | apply Take.cons (by repeat (first | exact Del.here | apply Del.there)))) (by repeat (first | exact trivial | refine And.intro (by repeat (first | exact Mem.here | apply Mem.there)) ?_)) ?_
          rintro ⟨⟩
          refine Jl.pv (PR.pickT rfl rfl) ?_
          refine Jl.pv (PR.assign rfl) ?_
          refine Jl.nil ?_
          refine Jq.thenN ?_
          refine Jc.ret ?_
          exact Jq.fin () (.inl rfl) rfl (RetVs.tmp rfl RetVs.nil) rfl (by repeat (first | exact Take.nil | apply Take.cons (by repeat (first | exact Del.here | apply Del.there)))) (by repeat (first | exact trivial | refine And.intro (by repeat (first | exact Mem.here | apply Mem.there)) ?_))
    · skip
      refine Ct.of _ Tryd.func7 Tryd.ntmps7 rfl rfl (fun X W => ?_)
      refine Jc.seq ?_
      refine Jc.region ?_
      refine Jl.pv (PR.assign rfl) ?_
      refine Jl.nil ?_
      refine Jq.thenN ?_
      refine Jc.seq ?_
      refine Jc.seq ?_
      refine Jc.region ?_
      refine Jl.pv (PR.move rfl) ?_
      refine Jl.pv (PR.len rfl tsl22) ?_
      refine Jl.pv (PR.gtr _ rfl rfl rfl) ?_
      refine Jl.nil ?_
      refine Jq.thenN ?_
      refine Jc.cond rfl (fun hlen => ?_) (fun hlen => ?_)
      · try replace hlen := of_decide_eq_true hlen
        refine Jc.seq ?_
        refine Jc.region ?_
        refine Jl.call (rwakes_ct m bn) en10 (by rfl) (by repeat (first | exact Take.nil | apply Take.cons (by repeat (first | exact Del.here | apply Del.there)))) (by repeat (first | exact trivial | refine And.intro (by repeat (first | exact Mem.here | apply Mem.there)) ?_)) ?_
        rintro ⟨⟩
        refine Jl.pv (PR.assign rfl) ?_
        refine Jl.nil ?_
        refine Jq.thenN ?_
        refine Jc.ret ?_
        refine Jq.thenR ?_
        exact Jq.fin () (.inl rfl) rfl (RetVs.tmp rfl RetVs.nil) rfl (by repeat (first | exact Take.nil | apply Take.cons (by repeat (first | exact Del.here | apply Del.there)))) (by repeat (first | exact trivial | refine And.intro (by repeat (first | exact Mem.here | apply Mem.there)) ?_))
      · try replace hlen := of_decide_eq_false hlen
        refine Jc.skip ?_
        refine Jq.thenN ?_
        refine Jc.seq ?_
        refine Jc.region ?_
        refine Jl.pv (PR.move rfl) ?_
        refine Jl.pv (PR.geq false rfl rfl (by simp; omega)) ?_
        refine Jl.pv (PR.move rfl) ?_
        refine Jl.offS rfl rfl rfl ?_
        refine Jl.offS rfl rfl rfl ?_
        refine Jl.pv (PR.pickF rfl rfl) ?_
        refine Jl.pv (PR.assign rfl) ?_
        refine Jl.nil ?_
        refine Jq.thenN ?_
        refine Jc.seq ?_
        refine Jc.seq ?_
        refine Jc.region ?_
        refine Jl.pv (PR.move rfl) ?_
        refine Jl.call (name_ct a bn) en18 (by rfl) (by repeat (first | exact Take.nil | apply Take.cons (by repeat (first | exact Del.here | apply Del.there)))) (by repeat (first | exact trivial | refine And.intro (by repeat (first | exact Mem.here | apply Mem.there)) ?_)) ?_
        rintro ⟨⟩
        refine Jl.pv (PR.sneq false rfl rfl (by simp [name_none ha])) ?_
        refine Jl.pv (PR.move rfl) ?_
        refine Jl.pv (PR.bneq false Tryd.underlying4 rfl rfl rfl) ?_
        refine Jl.pv (PR.move rfl) ?_
        refine Jl.on rfl rfl ?_
        refine Jl.pv (PR.move rfl) ?_
        refine Jl.on rfl rfl ?_
        refine Jl.pv (PR.move rfl) ?_
        refine Jl.offS rfl rfl rfl ?_
        refine Jl.offS rfl rfl rfl ?_
        refine Jl.offS rfl rfl rfl ?_
        refine Jl.offS rfl rfl rfl ?_
        refine Jl.offS rfl rfl rfl ?_
        refine Jl.offS rfl rfl rfl ?_
        refine Jl.offS rfl rfl rfl ?_
        refine Jl.offS rfl rfl rfl ?_
        refine Jl.offS rfl rfl rfl ?_
        refine Jl.on rfl rfl ?_
        refine Jl.pv (PR.pickF rfl rfl) ?_
        refine Jl.pv (PR.pickF rfl rfl) ?_
        refine Jl.nil ?_
        refine Jq.thenN ?_
        refine Jc.condF rfl ?_
        refine Jc.skip ?_
        refine Jq.thenN ?_
        refine Jc.seq ?_
        refine Jc.region ?_
        refine Jl.pv (PR.move rfl) ?_
        refine Jl.pv (PR.move rfl) ?_
        refine Jl.call (of_ct a A c l (by omega)) en23 (by rfl) (by repeat (first | exact Take.nil | apply Take.cons (by repeat (first | exact Del.here | apply Del.there)))) (by repeat (first | exact trivial | refine And.intro (by repeat (first | exact Mem.here | apply Mem.there)) ?_)) ?_
        rintro ⟨A41, c41⟩
        refine Jl.alloc tze24 ?_
        intro b8
        refine Jl.storeW rfl tsh24 rfl (by rfl) (by first | exact rc_one _ _ | simp [Value.oneCell']) (by repeat (first | exact Swap.here | apply Swap.there)) (by rfl) ?_
        refine Jl.nil ?_
        refine Jq.thenN ?_
        refine Jc.seq ?_
        refine Jc.seq ?_
        refine Jc.region ?_
        refine Jl.pv (PR.fieldAddr rfl tfl24_0) ?_
        refine Jl.pv (PR.load1 rfl tsh5 (by repeat (first | exact Has.here | apply Has.there)) (by rfl)) ?_
        refine Jl.pv (PR.move rfl) ?_
        refine Jl.pv (PR.neq false rfl rfl (by simp)) ?_
        refine Jl.pv (PR.move rfl) ?_
        refine Jl.on rfl rfl ?_
        refine Jl.pv (PR.fieldAddr rfl tfl24_1) ?_
        refine Jl.on rfl rfl ?_
        refine Jl.pv (PR.load1 rfl tsh22 (by repeat (first | exact Has.here | apply Has.there)) (by rfl)) ?_
        refine Jl.on rfl rfl ?_
        refine Jl.pv (PR.len rfl tsl22) ?_
        refine Jl.on rfl rfl ?_
        refine Jl.pv (PR.move rfl) ?_
        refine Jl.on rfl rfl ?_
        refine Jl.pv (PR.len rfl tsl22) ?_
        refine Jl.on rfl rfl ?_
        refine Jl.pv (PR.neq false rfl rfl (by simp)) ?_
        refine Jl.pv (PR.pickF rfl rfl) ?_
        refine Jl.nil ?_
        refine Jq.thenN ?_
        refine Jc.condF rfl ?_
        refine Jc.skip ?_
        refine Jq.thenN ?_
        refine Jc.seq ?_
        refine Jc.seq ?_
        refine Jc.region ?_
        refine Jl.pv (PR.assign rfl) ?_
        refine Jl.nil ?_
        refine Jq.thenN ?_
        refine Jc.block ?_
        refine Jc.loop (σ := { k : Nat // k ≤ l.length }) (fun s => [(9, .int .i64 (s.1 : Int)), (8, .pointer (some ⟨b8, 0, none⟩)), (2, .slice A l.length c), (0, .int .u8 a.toNat)]) (fun s => [.blk b8 24 ((⟨a, l⟩ : Rc).cs (A41, c41)), .row 3 1 (.slice A41 l.length c41) l.length (i64s (incL l s.1))]) (fun _ => [.rd A (i64s l), .many m, .names bn]) (fun s => l.length - s.1) ⟨0, Nat.zero_le _⟩ (by repeat (first | exact trivial | refine And.intro rfl ?_)) rfl (by repeat (first | exact trivial | refine And.intro (by repeat (first | exact Mem.here | apply Mem.there)) ?_)) ?_
        rintro ⟨k, hk⟩
        show Jc _ _ _ _ _ _ [(9, Value.int .i64 (k : Int)), (8, .pointer (some ⟨b8, 0, none⟩)), (2, .slice A l.length c), (0, .int .u8 a.toNat)] [.blk b8 24 ((⟨a, l⟩ : Rc).cs (A41, c41)), .row 3 1 (.slice A41 l.length c41) l.length (i64s (incL l k))] [.rd A (i64s l), .many m, .names bn]
        refine Jc.seq ?_
        refine Jc.seq ?_
        refine Jc.region ?_
        refine Jl.pv (PR.move rfl) ?_
        refine Jl.pv (PR.move rfl) ?_
        refine Jl.pv (PR.len rfl tsl22) ?_
        refine Jl.pv (PR.lss _ rfl rfl rfl) ?_
        refine Jl.nil ?_
        refine Jq.thenN ?_
        refine Jc.cond rfl (fun hlt => ?_) (fun hlt => ?_)
        · try replace hlt := of_decide_eq_true hlt
          have hlt' : k < l.length := by omega
          refine Jc.skip ?_
          refine Jq.thenN ?_
          refine Jc.seq ?_
          refine Jc.block ?_
          refine Jc.seq ?_
          refine Jc.seq ?_
          refine Jc.drawn [0, 1, 0, 7, 15, 0, 0, 96, 224, 511] ([(0, false), (1, false), (2, false), (3, false), (4, false), (5, false), (6, false), (7, false), (8, false), (9, false)], []) [] tmx (by kernel_rfl) ?_
          refine Dh.JH.nil ?_
          refine Dh.JB.pv rfl trivial (fun _ => PR.fieldAddr rfl tfl24_1) ?_
          refine Dh.JB.rd [.blk _ _ _] rfl trivial (by repeat (first | exact Take.nil | apply Take.cons (by repeat (first | exact Del.here | apply Del.there)))) (fun _ => PR.load1 rfl tsh22 Has.here (by rfl)) ?_
          refine Dh.JB.pv rfl trivial (fun _ => PR.move rfl) ?_
          refine Dh.JB.rd [.row _ _ _ _ _] rfl trivial (by repeat (first | exact Take.nil | apply Take.cons (by repeat (first | exact Del.here | apply Del.there)))) (fun _ => PR.idxO1 k rfl rfl tsl22 Del.here rfl hlt') ?_
          refine Dh.JB.rd [.row _ _ _ _ _] rfl trivial (by repeat (first | exact Take.nil | apply Take.cons (by repeat (first | exact Del.here | apply Del.there)))) (fun _ => PR.loadO rfl tsh3 Del.here (incL_at hlt')) ?_
          refine Dh.JB.pv rfl trivial (fun _ => PR.move rfl) ?_
          refine Dh.JB.pv rfl trivial (fun _ => PR.move rfl) ?_
          refine Dh.JB.pv rfl trivial (fun _ => PR.idx1 k rfl rfl tsl22 (by repeat (first | exact Mem.here | apply Mem.there)) (by simp) rfl hlt') ?_
          refine Dh.JB.pv rfl trivial (fun _ => PR.loadR rfl tsh3 (by repeat (first | exact Mem.here | apply Mem.there)) (getm hlt')) ?_
          refine Dh.JB.pv rfl trivial (fun _ => PR.neq false rfl rfl (by simp)) ?_
          refine Dh.JB.nil ?_
          refine Dh.JL.nil ?_
          refine Jq.thenN ?_
          refine Jc.condF rfl ?_
          refine Jc.skip ?_
          refine Jq.thenN ?_
          refine Jc.region ?_
          refine Jl.pv (PR.fieldAddr rfl tfl24_1) ?_
          refine Jl.pv (PR.load1 rfl tsh22 (by repeat (first | exact Has.here | apply Has.there)) (by rfl)) ?_
          refine Jl.pv (PR.move rfl) ?_
          refine Jl.pv (PR.idxO1 k rfl rfl tsl22 (by repeat (first | exact Del.here | apply Del.there)) rfl hlt') ?_
          refine Jl.pv (PR.loadO rfl tsh3 (by repeat (first | exact Del.here | apply Del.there)) (incL_at hlt')) ?_
          refine Jl.pv (PR.add (IntKind.i64.wrap (l[k] + 1)) rfl rfl rfl) ?_
          refine Jl.pv (PR.idxO1 k rfl rfl tsl22 (by repeat (first | exact Del.here | apply Del.there)) rfl hlt') ?_
          refine Jl.storeO rfl tsh3 rfl (by rfl) (by repeat (first | exact Swap.here | apply Swap.there)) (by simp [incL]; omega) (incL_next hlt') ?_
          refine Jl.nil ?_
          refine Jq.blkN ?_
          refine Jq.thenN ?_
          refine Jc.region ?_
          refine Jl.pv (PR.move rfl) ?_
          refine Jl.pv (PR.add ((k + 1 : Nat) : Int) rfl rfl (by rw [w64 (by omega) (by omega)]; rfl)) ?_
          refine Jl.pv (PR.assign rfl) ?_
          refine Jl.nil ?_
          refine Jq.again ⟨k + 1, hlt'⟩ (by simp only; omega) (by repeat (first | exact trivial | refine And.intro rfl ?_)) rfl (by repeat (first | exact trivial | refine And.intro (by repeat (first | exact Mem.here | apply Mem.there)) ?_))
        · try replace hlt := of_decide_eq_false hlt
          refine Jc.exit ?_
          refine Jq.thenX ?_
          refine Jq.thenX ?_
          refine Jq.blkX ?_
          refine Jq.thenN ?_
          refine Jc.seq ?_
          refine Jc.region ?_
          refine Jl.pv (PR.move rfl) ?_
          refine Jl.pv (PR.move rfl) ?_
          refine Jl.call (of_ct a A c l (by omega)) en23 (by rfl) (by repeat (first | exact Take.nil | apply Take.cons (by repeat (first | exact Del.here | apply Del.there)))) (by repeat (first | exact trivial | refine And.intro (by repeat (first | exact Mem.here | apply Mem.there)) ?_)) ?_
          rintro ⟨A79, c79⟩
          refine Jl.sealR (by repeat (first | exact Del.here | apply Del.there)) ?_
          refine Jl.pv (PR.move rfl) ?_
          refine Jl.pv (PR.move rfl) ?_
          refine Jl.pv (PR.build (by rfl) tze24 tpl24_0_1 (by rfl)) ?_
          refine Jl.call (rsameR_eq ⟨a, l⟩ (A79, c79) (A, c) (by simp only; omega)) en15 (by rfl) (by repeat (first | exact Take.nil | apply Take.cons (by repeat (first | exact Del.here | apply Del.there)))) (by repeat (first | exact trivial | refine And.intro (by repeat (first | exact Mem.here | apply Mem.there)) ?_)) ?_
          rintro ⟨⟩
          refine Jl.as (.bool true) (congrArg Value.bool rfl) ?_
          refine Jl.pv (PR.move rfl) ?_
          refine Jl.on rfl rfl ?_
          refine Jl.call (rwakes_ct m bn) en10 (by rfl) (by repeat (first | exact Take.nil | apply Take.cons (by repeat (first | exact Del.here | apply Del.there)))) (by repeat (first | exact trivial | refine And.intro (by repeat (first | exact Mem.here | apply Mem.there)) ?_)) ?_
          rintro ⟨⟩
          refine Jl.pv (PR.pickT rfl rfl) ?_
          refine Jl.pv (PR.assign rfl) ?_
          refine Jl.nil ?_
          refine Jq.thenN ?_
          refine Jc.ret ?_
          exact Jq.fin () (.inl rfl) rfl (RetVs.tmp rfl RetVs.nil) rfl (by repeat (first | exact Take.nil | apply Take.cons (by repeat (first | exact Del.here | apply Del.there)))) (by repeat (first | exact trivial | refine And.intro (by repeat (first | exact Mem.here | apply Mem.there)) ?_))
end Go.Proofs.YtljgaglbgkejhaaDoor
