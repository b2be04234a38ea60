/-
Contracts of orders: their rules.
-/
import Derived.Test.YtcppphgpbaablaaDoorAdE
namespace Go.Proofs.YtcppphgpbaablaaDoor
set_option linter.unusedVariables false
open Go.RowKit
attribute [local irreducible] Res.blk Res.row Fact.rd Res.mapV
/-- What is asked. -/
abbrev askCs (b : Br) (z : BrA) (L : Option Addr) (cL n : Nat) (now : Int) : List Value := b.cs z ++ [.slice L n cL, .int .i64 now]
abbrev askV (b : Br) (z : BrA) (L : Option Addr) (cL n : Nat) (now : Int) : Value := .agg (askCs b z L cL n now).toArray
theorem askCs_one (b : Br) (z : BrA) (L : Option Addr) (cL n : Nat) (now : Int) : ∀ u ∈ askCs b z L cL n now, u.oneCell' = true := by simp [askCs, Br.cs, Value.oneCell']
abbrev ruleV (p : Bool × Int) : Value := .agg #[.bool p.1, .int .i64 p.2]
theorem amany_ct (b : Br) (z : BrA) (L : Option Addr) (cL : Nat) (l : List Int) (now n : Int) : Ct Tryd.prog 36 [askV b z L cL l.length now, .int .i64 n] [] [] (fun _ : Unit => ruleV (decide ((l.length : Int) = n), 2)) (fun _ => []) (fun _ => []) := by
  refine Ct.of _ Tryd.func36 Tryd.ntmps36 rfl rfl (fun X W => ?_)
  refine Jc.seq ?_
  refine Jc.region ?_
  refine Jl.box rfl (by rfl) ?_
  intro b2
  refine Jl.alloc tze83 ?_
  intro b4
  refine Jl.nil ?_
  refine Jq.thenN ?_
  refine Jc.seq ?_
  refine Jc.region ?_
  refine Jl.pv (PR.fieldAddr rfl tfl67_1) ?_
  refine Jl.pv (PR.load1 rfl tsh22 (by repeat (first | exact Has.here | apply Has.there)) (by rfl)) ?_
  refine Jl.pv (PR.len rfl tsl22) ?_
  refine Jl.pv (PR.move rfl) ?_
  refine Jl.pv (PR.eql _ rfl rfl rfl) ?_
  refine Jl.pv (PR.build (by rfl) tze83 tpl83_0_1 (by rfl)) ?_
  refine Jl.storeW rfl tsh83 rfl (by rfl) (by first | exact askCs_one _ _ _ _ _ _ | simp [Value.oneCell']) (by repeat (first | exact Swap.here | apply Swap.there)) (by rfl) ?_
  refine Jl.nil ?_
  refine Jq.thenN ?_
  refine Jc.ret ?_
  exact Jq.fin () (.inl rfl) rfl (RetVs.cellA rfl (by repeat (first | exact Has.here | apply Has.there)) tsh83 (by rfl) RetVs.nil) rfl (by repeat (first | exact Take.nil | apply Take.cons (by repeat (first | exact Del.here | apply Del.there)))) (by repeat (first | exact trivial | refine And.intro (by repeat (first | exact Mem.here | apply Mem.there)) ?_))
theorem aactive_ct (b : Br) (z : BrA) (L : Option Addr) (cL : Nat) (l : List Int) (now : Int) : Ct Tryd.prog 38 [askV b z L cL l.length now] [] [] (fun _ : Unit => ruleV (b.act, 190)) (fun _ => []) (fun _ => []) := by
  refine Ct.of _ Tryd.func38 Tryd.ntmps38 rfl rfl (fun X W => ?_)
  refine Jc.seq ?_
  refine Jc.region ?_
  refine Jl.box rfl (by rfl) ?_
  intro b1
  refine Jl.alloc tze83 ?_
  intro b2
  refine Jl.nil ?_
  refine Jq.thenN ?_
  refine Jc.seq ?_
  refine Jc.region ?_
  refine Jl.pv (PR.fieldAddr rfl tfl67_0) ?_
  refine Jl.pv (PR.fieldAddr rfl tfl30_6) ?_
  refine Jl.pv (PR.fieldAddr rfl tfl28_0) ?_
  refine Jl.pv (PR.load1 rfl tsh5 (by repeat (first | exact Has.here | apply Has.there)) (by rfl)) ?_
  refine Jl.pv (PR.eql (a := (b.rf.st.toNat : Int)) (b := 1) b.act rfl rfl (by rw [Br.act, decide_eq_decide]; omega)) ?_
  refine Jl.pv (PR.build (by rfl) tze83 tpl83_0_1 (by rfl)) ?_
  refine Jl.storeW rfl tsh83 rfl (by rfl) (by first | exact askCs_one _ _ _ _ _ _ | simp [Value.oneCell']) (by repeat (first | exact Swap.here | apply Swap.there)) (by rfl) ?_
  refine Jl.nil ?_
  refine Jq.thenN ?_
  refine Jc.ret ?_
  exact Jq.fin () (.inl rfl) rfl (RetVs.cellA rfl (by repeat (first | exact Has.here | apply Has.there)) tsh83 (by rfl) RetVs.nil) rfl (by repeat (first | exact Take.nil | apply Take.cons (by repeat (first | exact Del.here | apply Del.there)))) (by repeat (first | exact trivial | refine And.intro (by repeat (first | exact Mem.here | apply Mem.there)) ?_))
theorem afirst_ct (b : Br) (z : BrA) (L : Option Addr) (cL : Nat) (l : List Int) (now : Int) (hn : l.length ≤ 1000000) : Ct Tryd.prog 35 [askV b z L cL l.length now] [] [.rd L (i64s l)] (fun _ : Unit => .int .i64 (fst0 l)) (fun _ => []) (fun _ => []) := by
  refine Ct.of _ Tryd.func35 Tryd.ntmps35 rfl rfl (fun X W => ?_)
  refine Jc.seq ?_
  refine Jc.region ?_
  refine Jl.box rfl (by rfl) ?_
  intro b1
  refine Jl.pv (PR.assign rfl) ?_
  refine Jl.nil ?_
  refine Jq.thenN ?_
  refine Jc.seq ?_
  refine Jc.seq ?_
  refine Jc.region ?_
  refine Jl.pv (PR.fieldAddr rfl tfl67_1) ?_
  refine Jl.pv (PR.load1 rfl tsh22 (by repeat (first | exact Has.here | apply Has.there)) (by rfl)) ?_
  refine Jl.pv (PR.len rfl tsl22) ?_
  refine Jl.pv (PR.eql _ rfl rfl rfl) ?_
  refine Jl.nil ?_
  refine Jq.thenN ?_
  refine Jc.cond rfl (fun h0 => ?_) (fun h0 => ?_)
  · try replace h0 := of_decide_eq_true h0
    refine Jc.seq ?_
    refine Jc.region ?_
    refine Jl.pv (PR.assign rfl) ?_
    refine Jl.nil ?_
    refine Jq.thenN ?_
    refine Jc.ret ?_
    refine Jq.thenR ?_
    exact Jq.fin () (.inl rfl) rfl (RetVs.tmp rfl RetVs.nil) (by rw [List.eq_nil_of_length_eq_zero (show l.length = 0 by omega)]; rfl) (by repeat (first | exact Take.nil | apply Take.cons (by repeat (first | exact Del.here | apply Del.there)))) (by repeat (first | exact trivial | refine And.intro (by repeat (first | exact Mem.here | apply Mem.there)) ?_))
  · try replace h0 := of_decide_eq_false h0
    refine Jc.skip ?_
    refine Jq.thenN ?_
    refine Jc.seq ?_
    refine Jc.region ?_
    refine Jl.pv (PR.fieldAddr rfl tfl67_1) ?_
    refine Jl.pv (PR.load1 rfl tsh22 (by repeat (first | exact Has.here | apply Has.there)) (by rfl)) ?_
    refine Jl.pv (PR.idx1 0 rfl rfl tsl22 (by repeat (first | exact Mem.here | apply Mem.there)) (by simp [i64s]) rfl (by omega)) ?_
    refine Jl.pv (PR.loadR rfl tsh3 (by repeat (first | exact Mem.here | apply Mem.there)) (getm (show 0 < l.length by omega))) ?_
    refine Jl.pv (PR.assign rfl) ?_
    refine Jl.nil ?_
    refine Jq.thenN ?_
    refine Jc.ret ?_
    exact Jq.fin () (.inl rfl) rfl (RetVs.tmp rfl RetVs.nil) (by rw [fst0, getDE (show 0 < l.length by omega)]; rfl) (by repeat (first | exact Take.nil | apply Take.cons (by repeat (first | exact Del.here | apply Del.there)))) (by repeat (first | exact trivial | refine And.intro (by repeat (first | exact Mem.here | apply Mem.there)) ?_))
  -- hint not used: one
theorem number_ct (n low : Int) : Ct Tryd.prog 37 [.int .i64 n, .int .i64 low] [] [] (fun _ : Unit => .bool (inB n (low, 1099511627776))) (fun _ => []) (fun _ => []) := by
  refine Ct.of _ Tryd.func37 Tryd.ntmps37 rfl rfl (fun X W => ?_)
  refine Jc.seq ?_
  refine Jc.region ?_
  refine Jl.pv (PR.assign rfl) ?_
  refine Jl.nil ?_
  refine Jq.thenN ?_
  refine Jc.seq ?_
  refine Jc.region ?_
  refine Jl.pv (PR.move rfl) ?_
  refine Jl.pv (PR.move rfl) ?_
  refine Jl.pv (PR.geq _ rfl rfl rfl) ?_
  refine Jl.pv (PR.move rfl) ?_
  refine Jl.bsplit (fun g8 => ?_) (fun g8 => ?_)
  · try replace g8 := of_decide_eq_true g8
    refine Jl.on rfl rfl ?_
    refine Jl.pv (PR.move rfl) ?_
    refine Jl.on rfl rfl ?_
    refine Jl.pv (PR.leq _ rfl rfl rfl) ?_
    refine Jl.pv (PR.pickT rfl rfl) ?_
    refine Jl.pv (PR.assign rfl) ?_
    refine Jl.nil ?_
    refine Jq.thenN ?_
    refine Jc.ret ?_
    exact Jq.fin () (.inl rfl) rfl (RetVs.tmp rfl RetVs.nil) (congrArg Value.bool (by rw [Bool.eq_iff_iff]; simp [inB] <;> omega)) (by repeat (first | exact Take.nil | apply Take.cons (by repeat (first | exact Del.here | apply Del.there)))) (by repeat (first | exact trivial | refine And.intro (by repeat (first | exact Mem.here | apply Mem.there)) ?_))
  · try replace g8 := of_decide_eq_false g8
    refine Jl.offS rfl rfl rfl ?_
    refine Jl.offS rfl rfl rfl ?_
    refine Jl.pv (PR.pickF rfl rfl) ?_
    refine Jl.pv (PR.assign rfl) ?_
    refine Jl.nil ?_
    refine Jq.thenN ?_
    refine Jc.ret ?_
    exact Jq.fin () (.inl rfl) rfl (RetVs.tmp rfl RetVs.nil) (congrArg Value.bool (by rw [Bool.eq_iff_iff]; simp [inB] <;> omega)) (by repeat (first | exact Take.nil | apply Take.cons (by repeat (first | exact Del.here | apply Del.there)))) (by repeat (first | exact trivial | refine And.intro (by repeat (first | exact Mem.here | apply Mem.there)) ?_))
theorem akept_ct (b : Br) (z : BrA) (L : Option Addr) (cL : Nat) (l : List Int) (now : Int) (hn : l.length ≤ 1000000) (hm : b.kps.length ≤ 1000000) :
    Ct Tryd.prog 43 [askV b z L cL l.length now] [] (b.rd z ++ [.rd L (i64s l)]) (fun _ : Unit => .tuple #[ruleV (keptR b (fst0 l)), (keptK b (fst0 l)).v]) (fun _ => []) (fun _ => []) := by
  obtain ⟨⟨M, cM⟩, ⟨I, cI⟩, ⟨K, cK⟩⟩ := z
  have hl8 := kpsV_len b.kps
  cases hf : b.findK (fst0 l) with
  | none =>
    have e : keptI b (fst0 l) = none := by unfold keptI; split <;> simp [hf]
    rw [show keptR b (fst0 l) = (false, 191) by rw [keptR, e], show keptK b (fst0 l) = ⟨0, 0, 0, 0, 0, 0, false, false⟩ by rw [keptK, e]]
    refine Ct.of _ Tryd.func43 Tryd.ntmps43 rfl rfl (fun X W => ?_)
    refine Jc.seq ?_
    refine Jc.region ?_
    refine Jl.box rfl (by rfl) ?_
    intro b1
    refine Jl.alloc tze83 ?_
    intro b2
    refine Jl.alloc tze46 ?_
    intro b3
    refine Jl.nil ?_
    refine Jq.thenN ?_
    refine Jc.seq ?_
    refine Jc.drawn [0, 1, 0, 4, 15, 31] ([(5, false)], []) [⟨[(0, false), (1, false), (2, false)], [], 3⟩, ⟨[], [], 4⟩] tmx (by kernel_rfl) ?_
    refine Dh.JH.cons ?_
    refine Dh.JB.pv rfl trivial (fun _ => PR.fieldAddr rfl tfl67_0) ?_
    refine Dh.JB.rd [.blk _ _ _] rfl trivial (by repeat (first | exact Take.nil | apply Take.cons (by repeat (first | exact Del.here | apply Del.there)))) (fun _ => PR.loadA rfl tsh30 Has.here (by rfl)) ?_
    refine Dh.JB.rd [.blk _ _ _] rfl trivial (by repeat (first | exact Take.nil | apply Take.cons (by repeat (first | exact Del.here | apply Del.there)))) (fun _ => PR.loadW rfl tsh67 Has.here (by rfl)) ?_
    refine Dh.JB.nil ?_
    refine Dh.JL.nil ?_
    refine Dh.JE.mk rfl (fun _ h => by cases h) (fun C1_3 => ?_)
    refine Jl.call (afirst_ct b ((M, cM), (I, cI), (K, cK)) L cL l now hn) en35 (by rfl) (by repeat (first | exact Take.nil | apply Take.cons (by repeat (first | exact Del.here | apply Del.there)))) (by repeat (first | exact trivial | refine And.intro (by repeat (first | exact Mem.here | apply Mem.there)) ?_)) ?_
    rintro ⟨⟩
    refine Jl.nil ?_
    refine Dh.Jq.segV (by repeat (first | exact Dh.FExt.refl | apply Dh.FExt.cons | apply Dh.FExt.app)) ?_ (by repeat (first | exact Dh.KeepL.nil | apply Dh.KeepL.anc (by rfl) | apply Dh.KeepL.keep (by repeat (first | exact Take.nil | apply Take.cons (by repeat (first | exact Del.here | apply Del.there))))))
    refine Dh.JH.cons ?_
    refine Dh.JB.nil ?_
    refine Dh.JL.nil ?_
    refine Dh.JE.mk rfl (fun _ h => by cases h) (fun C1_4 => ?_)
    refine Jl.call (bfind_ct b ((M, cM), (I, cI), (K, cK)) (fst0 l) hm) en52 (by rfl) (by repeat (first | exact Take.nil | apply Take.cons (by repeat (first | exact Del.here | apply Del.there)))) (by repeat (first | exact trivial | refine And.intro (by repeat (first | exact Mem.here | apply Mem.there)) ?_)) ?_
    rintro ⟨⟩
    refine Jl.as (.int .i64 (-1)) (by rw [hf]; rfl) ?_
    refine Jl.nil ?_
    refine Dh.Jq.segV (by repeat (first | exact Dh.FExt.refl | apply Dh.FExt.cons | apply Dh.FExt.app)) ?_ (by repeat (first | exact Dh.KeepL.nil | apply Dh.KeepL.anc (by rfl) | apply Dh.KeepL.keep (by repeat (first | exact Take.nil | apply Take.cons (by repeat (first | exact Del.here | apply Del.there))))))
    refine Dh.JH.nil ?_
    refine Dh.JB.pv rfl trivial (fun _ => PR.assign rfl) ?_
    refine Dh.JB.nil ?_
    refine Dh.JL.nil ?_
    refine Jq.thenN ?_
    refine Jc.seq ?_
    refine Jc.seq ?_
    refine Jc.region ?_
    refine Jl.pv (PR.move rfl) ?_
    refine Jl.pv (PR.lss true rfl rfl (by decide)) ?_
    refine Jl.pv (PR.move rfl) ?_
    refine Jl.offS rfl rfl rfl ?_
    refine Jl.offS rfl rfl rfl ?_
    refine Jl.offS rfl rfl rfl ?_
    refine Jl.offS rfl rfl rfl ?_
    refine Jl.pv (PR.pickT rfl rfl) ?_
    refine Jl.nil ?_
    refine Jq.thenN ?_
    refine Jc.condT rfl ?_
    refine Jc.seq ?_
    refine Jc.region ?_
    refine Jl.pv (PR.build (by rfl) tze83 tpl83_0_1 (by rfl)) ?_
    refine Jl.pv (PR.build (by rfl) tze46 tpl46_ (by rfl)) ?_
    refine Jl.storeW rfl tsh83 rfl (by rfl) (by first | exact askCs_one _ _ _ _ _ _ | simp [Value.oneCell']) (by repeat (first | exact Swap.here | apply Swap.there)) (by rfl) ?_
    refine Jl.storeW rfl tsh46 rfl (by rfl) (by first | exact askCs_one _ _ _ _ _ _ | simp [Value.oneCell']) (by repeat (first | exact Swap.here | apply Swap.there)) (by rfl) ?_
    refine Jl.nil ?_
    refine Jq.thenN ?_
    refine Jc.ret ?_
    refine Jq.thenR ?_
    exact Jq.fin () (.inl rfl) rfl (RetVs.cellA rfl (by repeat (first | exact Has.here | apply Has.there)) tsh83 (by rfl) (RetVs.cellA rfl (by repeat (first | exact Has.here | apply Has.there)) tsh46 (by rfl) RetVs.nil)) rfl (by repeat (first | exact Take.nil | apply Take.cons (by repeat (first | exact Del.here | apply Del.there)))) (by repeat (first | exact trivial | refine And.intro (by repeat (first | exact Mem.here | apply Mem.there)) ?_))
  | some i =>
    obtain ⟨hi, _⟩ := findK_some hf
    by_cases hin : inB (fst0 l) (0, 1099511627776) = true
    · have e : keptI b (fst0 l) = some i := by rw [keptI, if_pos hin, hf]
      rw [show keptR b (fst0 l) = (true, 0) by rw [keptR, e], show keptK b (fst0 l) = b.kps[i] by rw [keptK, e]; exact kAt_eq hi]
      refine Ct.of _ Tryd.func43 Tryd.ntmps43 rfl rfl (fun X W => ?_)
      refine Jc.seq ?_
      refine Jc.region ?_
      refine Jl.box rfl (by rfl) ?_
      intro b1
      refine Jl.alloc tze83 ?_
      intro b2
      refine Jl.alloc tze46 ?_
      intro b3
      refine Jl.nil ?_
      refine Jq.thenN ?_
      refine Jc.seq ?_
      refine Jc.drawn [0, 1, 0, 4, 15, 31] ([(5, false)], []) [⟨[(0, false), (1, false), (2, false)], [], 3⟩, ⟨[], [], 4⟩] tmx (by kernel_rfl) ?_
      refine Dh.JH.cons ?_
      refine Dh.JB.pv rfl trivial (fun _ => PR.fieldAddr rfl tfl67_0) ?_
      refine Dh.JB.rd [.blk _ _ _] rfl trivial (by repeat (first | exact Take.nil | apply Take.cons (by repeat (first | exact Del.here | apply Del.there)))) (fun _ => PR.loadA rfl tsh30 Has.here (by rfl)) ?_
      refine Dh.JB.rd [.blk _ _ _] rfl trivial (by repeat (first | exact Take.nil | apply Take.cons (by repeat (first | exact Del.here | apply Del.there)))) (fun _ => PR.loadW rfl tsh67 Has.here (by rfl)) ?_
      refine Dh.JB.nil ?_
      refine Dh.JL.nil ?_
      refine Dh.JE.mk rfl (fun _ h => by cases h) (fun C1_3 => ?_)
      refine Jl.call (afirst_ct b ((M, cM), (I, cI), (K, cK)) L cL l now hn) en35 (by rfl) (by repeat (first | exact Take.nil | apply Take.cons (by repeat (first | exact Del.here | apply Del.there)))) (by repeat (first | exact trivial | refine And.intro (by repeat (first | exact Mem.here | apply Mem.there)) ?_)) ?_
      rintro ⟨⟩
      refine Jl.nil ?_
      refine Dh.Jq.segV (by repeat (first | exact Dh.FExt.refl | apply Dh.FExt.cons | apply Dh.FExt.app)) ?_ (by repeat (first | exact Dh.KeepL.nil | apply Dh.KeepL.anc (by rfl) | apply Dh.KeepL.keep (by repeat (first | exact Take.nil | apply Take.cons (by repeat (first | exact Del.here | apply Del.there))))))
      refine Dh.JH.cons ?_
      refine Dh.JB.nil ?_
      refine Dh.JL.nil ?_
      refine Dh.JE.mk rfl (fun _ h => by cases h) (fun C1_4 => ?_)
      refine Jl.call (bfind_ct b ((M, cM), (I, cI), (K, cK)) (fst0 l) hm) en52 (by rfl) (by repeat (first | exact Take.nil | apply Take.cons (by repeat (first | exact Del.here | apply Del.there)))) (by repeat (first | exact trivial | refine And.intro (by repeat (first | exact Mem.here | apply Mem.there)) ?_)) ?_
      rintro ⟨⟩
      refine Jl.as (.int .i64 (i : Int)) (by rw [hf]; rfl) ?_
      refine Jl.nil ?_
      refine Dh.Jq.segV (by repeat (first | exact Dh.FExt.refl | apply Dh.FExt.cons | apply Dh.FExt.app)) ?_ (by repeat (first | exact Dh.KeepL.nil | apply Dh.KeepL.anc (by rfl) | apply Dh.KeepL.keep (by repeat (first | exact Take.nil | apply Take.cons (by repeat (first | exact Del.here | apply Del.there))))))
      refine Dh.JH.nil ?_
      refine Dh.JB.pv rfl trivial (fun _ => PR.assign rfl) ?_
      refine Dh.JB.nil ?_
      refine Dh.JL.nil ?_
      refine Jq.thenN ?_
      refine Jc.seq ?_
      refine Jc.seq ?_
      refine Jc.region ?_
      refine Jl.pv (PR.move rfl) ?_
      refine Jl.pv (PR.lss false rfl rfl (decide_eq_false (by omega))) ?_
      refine Jl.pv (PR.move rfl) ?_
      refine Jl.on rfl rfl ?_
      refine Jl.pv (PR.loadW rfl tsh67 (by repeat (first | exact Has.here | apply Has.there)) (by rfl)) ?_
      refine Jl.on rfl rfl ?_
      refine Jl.call (afirst_ct b ((M, cM), (I, cI), (K, cK)) L cL l now hn) en35 (by rfl) (by repeat (first | exact Take.nil | apply Take.cons (by repeat (first | exact Del.here | apply Del.there)))) (by repeat (first | exact trivial | refine And.intro (by repeat (first | exact Mem.here | apply Mem.there)) ?_)) ?_
      rintro ⟨⟩
      refine Jl.on rfl rfl ?_
      refine Jl.call (number_ct (fst0 l) 0) en37 (by rfl) (by repeat (first | exact Take.nil | apply Take.cons (by repeat (first | exact Del.here | apply Del.there)))) (by repeat (first | exact trivial | refine And.intro (by repeat (first | exact Mem.here | apply Mem.there)) ?_)) ?_
      rintro ⟨⟩
      refine Jl.as (.bool true) (congrArg Value.bool hin) ?_
      refine Jl.on rfl rfl ?_
      refine Jl.pv (PR.not rfl) ?_
      refine Jl.pv (PR.pickF rfl rfl) ?_
      refine Jl.nil ?_
      refine Jq.thenN ?_
      refine Jc.condF rfl ?_
      refine Jc.skip ?_
      refine Jq.thenN ?_
      refine Jc.seq ?_
      refine Jc.drawn [0, 0, 2, 6, 0, 30, 62, 1, 255] ([], []) [⟨[(0, false), (1, false), (2, false), (3, false), (4, false), (5, false), (6, false)], [], 7⟩, ⟨[], [], 8⟩] tmx (by kernel_rfl) ?_
      refine Dh.JH.cons ?_
      refine Dh.JB.pv rfl trivial (fun _ => PR.build (by rfl) tze83 tpl83_0_1 (by rfl)) ?_
      refine Dh.JB.pv rfl trivial (fun _ => PR.fieldAddr rfl tfl67_0) ?_
      refine Dh.JB.pv rfl trivial (fun _ => PR.fieldAddr rfl tfl30_5) ?_
      refine Dh.JB.rd [.blk _ _ _] rfl trivial (by repeat (first | exact Take.nil | apply Take.cons (by repeat (first | exact Del.here | apply Del.there)))) (fun _ => PR.load1 rfl tsh26 Has.here (by rfl)) ?_
      refine Dh.JB.pv rfl trivial (fun _ => PR.move rfl) ?_
      refine Dh.JB.pv rfl trivial (fun _ => PR.idx i rfl rfl tsl26 (by repeat (first | exact Mem.here | apply Mem.there)) (kpsV_len _) (by omega) rfl hi) ?_
      refine Dh.JB.pv rfl trivial (fun _ => PR.loadRA rfl tsh46 (by repeat (first | exact Mem.here | apply Mem.there)) (by decide) (kps_at hi)) ?_
      refine Dh.JB.nil ?_
      refine Dh.JL.nil ?_
      refine Dh.JE.mk rfl (fun _ h => by cases h) (fun C4_7 => ?_)
      refine Jl.storeW rfl tsh83 rfl (by rfl) (by first | exact askCs_one _ _ _ _ _ _ | simp [Value.oneCell', Kp.cs]) (by repeat (first | exact Swap.here | apply Swap.there)) (by rfl) ?_
      refine Jl.nil ?_
      refine Dh.Jq.segN (by repeat (first | exact Dh.FExt.refl | apply Dh.FExt.cons | apply Dh.FExt.app)) ?_ (by repeat (first | exact Dh.KeepL.nil | apply Dh.KeepL.anc (by rfl) | apply Dh.KeepL.keep (by repeat (first | exact Take.nil | apply Take.cons (by repeat (first | exact Del.here | apply Del.there))))))
      refine Dh.JH.cons ?_
      refine Dh.JB.nil ?_
      refine Dh.JL.nil ?_
      refine Dh.JE.mk rfl (fun _ h => by cases h) (fun C4_8 => ?_)
      refine Jl.storeW rfl tsh46 rfl (by rfl) (by first | exact askCs_one _ _ _ _ _ _ | simp [Value.oneCell', Kp.cs]) (by repeat (first | exact Swap.here | apply Swap.there)) (by rfl) ?_
      refine Jl.nil ?_
      refine Dh.Jq.segN (by repeat (first | exact Dh.FExt.refl | apply Dh.FExt.cons | apply Dh.FExt.app)) ?_ (by repeat (first | exact Dh.KeepL.nil | apply Dh.KeepL.anc (by rfl) | apply Dh.KeepL.keep (by repeat (first | exact Take.nil | apply Take.cons (by repeat (first | exact Del.here | apply Del.there))))))
      refine Dh.JH.nil ?_
      refine Dh.JB.nil ?_
      refine Dh.JL.nil ?_
      refine Jq.thenN ?_
      refine Jc.ret ?_
      exact Jq.fin () (.inl rfl) rfl (RetVs.cellA rfl (by repeat (first | exact Has.here | apply Has.there)) tsh83 (by rfl) (RetVs.cellA rfl (by repeat (first | exact Has.here | apply Has.there)) tsh46 (by rfl) RetVs.nil)) rfl (by repeat (first | exact Take.nil | apply Take.cons (by repeat (first | exact Del.here | apply Del.there)))) (by repeat (first | exact trivial | refine And.intro (by repeat (first | exact Mem.here | apply Mem.there)) ?_))
    · have e : keptI b (fst0 l) = none := by rw [keptI, if_neg hin]
      rw [show keptR b (fst0 l) = (false, 191) by rw [keptR, e], show keptK b (fst0 l) = ⟨0, 0, 0, 0, 0, 0, false, false⟩ by rw [keptK, e]]
      refine Ct.of _ Tryd.func43 Tryd.ntmps43 rfl rfl (fun X W => ?_)
      refine Jc.seq ?_
      refine Jc.region ?_
      refine Jl.box rfl (by rfl) ?_
      intro b1
      refine Jl.alloc tze83 ?_
      intro b2
      refine Jl.alloc tze46 ?_
      intro b3
      refine Jl.nil ?_
      refine Jq.thenN ?_
      refine Jc.seq ?_
      refine Jc.drawn [0, 1, 0, 4, 15, 31] ([(5, false)], []) [⟨[(0, false), (1, false), (2, false)], [], 3⟩, ⟨[], [], 4⟩] tmx (by kernel_rfl) ?_
      refine Dh.JH.cons ?_
      refine Dh.JB.pv rfl trivial (fun _ => PR.fieldAddr rfl tfl67_0) ?_
      refine Dh.JB.rd [.blk _ _ _] rfl trivial (by repeat (first | exact Take.nil | apply Take.cons (by repeat (first | exact Del.here | apply Del.there)))) (fun _ => PR.loadA rfl tsh30 Has.here (by rfl)) ?_
      refine Dh.JB.rd [.blk _ _ _] rfl trivial (by repeat (first | exact Take.nil | apply Take.cons (by repeat (first | exact Del.here | apply Del.there)))) (fun _ => PR.loadW rfl tsh67 Has.here (by rfl)) ?_
      refine Dh.JB.nil ?_
      refine Dh.JL.nil ?_
      refine Dh.JE.mk rfl (fun _ h => by cases h) (fun C1_3 => ?_)
      refine Jl.call (afirst_ct b ((M, cM), (I, cI), (K, cK)) L cL l now hn) en35 (by rfl) (by repeat (first | exact Take.nil | apply Take.cons (by repeat (first | exact Del.here | apply Del.there)))) (by repeat (first | exact trivial | refine And.intro (by repeat (first | exact Mem.here | apply Mem.there)) ?_)) ?_
      rintro ⟨⟩
      refine Jl.nil ?_
      refine Dh.Jq.segV (by repeat (first | exact Dh.FExt.refl | apply Dh.FExt.cons | apply Dh.FExt.app)) ?_ (by repeat (first | exact Dh.KeepL.nil | apply Dh.KeepL.anc (by rfl) | apply Dh.KeepL.keep (by repeat (first | exact Take.nil | apply Take.cons (by repeat (first | exact Del.here | apply Del.there))))))
      refine Dh.JH.cons ?_
      refine Dh.JB.nil ?_
      refine Dh.JL.nil ?_
      refine Dh.JE.mk rfl (fun _ h => by cases h) (fun C1_4 => ?_)
      refine Jl.call (bfind_ct b ((M, cM), (I, cI), (K, cK)) (fst0 l) hm) en52 (by rfl) (by repeat (first | exact Take.nil | apply Take.cons (by repeat (first | exact Del.here | apply Del.there)))) (by repeat (first | exact trivial | refine And.intro (by repeat (first | exact Mem.here | apply Mem.there)) ?_)) ?_
      rintro ⟨⟩
      refine Jl.as (.int .i64 (i : Int)) (by rw [hf]; rfl) ?_
      refine Jl.nil ?_
      refine Dh.Jq.segV (by repeat (first | exact Dh.FExt.refl | apply Dh.FExt.cons | apply Dh.FExt.app)) ?_ (by repeat (first | exact Dh.KeepL.nil | apply Dh.KeepL.anc (by rfl) | apply Dh.KeepL.keep (by repeat (first | exact Take.nil | apply Take.cons (by repeat (first | exact Del.here | apply Del.there))))))
      refine Dh.JH.nil ?_
      refine Dh.JB.pv rfl trivial (fun _ => PR.assign rfl) ?_
      refine Dh.JB.nil ?_
      refine Dh.JL.nil ?_
      refine Jq.thenN ?_
      refine Jc.seq ?_
      refine Jc.seq ?_
      refine Jc.region ?_
      refine Jl.pv (PR.move rfl) ?_
      refine Jl.pv (PR.lss false rfl rfl (decide_eq_false (by omega))) ?_
      refine Jl.pv (PR.move rfl) ?_
      refine Jl.on rfl rfl ?_
      refine Jl.pv (PR.loadW rfl tsh67 (by repeat (first | exact Has.here | apply Has.there)) (by rfl)) ?_
      refine Jl.on rfl rfl ?_
      refine Jl.call (afirst_ct b ((M, cM), (I, cI), (K, cK)) L cL l now hn) en35 (by rfl) (by repeat (first | exact Take.nil | apply Take.cons (by repeat (first | exact Del.here | apply Del.there)))) (by repeat (first | exact trivial | refine And.intro (by repeat (first | exact Mem.here | apply Mem.there)) ?_)) ?_
      rintro ⟨⟩
      refine Jl.on rfl rfl ?_
      refine Jl.call (number_ct (fst0 l) 0) en37 (by rfl) (by repeat (first | exact Take.nil | apply Take.cons (by repeat (first | exact Del.here | apply Del.there)))) (by repeat (first | exact trivial | refine And.intro (by repeat (first | exact Mem.here | apply Mem.there)) ?_)) ?_
      rintro ⟨⟩
      refine Jl.as (.bool false) (congrArg Value.bool (by simpa using hin)) ?_
      refine Jl.on rfl rfl ?_
      refine Jl.pv (PR.not rfl) ?_
      refine Jl.pv (PR.pickF rfl rfl) ?_
      refine Jl.nil ?_
      refine Jq.thenN ?_
      refine Jc.condT rfl ?_
      refine Jc.seq ?_
      refine Jc.region ?_
      refine Jl.pv (PR.build (by rfl) tze83 tpl83_0_1 (by rfl)) ?_
      refine Jl.pv (PR.build (by rfl) tze46 tpl46_ (by rfl)) ?_
      refine Jl.storeW rfl tsh83 rfl (by rfl) (by first | exact askCs_one _ _ _ _ _ _ | simp [Value.oneCell']) (by repeat (first | exact Swap.here | apply Swap.there)) (by rfl) ?_
      refine Jl.storeW rfl tsh46 rfl (by rfl) (by first | exact askCs_one _ _ _ _ _ _ | simp [Value.oneCell']) (by repeat (first | exact Swap.here | apply Swap.there)) (by rfl) ?_
      refine Jl.nil ?_
      refine Jq.thenN ?_
      refine Jc.ret ?_
      refine Jq.thenR ?_
      exact Jq.fin () (.inl rfl) rfl (RetVs.cellA rfl (by repeat (first | exact Has.here | apply Has.there)) tsh83 (by rfl) (RetVs.cellA rfl (by repeat (first | exact Has.here | apply Has.there)) tsh46 (by rfl) RetVs.nil)) rfl (by repeat (first | exact Take.nil | apply Take.cons (by repeat (first | exact Del.here | apply Del.there)))) (by repeat (first | exact trivial | refine And.intro (by repeat (first | exact Mem.here | apply Mem.there)) ?_))
/-- Rules in a row; those that are not so. -/
def rlsV (l : List (Bool × Int)) : List Value := l.flatMap fun p => [.bool p.1, .int .i64 p.2]
theorem rlsV_len (l : List (Bool × Int)) : (rlsV l).length = l.length * 2 := br_flat_len _ 2 (fun _ => rfl) l
theorem rls_at {l : List (Bool × Int)} {k : Nat} (h : k < l.length) : takeL (rlsV l) (k * 2) 2 = some [.bool l[k].1, .int .i64 l[k].2] := flat_at (fun p : Bool × Int => [Value.bool p.1, .int .i64 p.2]) 2 (fun _ => rfl) h
def badR (l : List (Bool × Int)) : List (Bool × Int) := l.filter fun p => !p.1
def rvals (l : List (Bool × Int)) (k : Nat) : List Value := match (badR l)[k]? with
  | some p => [.int .i64 p.2]
  | none => [.int .i64 0]
theorem rvals_len (l : List (Bool × Int)) (k : Nat) : (rvals l k).length = 1 := by unfold rvals; split <;> rfl
theorem badR_succ {l : List (Bool × Int)} {k : Nat} (h : k < l.length) : badR (l.take (k + 1)) = badR (l.take k) ++ (if l[k].1 = true then [] else [l[k]]) := by
  rw [List.take_succ_eq_append_getElem h]
  unfold badR
  rw [List.filter_append]
  congr 1
  cases hp : l[k].1 <;> simp [hp]
theorem badR_at {l : List (Bool × Int)} {k : Nat} (h : k < l.length) (h0 : l[k].1 = false) : (badR (l.take k)).length < (badR l).length ∧ (badR l)[(badR (l.take k)).length]? = some l[k] := by
  have e : badR l = badR (l.take k) ++ l[k] :: badR (l.drop (k + 1)) := by
    have : l = l.take k ++ l[k] :: l.drop (k + 1) := by simp
    conv => lhs; rw [this]
    unfold badR
    rw [List.filter_append, List.filter_cons_of_pos (by simpa using h0)]
  rw [e]
  exact ⟨by simp, by simp⟩
theorem rules_ct (A : Option Addr) (n c : Nat) : Ct Tryd.prog 51 [.slice A n c] [] [] (fun b : Nat => .func (.func 58) #[] #[.pointer (some ⟨b, 0, none⟩)]) (fun b => [.blk b 104 [.slice A n c]]) (fun _ => []) := by
  refine Ct.of _ Tryd.func51 Tryd.ntmps51 rfl rfl (fun X W => ?_)
  refine Jc.seq ?_
  refine Jc.region ?_
  refine Jl.box rfl (by rfl) ?_
  intro b1
  refine Jl.pv (PR.assign rfl) ?_
  refine Jl.nil ?_
  refine Jq.thenN ?_
  refine Jc.seq ?_
  refine Jc.region ?_
  refine Jl.pv (PR.makeFunc rfl rfl) ?_
  refine Jl.pv (PR.assign rfl) ?_
  refine Jl.nil ?_
  refine Jq.thenN ?_
  refine Jc.ret ?_
  exact Jq.fin b1 (.inl rfl) rfl (RetVs.tmp rfl RetVs.nil) rfl (by repeat (first | exact Take.nil | apply Take.cons (by repeat (first | exact Del.here | apply Del.there)))) (by repeat (first | exact trivial | refine And.intro (by repeat (first | exact Mem.here | apply Mem.there)) ?_))
theorem rules1_it (A : Option Addr) (c b0 : Nat) (rs : List (Bool × Int)) (hn : rs.length ≤ 1000000) : It Tryd.prog 58 [.pointer (some ⟨b0, 0, none⟩)] [.blk b0 104 [.slice A rs.length c]] [.rd A (rlsV rs)] (badR rs).length (rvals rs) := by
  refine It.of _ Tryd.func58 Tryd.ntmps58 rfl rfl (by rfl) (by simp only [List.mem_singleton]; rintro φ rfl; exact Fact.rd_old _ _) (fun W l cl clx hy => ?_)
  have hrl := rlsV_len rs
  refine Jc.seq ?_
  refine Jc.region ?_
  refine Jl.pv (PR.load1 rfl tsh104 (by repeat (first | exact Has.here | apply Has.there)) (by rfl)) ?_
  refine Jl.pv (PR.len rfl tsl104) ?_
  refine Jl.pv (PR.move rfl) ?_
  refine Jl.nil ?_
  refine Jq.thenN ?_
  refine Jc.block ?_
  refine Jc.loop (σ := { k : Nat // k ≤ rs.length }) (fun s => [(7, .int .i64 (s.1 : Int)), (6, .int .i64 (rs.length : Int)), (5, .slice A rs.length c), (0, .func (.yield l) #[] #[])]) (fun _ => [.blk b0 104 [.slice A rs.length c]]) (fun s => [cl (badR (rs.take s.1)).length, .rd A (rlsV rs)]) (fun s => rs.length - s.1) ⟨0, Nat.zero_le _⟩ (by repeat (first | exact trivial | refine And.intro rfl ?_)) rfl (by repeat (first | exact trivial | refine And.intro (by repeat (first | exact Mem.here | apply Mem.there)) ?_)) ?_
  rintro ⟨k, hk⟩
  show Jc _ _ _ _ _ _ [(7, Value.int .i64 (k : Int)), (6, .int .i64 (rs.length : Int)), (5, .slice A rs.length c), (0, .func (.yield l) #[] #[])] [.blk b0 104 [.slice A rs.length c]] [cl (badR (rs.take k)).length, .rd A (rlsV rs)]
  refine Jc.seq ?_
  refine Jc.region ?_
  refine Jl.pv (PR.lss _ rfl rfl rfl) ?_
  refine Jl.nil ?_
  refine Jq.thenN ?_
  refine Jc.seq ?_
  refine Jc.cond rfl (fun hlt => ?_) (fun hlt => ?_)
  · try replace hlt := of_decide_eq_true hlt
    have hlt' : k < rs.length := by omega
    have hsc := badR_succ hlt'
    refine Jc.skip ?_
    refine Jq.thenN ?_
    refine Jc.seq ?_
    refine Jc.block ?_
    refine Jc.seq ?_
    refine Jc.region ?_
    refine Jl.pv (PR.idx k rfl rfl tsl104 (by repeat (first | exact Mem.here | apply Mem.there)) (rlsV_len _) (by omega) rfl hlt') ?_
    refine Jl.pv (PR.loadRA rfl tsh83 (by repeat (first | exact Mem.here | apply Mem.there)) (by decide) (rls_at hlt')) ?_
    refine Jl.alloc tze83 ?_
    intro b4
    refine Jl.storeW rfl tsh83 rfl (by rfl) (by simp [Value.oneCell']) (by repeat (first | exact Swap.here | apply Swap.there)) (by rfl) ?_
    refine Jl.nil ?_
    refine Jq.thenN ?_
    refine Jc.seq ?_
    refine Jc.region ?_
    refine Jl.pv (PR.fieldAddr rfl tfl83_0) ?_
    refine Jl.pv (PR.load1 rfl tsh4 (by repeat (first | exact Has.here | apply Has.there)) (by rfl)) ?_
    refine Jl.pv (PR.not rfl) ?_
    refine Jl.pv (PR.move rfl) ?_
    refine Jl.bsplit (fun g14 => ?_) (fun g14 => ?_)
    · try replace g14 := of_decide_eq_true g14
      replace g14 : rs[k].1 = false := by simpa using g14
      obtain ⟨hs1, hs2⟩ := badR_at hlt' g14
      rw [if_neg (by simp [g14])] at hsc
      refine Jl.on rfl rfl ?_
      refine Jl.pv (PR.move rfl) ?_
      refine Jl.on rfl rfl ?_
      refine Jl.pv (PR.fieldAddr rfl tfl83_1) ?_
      refine Jl.on rfl rfl ?_
      refine Jl.pv (PR.load1 rfl tsh33 (by repeat (first | exact Has.here | apply Has.there)) (by rfl)) ?_
      refine Jl.on rfl rfl ?_
      refine hy _ _ _ _ _ _ _ _ _ _ _ _ _ _ ((badR (rs.take k)).length) hs1 rfl (by show some [_] = some (rvals _ _); simp only [rvals, hs2]) (by repeat (first | exact Mem.here | apply Mem.there)) rfl ?_ ?_
      · refine Jl.on rfl rfl ?_
        refine Jl.pv (PR.not rfl) ?_
        refine Jl.pv (PR.pickT rfl rfl) ?_
        refine Jl.nil ?_
        refine Jq.thenN ?_
        refine Jc.condF rfl ?_
        refine Jc.skip ?_
        refine Jq.blkN ?_
        refine Jq.thenN ?_
        refine Jc.region ?_
        refine Jl.pv (PR.add ((k + 1 : Nat) : Int) rfl rfl (by rw [w64 (by omega) (by omega)]; rfl)) ?_
        refine Jl.pv (PR.move rfl) ?_
        refine Jl.nil ?_
        refine Jq.againT ⟨k + 1, hlt'⟩ (by simp only; omega) (by repeat (first | exact trivial | refine And.intro rfl ?_)) (by repeat (first | exact Take.nil | apply Take.cons (by repeat (first | exact Del.here | apply Del.there)))) (by rw [hsc, List.length_append]; exact ⟨(by repeat (first | exact Mem.here | apply Mem.there)), (by repeat (first | exact Mem.here | apply Mem.there)), trivial⟩)
      · refine Jl.on rfl rfl ?_
        refine Jl.pv (PR.not rfl) ?_
        refine Jl.pv (PR.pickT rfl rfl) ?_
        refine Jl.nil ?_
        refine Jq.thenN ?_
        refine Jc.condT rfl ?_
        refine Jc.ret ?_
        refine Jq.blkR ?_
        refine Jq.thenR ?_
        refine Jq.thenR ?_
        refine Jq.blkR ?_
        exact Jq.itStop (.inl rfl) hs1 (by repeat (first | exact Mem.here | apply Mem.there))
    · try replace g14 := of_decide_eq_false g14
      replace g14 : rs[k].1 = true := by simpa using g14
      rw [if_pos g14] at hsc
      refine Jl.offS rfl rfl rfl ?_
      refine Jl.offS rfl rfl rfl ?_
      refine Jl.offS rfl rfl rfl ?_
      refine Jl.offS rfl rfl rfl ?_
      refine Jl.offS rfl rfl rfl ?_
      refine Jl.pv (PR.pickF rfl rfl) ?_
      refine Jl.nil ?_
      refine Jq.thenN ?_
      refine Jc.condF rfl ?_
      refine Jc.skip ?_
      refine Jq.blkN ?_
      refine Jq.thenN ?_
      refine Jc.region ?_
      refine Jl.pv (PR.add ((k + 1 : Nat) : Int) rfl rfl (by rw [w64 (by omega) (by omega)]; rfl)) ?_
      refine Jl.pv (PR.move rfl) ?_
      refine Jl.nil ?_
      refine Jq.againT ⟨k + 1, hlt'⟩ (by simp only; omega) (by repeat (first | exact trivial | refine And.intro rfl ?_)) (by repeat (first | exact Take.nil | apply Take.cons (by repeat (first | exact Del.here | apply Del.there)))) (by rw [hsc, List.append_nil]; exact ⟨(by repeat (first | exact Mem.here | apply Mem.there)), (by repeat (first | exact Mem.here | apply Mem.there)), trivial⟩)
  · try replace hlt := of_decide_eq_false hlt
    refine Jc.exit ?_
    refine Jq.thenX ?_
    refine Jq.thenX ?_
    refine Jq.blkX ?_
    rw [show rs.take k = rs from List.take_of_length_le (by omega)]; exact Jq.itDone (.inr rfl) (by repeat (first | exact Mem.here | apply Mem.there))
theorem told_first {r : Rc} {rs : List (Bool × Int)} {k : Nat} (hk : k < (badR rs).length) (h0 : k = 0) : ∃ e, rvals rs k = [.int .i64 e] ∧ toldR r rs = (Rc.zero, e) := by
  subst h0
  have h : rs.find? (fun x => !x.1) = (badR rs)[0]? := by rw [badR, ← List.head?_eq_getElem?, List.head?_filter]
  rw [List.getElem?_eq_getElem hk] at h
  exact ⟨(badR rs)[0].2, by rw [rvals, List.getElem?_eq_getElem hk], by rw [toldR, h]⟩
theorem told_none {r : Rc} {rs : List (Bool × Int)} (h0 : (badR rs).length = 0) : toldR r rs = (r, 0) := by
  have h : rs.find? (fun x => !x.1) = (badR rs)[0]? := by rw [badR, ← List.head?_eq_getElem?, List.head?_filter]
  rw [List.getElem?_eq_none (by omega)] at h
  rw [toldR, h]
theorem told_ct (r : Rc) (x : AdC) (A : Option Addr) (c : Nat) (rs : List (Bool × Int)) (hn : rs.length ≤ 1000000) (hc : r.l.length ≤ x.2) : Ct Tryd.prog 32 [r.v x, .slice A rs.length c] [] [.rd x.1 (i64s r.l), .rd A (rlsV rs)]
    (fun y : { y : AdC // (toldR r rs).1.l.length ≤ y.2 } => .tuple #[(toldR r rs).1.v y.1, .int .i64 (toldR r rs).2]) (fun _ => []) (fun y => [.rd y.1.1 (i64s (toldR r rs).1.l)]) := by
  obtain ⟨B, cB⟩ := x
  refine Ct.of _ Tryd.func32 Tryd.ntmps32 rfl rfl (fun X W => ?_)
  refine Jc.seq ?_
  refine Jc.region ?_
  refine Jl.box rfl (by rfl) ?_
  intro b2
  refine Jl.alloc tze49 ?_
  intro b4
  refine Jl.alloc tze33 ?_
  intro b5
  refine Jl.nil ?_
  refine Jq.thenN ?_
  refine Jc.seq ?_
  refine Jc.seq ?_
  refine Jc.region ?_
  refine Jl.pv (PR.move rfl) ?_
  refine Jl.call (rules_ct A rs.length c) en51 (by rfl) (by repeat (first | exact Take.nil | apply Take.cons (by repeat (first | exact Del.here | apply Del.there)))) (by repeat (first | exact trivial | refine And.intro (by repeat (first | exact Mem.here | apply Mem.there)) ?_)) ?_
  rintro b8
  refine Jl.nil ?_
  refine Jq.thenN ?_
  refine Jc.block ?_
  refine Jc.range (σ := Unit) (τ := Int) (Inv := fun k _ => k = 0) (Rs := fun _ => [.blk b5 33 [.int .i64 0], .blk b4 49 (Rc.zero.cs (none, 0)), .blk b2 49 (r.cs (B, cB))]) (Φs := fun _ => [.rd B (i64s r.l)]) (InvX := fun e k t => e = .ret ∧ toldR r rs = (Rc.zero, t)) (RsX := fun t => [.blk b5 33 [.int .i64 t], .blk b4 49 (Rc.zero.cs (none, 0)), .blk b2 49 (r.cs (B, cB))]) (ΦsX := fun _ => []) (vals := rvals rs) rfl en58 (rules1_it A c b8 rs hn) (by repeat (first | exact Take.nil | apply Take.cons (by repeat (first | exact Del.here | apply Del.there)))) (by repeat (first | exact trivial | refine And.intro (by repeat (first | exact Mem.here | apply Mem.there)) ?_)) (rvals_len rs) rfl () rfl rfl (by repeat (first | exact trivial | refine And.intro (by repeat (first | exact Mem.here | apply Mem.there)) ?_)) ?_ ?_ ?_
  · rintro k ⟨⟩ hk hI l C1
    obtain ⟨e, hv, hf⟩ := told_first (r := r) hk hI
    rw [hv]
    show Jc _ _ _ _ _ _ (psetL [9] [.int .i64 e] _) [.blk b5 33 [.int .i64 0], .blk b4 49 (Rc.zero.cs (none, 0)), .blk b2 49 (r.cs (B, cB))] [.rd B (i64s r.l)]
    refine Jc.region ?_
    refine Jl.pv (PR.assign rfl) ?_
    refine Jl.nil ?_
    refine Jq.assigned (fun C2 => ?_)
    refine Jc.block ?_
    refine Jc.seq ?_
    refine Jc.region ?_
    refine Jl.pv (PR.build (by rfl) tze49 tpl49_ (by rfl)) ?_
    refine Jl.pv (PR.move rfl) ?_
    refine Jl.storeW rfl tsh49 rfl (by rfl) (by simp [Value.oneCell', Rc.cs]) (by repeat (first | exact Swap.here | apply Swap.there)) (by rfl) ?_
    refine Jl.store1 rfl tsh33 rfl (by rfl) (by repeat (first | exact Swap.here | apply Swap.there)) (by rfl) ?_
    refine Jl.nil ?_
    refine Jq.thenN ?_
    refine Jc.ret ?_
    refine Jq.blkR ?_
    exact Jq.nextR e ⟨rfl, hf⟩ rfl (by repeat (first | exact trivial | refine And.intro (by repeat (first | exact Mem.here | apply Mem.there)) ?_))
  · rintro ⟨⟩ D0 hI
    have hf := told_none (r := r) hI
    refine Jq.blkN ?_
    refine Jq.thenN ?_
    refine Jc.seq ?_
    refine Jc.region ?_
    refine Jl.pv (PR.loadW rfl tsh49 (by repeat (first | exact Has.here | apply Has.there)) (by rfl)) ?_
    refine Jl.storeW rfl tsh49 rfl (by rfl) (by simp [Value.oneCell', Rc.cs]) (by repeat (first | exact Swap.here | apply Swap.there)) (by rfl) ?_
    refine Jl.store1 rfl tsh33 rfl (by rfl) (by repeat (first | exact Swap.here | apply Swap.there)) (by rfl) ?_
    refine Jl.nil ?_
    refine Jq.thenN ?_
    refine Jc.ret ?_
    rw [hf]
    exact Jq.finM (Ds := [D0]) ⟨(B, cB), hc⟩ (.inl rfl) rfl (by repeat (first | exact Take.nil | apply Take.cons (by repeat (first | exact Del.here | apply Del.there)))) (RetVs.cellA rfl (by repeat (first | exact Has.here | apply Has.there)) tsh49 (by rfl) (RetVs.cell1 rfl (by repeat (first | exact Has.here | apply Has.there)) tsh33 (by rfl) RetVs.nil)) rfl (by repeat (first | exact Take.nil | apply Take.cons (by repeat (first | exact Del.here | apply Del.there)))) (by repeat (first | exact trivial | refine And.intro (by repeat (first | exact Mem.here | apply Mem.there)) ?_))
  · rintro e k t D0 hk ⟨rfl, hf⟩
    refine Jc.fact0 (.rd none (i64s Rc.zero.l)) (fun X W => Fact.rd_nil none X W) ?_
    skip
    refine Jc.ret ?_
    refine Jq.blkR ?_
    refine Jq.thenR ?_
    rw [hf]
    exact Jq.finM (Ds := [D0]) ⟨(none, 0), Nat.zero_le _⟩ (.inl rfl) rfl (by repeat (first | exact Take.nil | apply Take.cons (by repeat (first | exact Del.here | apply Del.there)))) (RetVs.cellA rfl (by repeat (first | exact Has.here | apply Has.there)) tsh49 (by rfl) (RetVs.cell1 rfl (by repeat (first | exact Has.here | apply Has.there)) tsh33 (by rfl) RetVs.nil)) rfl (by repeat (first | exact Take.nil | apply Take.cons (by repeat (first | exact Del.here | apply Del.there)))) (by repeat (first | exact trivial | refine And.intro (by repeat (first | exact Mem.here | apply Mem.there)) ?_))
theorem rec_ct (k : UInt8) (A : Option Addr) (c : Nat) (l : List Int) (hn : l.length ≤ 1000000) : Ct Tryd.prog 33 [.int .u8 k.toNat, .slice A l.length c] [] [.rd A (i64s l)] (⟨k, l⟩ : Rc).v (fun x => [(⟨k, l⟩ : Rc).row x]) (fun _ => []) := by
  refine Ct.of _ Tryd.func33 Tryd.ntmps33 rfl rfl (fun X W => ?_)
  refine Jc.seq ?_
  refine Jc.region ?_
  refine Jl.alloc tze49 ?_
  intro b4
  refine Jl.nil ?_
  refine Jq.thenN ?_
  refine Jc.seq ?_
  refine Jc.region ?_
  refine Jl.pv (PR.move rfl) ?_
  refine Jl.pv (PR.move rfl) ?_
  refine Jl.call (iclone_ct A c l (by omega)) en19 (by rfl) (by repeat (first | exact Take.nil | apply Take.cons (by repeat (first | exact Del.here | apply Del.there)))) (by repeat (first | exact trivial | refine And.intro (by repeat (first | exact Mem.here | apply Mem.there)) ?_)) ?_
  rintro ⟨A7, c7⟩
  refine Jl.pv (PR.build (by rfl) tze49 tpl49_0_1 (by rfl)) ?_
  refine Jl.storeW rfl tsh49 rfl (by rfl) (by simp [Value.oneCell', Rc.cs]) (by repeat (first | exact Swap.here | apply Swap.there)) (by rfl) ?_
  refine Jl.nil ?_
  refine Jq.thenN ?_
  refine Jc.ret ?_
  exact Jq.fin (A7, c7) (.inl rfl) rfl (RetVs.cellA rfl (by repeat (first | exact Has.here | apply Has.there)) tsh49 (by rfl) RetVs.nil) rfl (by repeat (first | exact Take.nil | apply Take.cons (by repeat (first | exact Del.here | apply Del.there)))) (by repeat (first | exact trivial | refine And.intro (by repeat (first | exact Mem.here | apply Mem.there)) ?_))
theorem aof_ct (k : UInt8) (A : Option Addr) (c : Nat) (l : List Int) (hn : l.length ≤ 1000000) : Ct Tryd.prog 10 [.int .u8 k.toNat, .slice A l.length c] [] [.rd A (i64s l)] (⟨k, l⟩ : Rc).v (fun x => [(⟨k, l⟩ : Rc).row x]) (fun _ => []) := by
  refine Ct.of _ Tryd.func10 Tryd.ntmps10 rfl rfl (fun X W => ?_)
  refine Jc.seq ?_
  refine Jc.region ?_
  refine Jl.alloc tze37 ?_
  intro b4
  refine Jl.nil ?_
  refine Jq.thenN ?_
  refine Jc.seq ?_
  refine Jc.region ?_
  refine Jl.pv (PR.move rfl) ?_
  refine Jl.pv (PR.move rfl) ?_
  refine Jl.call (iclone_ct A c l (by omega)) en19 (by rfl) (by repeat (first | exact Take.nil | apply Take.cons (by repeat (first | exact Del.here | apply Del.there)))) (by repeat (first | exact trivial | refine And.intro (by repeat (first | exact Mem.here | apply Mem.there)) ?_)) ?_
  rintro ⟨A7, c7⟩
  refine Jl.pv (PR.build (by rfl) tze37 tpl37_0_1 (by rfl)) ?_
  refine Jl.storeW rfl tsh37 rfl (by rfl) (by simp [Value.oneCell', Rc.cs]) (by repeat (first | exact Swap.here | apply Swap.there)) (by rfl) ?_
  refine Jl.nil ?_
  refine Jq.thenN ?_
  refine Jc.ret ?_
  exact Jq.fin (A7, c7) (.inl rfl) rfl (RetVs.cellA rfl (by repeat (first | exact Has.here | apply Has.there)) tsh37 (by rfl) RetVs.nil) rfl (by repeat (first | exact Take.nil | apply Take.cons (by repeat (first | exact Del.here | apply Del.there)))) (by repeat (first | exact trivial | refine And.intro (by repeat (first | exact Mem.here | apply Mem.there)) ?_))
theorem aconf_ct (c : Cf) (x : AdC) (hn : c.ms.length ≤ 1000) : Ct Tryd.prog 11 [c.v x] [] [.rd x.1 (i64s c.ms), .lim] (⟨1, c.rowN⟩ : Rc).v (fun x => [(⟨1, c.rowN⟩ : Rc).row x]) (fun _ => []) := by
  have hl : c.rowN.length ≤ 1000000 := by by_cases h : c.ok = true; rw [cf_row_len h]; omega; rw [row_no h]; simp
  refine Ct.of _ Tryd.func11 Tryd.ntmps11 rfl rfl (fun X W => ?_)
  refine Jc.seq ?_
  refine Jc.region ?_
  refine Jl.box rfl (by rfl) ?_
  intro b1
  refine Jl.alloc tze37 ?_
  intro b2
  refine Jl.nil ?_
  refine Jq.thenN ?_
  refine Jc.seq ?_
  refine Jc.region ?_
  refine Jl.pv (PR.loadW rfl tsh24 (by repeat (first | exact Has.here | apply Has.there)) (by rfl)) ?_
  refine Jl.call (crow_ct c x hn) en20 (by rfl) (by repeat (first | exact Take.nil | apply Take.cons (by repeat (first | exact Del.here | apply Del.there)))) (by repeat (first | exact trivial | refine And.intro (by repeat (first | exact Mem.here | apply Mem.there)) ?_)) ?_
  rintro ⟨A7, c7⟩
  refine Jl.sealR (by repeat (first | exact Del.here | apply Del.there)) ?_
  refine Jl.pv (PR.move rfl) ?_
  refine Jl.pv (PR.extract rfl (by rfl)) ?_
  refine Jl.pv (PR.extract rfl (by rfl)) ?_
  refine Jl.pv (PR.assign rfl) ?_
  refine Jl.pv (PR.assign rfl) ?_
  refine Jl.nil ?_
  refine Jq.thenN ?_
  refine Jc.seq ?_
  refine Jc.region ?_
  refine Jl.pv (PR.move rfl) ?_
  refine Jl.call (aof_ct 1 A7 c7 c.rowN hl) en10 (by rfl) (by repeat (first | exact Take.nil | apply Take.cons (by repeat (first | exact Del.here | apply Del.there)))) (by repeat (first | exact trivial | refine And.intro (by repeat (first | exact Mem.here | apply Mem.there)) ?_)) ?_
  rintro ⟨A11, c11⟩
  refine Jl.storeW rfl tsh37 rfl (by rfl) (by simp [Value.oneCell', Cf.cs, Rc.cs]) (by repeat (first | exact Swap.here | apply Swap.there)) (by rfl) ?_
  refine Jl.nil ?_
  refine Jq.thenN ?_
  refine Jc.ret ?_
  exact Jq.fin (A11, c11) (.inl rfl) rfl (RetVs.cellA rfl (by repeat (first | exact Has.here | apply Has.there)) tsh37 (by rfl) RetVs.nil) rfl (by repeat (first | exact Take.nil | apply Take.cons (by repeat (first | exact Del.here | apply Del.there)))) (by repeat (first | exact trivial | refine And.intro (by repeat (first | exact Mem.here | apply Mem.there)) ?_))
end Go.Proofs.YtcppphgpbaablaaDoor
