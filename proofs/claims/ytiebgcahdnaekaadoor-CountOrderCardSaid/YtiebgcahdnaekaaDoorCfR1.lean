/-
Contracts of the reference of groups: Check, Bound.
-/
import Derived.Test.YtiebgcahdnaekaaDoorCfA
namespace Go.Proofs.YtiebgcahdnaekaaDoor
set_option linter.unusedVariables false
open Go.RowKit
attribute [local irreducible] Res.blk Res.row Fact.rd
theorem rwithin_ct (n lo hi : Int) : Ct Tryd.prog 36 [.int .i64 n, .int .i64 lo, .int .i64 hi] [] [] (fun _ : Unit => .bool (inB n (lo, hi))) (fun _ => []) (fun _ => []) := by
  refine Ct.of _ Tryd.func36 Tryd.ntmps36 rfl rfl (fun X W => ?_)
  refine Jc.seq ?_
  refine Jc.region ?_
  refine Jl.pv (PR.assign rfl) ?_
  refine Jl.nil ?_
  refine Jq.thenN ?_
  refine Jc.seq ?_
  refine Jc.region ?_
  refine Jl.pv (PR.move rfl) ?_
  refine Jl.pv (PR.move rfl) ?_
  refine Jl.pv (PR.geq _ rfl rfl rfl) ?_
  refine Jl.pv (PR.move rfl) ?_
  refine Jl.bsplit (fun g10 => ?_) (fun g10 => ?_)
  · try replace g10 := of_decide_eq_true g10
    refine Jl.on rfl rfl ?_
    refine Jl.pv (PR.move rfl) ?_
    refine Jl.on rfl rfl ?_
    refine Jl.pv (PR.move rfl) ?_
    refine Jl.on rfl rfl ?_
    refine Jl.pv (PR.leq _ rfl rfl rfl) ?_
    refine Jl.pv (PR.pickT rfl rfl) ?_
    refine Jl.pv (PR.assign rfl) ?_
    refine Jl.nil ?_
    refine Jq.thenN ?_
    refine Jc.ret ?_
    exact Jq.fin () (.inl rfl) rfl (RetVs.tmp rfl RetVs.nil) (by simp [retval, inB]; omega) (by repeat (first | exact Take.nil | apply Take.cons (by repeat (first | exact Del.here | apply Del.there)))) (by repeat (first | exact trivial | refine And.intro (by repeat (first | exact Mem.here | apply Mem.there)) ?_))
  · try replace g10 := of_decide_eq_false g10
    refine Jl.offS rfl rfl rfl ?_
    refine Jl.offS rfl rfl rfl ?_
    refine Jl.offS rfl rfl rfl ?_
    refine Jl.pv (PR.pickF rfl rfl) ?_
    refine Jl.pv (PR.assign rfl) ?_
    refine Jl.nil ?_
    refine Jq.thenN ?_
    refine Jc.ret ?_
    exact Jq.fin () (.inl rfl) rfl (RetVs.tmp rfl RetVs.nil) (by simp [retval, inB]; omega) (by repeat (first | exact Take.nil | apply Take.cons (by repeat (first | exact Del.here | apply Del.there)))) (by repeat (first | exact trivial | refine And.intro (by repeat (first | exact Mem.here | apply Mem.there)) ?_))
theorem rfloor_ct (c : Cf) (x : AdC) (h1 : 0 ≤ c.d ∧ c.d ≤ 6) (h2 : 0 ≤ c.mn ∧ c.mn ≤ 100) : Ct Tryd.prog 37 [c.v x] [] [] (fun _ : Unit => .int .i64 c.fl) (fun _ => []) (fun _ => []) := by
  have hdm := dm_le h1 h2
  refine Ct.of _ Tryd.func37 Tryd.ntmps37 rfl rfl (fun X W => ?_)
  refine Jc.seq ?_
  refine Jc.region ?_
  refine Jl.box rfl (by rfl) ?_
  intro b1
  refine Jl.pv (PR.assign rfl) ?_
  refine Jl.nil ?_
  refine Jq.thenN ?_
  refine Jc.seq ?_
  refine Jc.region ?_
  refine Jl.pv (PR.fieldAddr rfl tfl24_0) ?_
  refine Jl.pv (PR.load1 rfl tsh3 (by repeat (first | exact Has.here | apply Has.there)) (by rfl)) ?_
  refine Jl.pv (PR.fieldAddr rfl tfl24_1) ?_
  refine Jl.pv (PR.load1 rfl tsh3 (by repeat (first | exact Has.here | apply Has.there)) (by rfl)) ?_
  refine Jl.pv (PR.mul _ rfl rfl (w64 (by omega) (by omega))) ?_
  refine Jl.pv (PR.add _ rfl rfl (w64 (by omega) (by omega))) ?_
  refine Jl.pv (PR.quo c.fl rfl rfl (by decide) (by rw [Int.tdiv_eq_ediv_of_nonneg (by omega)]; exact w64 (by omega) (by omega))) ?_
  refine Jl.pv (PR.assign rfl) ?_
  refine Jl.nil ?_
  refine Jq.thenN ?_
  refine Jc.ret ?_
  exact Jq.fin () (.inl rfl) rfl (RetVs.tmp rfl RetVs.nil) rfl (by repeat (first | exact Take.nil | apply Take.cons (by repeat (first | exact Del.here | apply Del.there)))) (by repeat (first | exact trivial | refine And.intro (by repeat (first | exact Mem.here | apply Mem.there)) ?_))
theorem rcheck_ct (c : Cf) (x : AdC) (hn : c.ms.length ≤ 1000000) : Ct Tryd.prog 19 [c.v x] [] [.rd x.1 (i64s c.ms)] (fun _ : Unit => .int .i64 c.chk) (fun _ => []) (fun _ => []) := by
  obtain ⟨A, cA⟩ := x
  refine Ct.of _ Tryd.func19 Tryd.ntmps19 rfl rfl (fun X W => ?_)
  refine Jc.seq ?_
  refine Jc.region ?_
  refine Jl.box rfl (by rfl) ?_
  intro b1
  refine Jl.pv (PR.assign rfl) ?_
  refine Jl.nil ?_
  refine Jq.thenN ?_
  refine Jc.seq ?_
  refine Jc.seq ?_
  refine Jc.region ?_
  refine Jl.pv (PR.fieldAddr rfl tfl24_0) ?_
  refine Jl.pv (PR.load1 rfl tsh3 (by repeat (first | exact Has.here | apply Has.there)) (by rfl)) ?_
  refine Jl.call (rwithin_ct c.d 0 6) en36 (by rfl) (by repeat (first | exact Take.nil | apply Take.cons (by repeat (first | exact Del.here | apply Del.there)))) (by repeat (first | exact trivial | refine And.intro (by repeat (first | exact Mem.here | apply Mem.there)) ?_)) ?_
  rintro ⟨⟩
  refine Jl.pv (PR.not rfl) ?_
  refine Jl.pv (PR.move rfl) ?_
  refine Jl.bsplit (fun g10 => ?_) (fun g10 => ?_)
  · try replace g10 := of_decide_eq_true g10
    refine Jl.offS rfl rfl rfl ?_
    refine Jl.offS rfl rfl rfl ?_
    refine Jl.offS rfl rfl rfl ?_
    refine Jl.offS rfl rfl rfl ?_
    refine Jl.pv (PR.pickT rfl rfl) ?_
    refine Jl.pv (PR.move rfl) ?_
    refine Jl.offS rfl rfl rfl ?_
    refine Jl.offS rfl rfl rfl ?_
    refine Jl.offS rfl rfl rfl ?_
    refine Jl.offS rfl rfl rfl ?_
    refine Jl.pv (PR.pickT rfl rfl) ?_
    refine Jl.pv (PR.move rfl) ?_
    refine Jl.offS rfl rfl rfl ?_
    refine Jl.offS rfl rfl rfl ?_
    refine Jl.offS rfl rfl rfl ?_
    refine Jl.offS rfl rfl rfl ?_
    refine Jl.pv (PR.pickT rfl rfl) ?_
    refine Jl.nil ?_
    refine Jq.thenN ?_
    refine Jc.condT rfl ?_
    refine Jc.seq ?_
    refine Jc.region ?_
    refine Jl.pv (PR.assign rfl) ?_
    refine Jl.nil ?_
    refine Jq.thenN ?_
    refine Jc.ret ?_
    refine Jq.thenR ?_
    exact Jq.fin () (.inl rfl) rfl (RetVs.tmp rfl RetVs.nil) (by rw [c.chk_no (no_at 0 (by omega) (not_true g10))]; rfl) (by repeat (first | exact Take.nil | apply Take.cons (by repeat (first | exact Del.here | apply Del.there)))) (by repeat (first | exact trivial | refine And.intro (by repeat (first | exact Mem.here | apply Mem.there)) ?_))
  · try replace g10 := of_decide_eq_false g10
    refine Jl.on rfl rfl ?_
    refine Jl.pv (PR.fieldAddr rfl tfl24_1) ?_
    refine Jl.on rfl rfl ?_
    refine Jl.pv (PR.load1 rfl tsh3 (by repeat (first | exact Has.here | apply Has.there)) (by rfl)) ?_
    refine Jl.on rfl rfl ?_
    refine Jl.call (rwithin_ct c.mn 0 100) en36 (by rfl) (by repeat (first | exact Take.nil | apply Take.cons (by repeat (first | exact Del.here | apply Del.there)))) (by repeat (first | exact trivial | refine And.intro (by repeat (first | exact Mem.here | apply Mem.there)) ?_)) ?_
    rintro ⟨⟩
    refine Jl.on rfl rfl ?_
    refine Jl.pv (PR.not rfl) ?_
    refine Jl.pv (PR.pickF rfl rfl) ?_
    refine Jl.pv (PR.move rfl) ?_
    refine Jl.bsplit (fun g16 => ?_) (fun g16 => ?_)
    · try replace g16 := of_decide_eq_true g16
      refine Jl.offS rfl rfl rfl ?_
      refine Jl.offS rfl rfl rfl ?_
      refine Jl.offS rfl rfl rfl ?_
      refine Jl.offS rfl rfl rfl ?_
      refine Jl.pv (PR.pickT rfl rfl) ?_
      refine Jl.pv (PR.move rfl) ?_
      refine Jl.offS rfl rfl rfl ?_
      refine Jl.offS rfl rfl rfl ?_
      refine Jl.offS rfl rfl rfl ?_
      refine Jl.offS rfl rfl rfl ?_
      refine Jl.pv (PR.pickT rfl rfl) ?_
      refine Jl.nil ?_
      refine Jq.thenN ?_
      refine Jc.condT rfl ?_
      refine Jc.seq ?_
      refine Jc.region ?_
      refine Jl.pv (PR.assign rfl) ?_
      refine Jl.nil ?_
      refine Jq.thenN ?_
      refine Jc.ret ?_
      refine Jq.thenR ?_
      exact Jq.fin () (.inl rfl) rfl (RetVs.tmp rfl RetVs.nil) (by rw [c.chk_no (no_at 1 (by omega) (not_true g16))]; rfl) (by repeat (first | exact Take.nil | apply Take.cons (by repeat (first | exact Del.here | apply Del.there)))) (by repeat (first | exact trivial | refine And.intro (by repeat (first | exact Mem.here | apply Mem.there)) ?_))
    · try replace g16 := of_decide_eq_false g16
      refine Jl.on rfl rfl ?_
      refine Jl.pv (PR.fieldAddr rfl tfl24_2) ?_
      refine Jl.on rfl rfl ?_
      refine Jl.pv (PR.load1 rfl tsh3 (by repeat (first | exact Has.here | apply Has.there)) (by rfl)) ?_
      refine Jl.on rfl rfl ?_
      refine Jl.call (rwithin_ct c.su 0 3) en36 (by rfl) (by repeat (first | exact Take.nil | apply Take.cons (by repeat (first | exact Del.here | apply Del.there)))) (by repeat (first | exact trivial | refine And.intro (by repeat (first | exact Mem.here | apply Mem.there)) ?_)) ?_
      rintro ⟨⟩
      refine Jl.on rfl rfl ?_
      refine Jl.pv (PR.not rfl) ?_
      refine Jl.pv (PR.pickF rfl rfl) ?_
      refine Jl.pv (PR.move rfl) ?_
      refine Jl.bsplit (fun g22 => ?_) (fun g22 => ?_)
      · try replace g22 := of_decide_eq_true g22
        refine Jl.offS rfl rfl rfl ?_
        refine Jl.offS rfl rfl rfl ?_
        refine Jl.offS rfl rfl rfl ?_
        refine Jl.offS rfl rfl rfl ?_
        refine Jl.pv (PR.pickT rfl rfl) ?_
        refine Jl.nil ?_
        refine Jq.thenN ?_
        refine Jc.condT rfl ?_
        refine Jc.seq ?_
        refine Jc.region ?_
        refine Jl.pv (PR.assign rfl) ?_
        refine Jl.nil ?_
        refine Jq.thenN ?_
        refine Jc.ret ?_
        refine Jq.thenR ?_
        exact Jq.fin () (.inl rfl) rfl (RetVs.tmp rfl RetVs.nil) (by rw [c.chk_no (no_at 2 (by omega) (not_true g22))]; rfl) (by repeat (first | exact Take.nil | apply Take.cons (by repeat (first | exact Del.here | apply Del.there)))) (by repeat (first | exact trivial | refine And.intro (by repeat (first | exact Mem.here | apply Mem.there)) ?_))
      · try replace g22 := of_decide_eq_false g22
        refine Jl.on rfl rfl ?_
        refine Jl.pv (PR.fieldAddr rfl tfl24_3) ?_
        refine Jl.on rfl rfl ?_
        refine Jl.pv (PR.load1 rfl tsh3 (by repeat (first | exact Has.here | apply Has.there)) (by rfl)) ?_
        refine Jl.on rfl rfl ?_
        refine Jl.call (rwithin_ct c.po 0 3) en36 (by rfl) (by repeat (first | exact Take.nil | apply Take.cons (by repeat (first | exact Del.here | apply Del.there)))) (by repeat (first | exact trivial | refine And.intro (by repeat (first | exact Mem.here | apply Mem.there)) ?_)) ?_
        rintro ⟨⟩
        refine Jl.on rfl rfl ?_
        refine Jl.pv (PR.not rfl) ?_
        refine Jl.pv (PR.pickF rfl rfl) ?_
        refine Jl.nil ?_
        refine Jq.thenN ?_
        refine Jc.cond rfl (fun h0 => ?_) (fun h0 => ?_)
        · try replace h0 := of_decide_eq_true h0
          refine Jc.seq ?_
          refine Jc.region ?_
          refine Jl.pv (PR.assign rfl) ?_
          refine Jl.nil ?_
          refine Jq.thenN ?_
          refine Jc.ret ?_
          refine Jq.thenR ?_
          exact Jq.fin () (.inl rfl) rfl (RetVs.tmp rfl RetVs.nil) (by rw [c.chk_no (no_at 3 (by omega) (not_true h0))]; rfl) (by repeat (first | exact Take.nil | apply Take.cons (by repeat (first | exact Del.here | apply Del.there)))) (by repeat (first | exact trivial | refine And.intro (by repeat (first | exact Mem.here | apply Mem.there)) ?_))
        · try replace h0 := of_decide_eq_false h0
          replace g10 := not_false g10
          replace g16 := not_false g16
          replace g22 := not_false g22
          replace h0 := not_false h0
          refine Jc.skip ?_
          refine Jq.thenN ?_
          refine Jc.seq ?_
          refine Jc.region ?_
          refine Jl.pv (PR.fieldAddr rfl tfl24_4) ?_
          refine Jl.pv (PR.load1 rfl tsh3 (by repeat (first | exact Has.here | apply Has.there)) (by rfl)) ?_
          refine Jl.pv (PR.fieldAddr rfl tfl24_5) ?_
          refine Jl.pv (PR.load1 rfl tsh3 (by repeat (first | exact Has.here | apply Has.there)) (by rfl)) ?_
          refine Jl.pv (PR.fieldAddr rfl tfl24_6) ?_
          refine Jl.pv (PR.load1 rfl tsh3 (by repeat (first | exact Has.here | apply Has.there)) (by rfl)) ?_
          refine Jl.pv (PR.fieldAddr rfl tfl24_7) ?_
          refine Jl.pv (PR.load1 rfl tsh3 (by repeat (first | exact Has.here | apply Has.there)) (by rfl)) ?_
          refine Jl.pv (PR.fieldAddr rfl tfl24_11) ?_
          refine Jl.pv (PR.load1 rfl tsh3 (by repeat (first | exact Has.here | apply Has.there)) (by rfl)) ?_
          refine Jl.pv (PR.build (by rfl) tze69 tpl69_0_1_2_3_4 (by rfl)) ?_
          refine Jl.alloc tze69 ?_
          intro b3
          refine Jl.storeW rfl tsh69 rfl (by rfl) (by simp [Value.oneCell']) (by repeat (first | exact Swap.here | apply Swap.there)) (by rfl) ?_
          refine Jl.nil ?_
          refine Jq.thenN ?_
          refine Jc.seq ?_
          refine Jc.seq ?_
          refine Jc.region ?_
          refine Jl.pv (PR.assign rfl) ?_
          refine Jl.nil ?_
          refine Jq.thenN ?_
          refine Jc.block ?_
          refine Jc.loop (σ := { k : Nat // k ≤ 5 ∧ ∀ j, j < k → inB (c.wt j) (0, 20) = true }) (fun s => [(4, .int .i64 (s.1 : Int)), (3, .pointer (some ⟨b3, 0, none⟩)), (1, .pointer (some ⟨b1, 0, none⟩))]) (fun _ => [.blk b3 69 c.wts, .blk b1 24 (c.cs (A, cA))]) (fun _ => [.rd A (i64s c.ms)]) (fun s => 5 - s.1) ⟨0, by omega, fun _ h => by omega⟩ (by repeat (first | exact trivial | refine And.intro rfl ?_)) rfl (by repeat (first | exact trivial | refine And.intro (by repeat (first | exact Mem.here | apply Mem.there)) ?_)) ?_
          rintro ⟨k, hk, hW⟩
          show Jc _ _ _ _ _ _ [(4, Value.int .i64 (k : Int)), (3, .pointer (some ⟨b3, 0, none⟩)), (1, .pointer (some ⟨b1, 0, none⟩))] [.blk b3 69 c.wts, .blk b1 24 (c.cs (A, cA))] [.rd A (i64s c.ms)]
          refine Jc.seq ?_
          refine Jc.seq ?_
          refine Jc.region ?_
          refine Jl.pv (PR.move rfl) ?_
          refine Jl.pv (PR.lss _ rfl rfl rfl) ?_
          refine Jl.nil ?_
          refine Jq.thenN ?_
          refine Jc.cond rfl (fun h1 => ?_) (fun h1 => ?_)
          · try replace h1 := of_decide_eq_true h1
            have hlt : k < 5 := by omega
            refine Jc.skip ?_
            refine Jq.thenN ?_
            refine Jc.seq ?_
            refine Jc.block ?_
            refine Jc.seq ?_
            refine Jc.region ?_
            refine Jl.pv (PR.move rfl) ?_
            refine Jl.pv (PR.idxA k rfl rfl tar69 rfl hlt) ?_
            refine Jl.pv (PR.load1 rfl tsh3 (by repeat (first | exact Has.here | apply Has.there)) (wt_at c hlt)) ?_
            refine Jl.call (rwithin_ct (c.wt k) 0 20) en36 (by rfl) (by repeat (first | exact Take.nil | apply Take.cons (by repeat (first | exact Del.here | apply Del.there)))) (by repeat (first | exact trivial | refine And.intro (by repeat (first | exact Mem.here | apply Mem.there)) ?_)) ?_
            rintro ⟨⟩
            refine Jl.pv (PR.not rfl) ?_
            refine Jl.nil ?_
            refine Jq.thenN ?_
            refine Jc.cond rfl (fun h2 => ?_) (fun h2 => ?_)
            · try replace h2 := of_decide_eq_true h2
              refine Jc.seq ?_
              refine Jc.region ?_
              refine Jl.pv (PR.assign rfl) ?_
              refine Jl.nil ?_
              refine Jq.thenN ?_
              refine Jc.ret ?_
              refine Jq.blkR ?_
              refine Jq.thenR ?_
              refine Jq.thenR ?_
              refine Jq.blkR ?_
              refine Jq.thenR ?_
              exact Jq.fin () (.inl rfl) rfl (RetVs.tmp rfl RetVs.nil) (by rw [c.chk_no (wt_no hlt (not_true h2))]; rfl) (by repeat (first | exact Take.nil | apply Take.cons (by repeat (first | exact Del.here | apply Del.there)))) (by repeat (first | exact trivial | refine And.intro (by repeat (first | exact Mem.here | apply Mem.there)) ?_))
            · try replace h2 := of_decide_eq_false h2
              refine Jc.skip ?_
              refine Jq.blkN ?_
              refine Jq.thenN ?_
              refine Jc.region ?_
              refine Jl.pv (PR.move rfl) ?_
              refine Jl.pv (PR.add ((k + 1 : Nat) : Int) rfl rfl (by rw [w64 (by omega) (by omega)]; rfl)) ?_
              refine Jl.pv (PR.assign rfl) ?_
              refine Jl.nil ?_
              refine Jq.again ⟨k + 1, hlt, fun j hj => (Nat.lt_succ_iff_lt_or_eq.1 hj).elim (hW j) (fun e => by rw [e]; exact not_false h2)⟩ (by simp only; omega) (by repeat (first | exact trivial | refine And.intro rfl ?_)) rfl (by repeat (first | exact trivial | refine And.intro (by repeat (first | exact Mem.here | apply Mem.there)) ?_))
          · try replace h1 := of_decide_eq_false h1
            obtain rfl : k = 5 := by omega
            refine Jc.exit ?_
            refine Jq.thenX ?_
            refine Jq.thenX ?_
            refine Jq.blkX ?_
            refine Jq.thenN ?_
            refine Jc.seq ?_
            refine Jc.seq ?_
            refine Jc.region ?_
            refine Jl.pv (PR.fieldAddr rfl tfl24_8) ?_
            refine Jl.pv (PR.load1 rfl tsh3 (by repeat (first | exact Has.here | apply Has.there)) (by rfl)) ?_
            refine Jl.call (rwithin_ct c.re 1 20) en36 (by rfl) (by repeat (first | exact Take.nil | apply Take.cons (by repeat (first | exact Del.here | apply Del.there)))) (by repeat (first | exact trivial | refine And.intro (by repeat (first | exact Mem.here | apply Mem.there)) ?_)) ?_
            rintro ⟨⟩
            refine Jl.pv (PR.not rfl) ?_
            refine Jl.pv (PR.move rfl) ?_
            refine Jl.bsplit (fun g52 => ?_) (fun g52 => ?_)
            · try replace g52 := of_decide_eq_true g52
              refine Jl.offS rfl rfl rfl ?_
              refine Jl.offS rfl rfl rfl ?_
              refine Jl.offS rfl rfl rfl ?_
              refine Jl.offS rfl rfl rfl ?_
              refine Jl.pv (PR.pickT rfl rfl) ?_
              refine Jl.pv (PR.move rfl) ?_
              refine Jl.offS rfl rfl rfl ?_
              refine Jl.offS rfl rfl rfl ?_
              refine Jl.offS rfl rfl rfl ?_
              refine Jl.offS rfl rfl rfl ?_
              refine Jl.pv (PR.pickT rfl rfl) ?_
              refine Jl.pv (PR.move rfl) ?_
              refine Jl.offS rfl rfl rfl ?_
              refine Jl.offS rfl rfl rfl ?_
              refine Jl.offS rfl rfl rfl ?_
              refine Jl.offS rfl rfl rfl ?_
              refine Jl.pv (PR.pickT rfl rfl) ?_
              refine Jl.pv (PR.move rfl) ?_
              refine Jl.offS rfl rfl rfl ?_
              refine Jl.offS rfl rfl rfl ?_
              refine Jl.offS rfl rfl rfl ?_
              refine Jl.offS rfl rfl rfl ?_
              refine Jl.pv (PR.pickT rfl rfl) ?_
              refine Jl.nil ?_
              refine Jq.thenN ?_
              refine Jc.condT rfl ?_
              refine Jc.seq ?_
              refine Jc.region ?_
              refine Jl.pv (PR.assign rfl) ?_
              refine Jl.nil ?_
              refine Jq.thenN ?_
              refine Jc.ret ?_
              refine Jq.thenR ?_
              exact Jq.fin () (.inl rfl) rfl (RetVs.tmp rfl RetVs.nil) (by rw [c.chk_no (no_at 8 (by omega) (not_true g52))]; rfl) (by repeat (first | exact Take.nil | apply Take.cons (by repeat (first | exact Del.here | apply Del.there)))) (by repeat (first | exact trivial | refine And.intro (by repeat (first | exact Mem.here | apply Mem.there)) ?_))
            · try replace g52 := of_decide_eq_false g52
              refine Jl.on rfl rfl ?_
              refine Jl.pv (PR.fieldAddr rfl tfl24_9) ?_
              refine Jl.on rfl rfl ?_
              refine Jl.pv (PR.load1 rfl tsh3 (by repeat (first | exact Has.here | apply Has.there)) (by rfl)) ?_
              refine Jl.on rfl rfl ?_
              refine Jl.call (rwithin_ct c.ti 1 20) en36 (by rfl) (by repeat (first | exact Take.nil | apply Take.cons (by repeat (first | exact Del.here | apply Del.there)))) (by repeat (first | exact trivial | refine And.intro (by repeat (first | exact Mem.here | apply Mem.there)) ?_)) ?_
              rintro ⟨⟩
              refine Jl.on rfl rfl ?_
              refine Jl.pv (PR.not rfl) ?_
              refine Jl.pv (PR.pickF rfl rfl) ?_
              refine Jl.pv (PR.move rfl) ?_
              refine Jl.bsplit (fun g58 => ?_) (fun g58 => ?_)
              · try replace g58 := of_decide_eq_true g58
                refine Jl.offS rfl rfl rfl ?_
                refine Jl.offS rfl rfl rfl ?_
                refine Jl.offS rfl rfl rfl ?_
                refine Jl.offS rfl rfl rfl ?_
                refine Jl.pv (PR.pickT rfl rfl) ?_
                refine Jl.pv (PR.move rfl) ?_
                refine Jl.offS rfl rfl rfl ?_
                refine Jl.offS rfl rfl rfl ?_
                refine Jl.offS rfl rfl rfl ?_
                refine Jl.offS rfl rfl rfl ?_
                refine Jl.pv (PR.pickT rfl rfl) ?_
                refine Jl.pv (PR.move rfl) ?_
                refine Jl.offS rfl rfl rfl ?_
                refine Jl.offS rfl rfl rfl ?_
                refine Jl.offS rfl rfl rfl ?_
                refine Jl.offS rfl rfl rfl ?_
                refine Jl.pv (PR.pickT rfl rfl) ?_
                refine Jl.nil ?_
                refine Jq.thenN ?_
                refine Jc.condT rfl ?_
                refine Jc.seq ?_
                refine Jc.region ?_
                refine Jl.pv (PR.assign rfl) ?_
                refine Jl.nil ?_
                refine Jq.thenN ?_
                refine Jc.ret ?_
                refine Jq.thenR ?_
                exact Jq.fin () (.inl rfl) rfl (RetVs.tmp rfl RetVs.nil) (by rw [c.chk_no (no_at 9 (by omega) (not_true g58))]; rfl) (by repeat (first | exact Take.nil | apply Take.cons (by repeat (first | exact Del.here | apply Del.there)))) (by repeat (first | exact trivial | refine And.intro (by repeat (first | exact Mem.here | apply Mem.there)) ?_))
              · try replace g58 := of_decide_eq_false g58
                refine Jl.on rfl rfl ?_
                refine Jl.pv (PR.fieldAddr rfl tfl24_10) ?_
                refine Jl.on rfl rfl ?_
                refine Jl.pv (PR.load1 rfl tsh3 (by repeat (first | exact Has.here | apply Has.there)) (by rfl)) ?_
                refine Jl.on rfl rfl ?_
                refine Jl.call (rwithin_ct c.fa 1 20) en36 (by rfl) (by repeat (first | exact Take.nil | apply Take.cons (by repeat (first | exact Del.here | apply Del.there)))) (by repeat (first | exact trivial | refine And.intro (by repeat (first | exact Mem.here | apply Mem.there)) ?_)) ?_
                rintro ⟨⟩
                refine Jl.on rfl rfl ?_
                refine Jl.pv (PR.not rfl) ?_
                refine Jl.pv (PR.pickF rfl rfl) ?_
                refine Jl.pv (PR.move rfl) ?_
                refine Jl.bsplit (fun g64 => ?_) (fun g64 => ?_)
                · try replace g64 := of_decide_eq_true g64
                  refine Jl.offS rfl rfl rfl ?_
                  refine Jl.offS rfl rfl rfl ?_
                  refine Jl.offS rfl rfl rfl ?_
                  refine Jl.offS rfl rfl rfl ?_
                  refine Jl.pv (PR.pickT rfl rfl) ?_
                  refine Jl.pv (PR.move rfl) ?_
                  refine Jl.offS rfl rfl rfl ?_
                  refine Jl.offS rfl rfl rfl ?_
                  refine Jl.offS rfl rfl rfl ?_
                  refine Jl.offS rfl rfl rfl ?_
                  refine Jl.pv (PR.pickT rfl rfl) ?_
                  refine Jl.nil ?_
                  refine Jq.thenN ?_
                  refine Jc.condT rfl ?_
                  refine Jc.seq ?_
                  refine Jc.region ?_
                  refine Jl.pv (PR.assign rfl) ?_
                  refine Jl.nil ?_
                  refine Jq.thenN ?_
                  refine Jc.ret ?_
                  refine Jq.thenR ?_
                  exact Jq.fin () (.inl rfl) rfl (RetVs.tmp rfl RetVs.nil) (by rw [c.chk_no (no_at 10 (by omega) (not_true g64))]; rfl) (by repeat (first | exact Take.nil | apply Take.cons (by repeat (first | exact Del.here | apply Del.there)))) (by repeat (first | exact trivial | refine And.intro (by repeat (first | exact Mem.here | apply Mem.there)) ?_))
                · try replace g64 := of_decide_eq_false g64
                  refine Jl.on rfl rfl ?_
                  refine Jl.pv (PR.fieldAddr rfl tfl24_12) ?_
                  refine Jl.on rfl rfl ?_
                  refine Jl.pv (PR.load1 rfl tsh3 (by repeat (first | exact Has.here | apply Has.there)) (by rfl)) ?_
                  refine Jl.on rfl rfl ?_
                  refine Jl.call (rwithin_ct c.ve 1 1099511627776) en36 (by rfl) (by repeat (first | exact Take.nil | apply Take.cons (by repeat (first | exact Del.here | apply Del.there)))) (by repeat (first | exact trivial | refine And.intro (by repeat (first | exact Mem.here | apply Mem.there)) ?_)) ?_
                  rintro ⟨⟩
                  refine Jl.on rfl rfl ?_
                  refine Jl.pv (PR.not rfl) ?_
                  refine Jl.pv (PR.pickF rfl rfl) ?_
                  refine Jl.pv (PR.move rfl) ?_
                  refine Jl.bsplit (fun g70 => ?_) (fun g70 => ?_)
                  · try replace g70 := of_decide_eq_true g70
                    refine Jl.offS rfl rfl rfl ?_
                    refine Jl.offS rfl rfl rfl ?_
                    refine Jl.offS rfl rfl rfl ?_
                    refine Jl.offS rfl rfl rfl ?_
                    refine Jl.pv (PR.pickT rfl rfl) ?_
                    refine Jl.nil ?_
                    refine Jq.thenN ?_
                    refine Jc.condT rfl ?_
                    refine Jc.seq ?_
                    refine Jc.region ?_
                    refine Jl.pv (PR.assign rfl) ?_
                    refine Jl.nil ?_
                    refine Jq.thenN ?_
                    refine Jc.ret ?_
                    refine Jq.thenR ?_
                    exact Jq.fin () (.inl rfl) rfl (RetVs.tmp rfl RetVs.nil) (by rw [c.chk_no (no_at 12 (by omega) (not_true g70))]; rfl) (by repeat (first | exact Take.nil | apply Take.cons (by repeat (first | exact Del.here | apply Del.there)))) (by repeat (first | exact trivial | refine And.intro (by repeat (first | exact Mem.here | apply Mem.there)) ?_))
                  · try replace g70 := of_decide_eq_false g70
                    refine Jl.on rfl rfl ?_
                    refine Jl.pv (PR.fieldAddr rfl tfl24_14) ?_
                    refine Jl.on rfl rfl ?_
                    refine Jl.pv (PR.load1 rfl tsh22 (by repeat (first | exact Has.here | apply Has.there)) (by rfl)) ?_
                    refine Jl.on rfl rfl ?_
                    refine Jl.pv (PR.len rfl tsl22) ?_
                    refine Jl.on rfl rfl ?_
                    refine Jl.pv (PR.gtr _ rfl rfl rfl) ?_
                    refine Jl.pv (PR.pickF rfl rfl) ?_
                    refine Jl.nil ?_
                    refine Jq.thenN ?_
                    refine Jc.cond rfl (fun h3 => ?_) (fun h3 => ?_)
                    · try replace h3 := of_decide_eq_true h3
                      refine Jc.seq ?_
                      refine Jc.region ?_
                      refine Jl.pv (PR.assign rfl) ?_
                      refine Jl.nil ?_
                      refine Jq.thenN ?_
                      refine Jc.ret ?_
                      refine Jq.thenR ?_
                      exact Jq.fin () (.inl rfl) rfl (RetVs.tmp rfl RetVs.nil) (by rw [c.chk_no (fun h => by have := Cf.ok_m h; omega)]; rfl) (by repeat (first | exact Take.nil | apply Take.cons (by repeat (first | exact Del.here | apply Del.there)))) (by repeat (first | exact trivial | refine And.intro (by repeat (first | exact Mem.here | apply Mem.there)) ?_))
                    · try replace h3 := of_decide_eq_false h3
                      have hfo : c.fOk = true := fOk_mk g10 g16 g22 h0 hW (not_false g52) (not_false g58) (not_false g64) (not_false g70)
                      have hm4 : c.ms.length ≤ 4 := by omega
                      refine Jc.skip ?_
                      refine Jq.thenN ?_
                      refine Jc.seq ?_
                      refine Jc.seq ?_
                      refine Jc.region ?_
                      refine Jl.pv (PR.assign rfl) ?_
                      refine Jl.nil ?_
                      refine Jq.thenN ?_
                      refine Jc.block ?_
                      refine Jc.lessR (rs := [.blk b1 24 (c.cs (A, cA))]) (by repeat (first | exact Take.nil | apply Take.cons (by repeat (first | exact Del.here | apply Del.there)))) ?_
                      refine Jc.loop (σ := { k : Nat // k ≤ c.ms.length ∧ ∀ j, j < k → mOkAt c.ms j = true }) (fun s => [(5, .int .i64 (s.1 : Int)), (1, .pointer (some ⟨b1, 0, none⟩))]) (fun _ => [.blk b1 24 (c.cs (A, cA))]) (fun _ => [.rd A (i64s c.ms)]) (fun s => c.ms.length - s.1) ⟨0, Nat.zero_le _, fun _ h => by omega⟩ (by repeat (first | exact trivial | refine And.intro rfl ?_)) rfl (by repeat (first | exact trivial | refine And.intro (by repeat (first | exact Mem.here | apply Mem.there)) ?_)) ?_
                      rintro ⟨k, hk, hM⟩
                      show Jc _ _ _ _ _ _ [(5, Value.int .i64 (k : Int)), (1, .pointer (some ⟨b1, 0, none⟩))] [.blk b1 24 (c.cs (A, cA))] [.rd A (i64s c.ms)]
                      refine Jc.seq ?_
                      refine Jc.seq ?_
                      refine Jc.region ?_
                      refine Jl.pv (PR.move rfl) ?_
                      refine Jl.pv (PR.fieldAddr rfl tfl24_14) ?_
                      refine Jl.pv (PR.load1 rfl tsh22 (by repeat (first | exact Has.here | apply Has.there)) (by rfl)) ?_
                      refine Jl.pv (PR.len rfl tsl22) ?_
                      refine Jl.pv (PR.lss _ rfl rfl rfl) ?_
                      refine Jl.nil ?_
                      refine Jq.thenN ?_
                      refine Jc.cond rfl (fun h4 => ?_) (fun h4 => ?_)
                      · try replace h4 := of_decide_eq_true h4
                        have hlt : k < c.ms.length := by omega
                        refine Jc.skip ?_
                        refine Jq.thenN ?_
                        refine Jc.seq ?_
                        refine Jc.block ?_
                        refine Jc.seq ?_
                        refine Jc.drawn [0, 1, 0, 7, 15, 31, 63, 127, 255, 511, 1023, 2047, 4095, 2047, 10239, 32767, 65535, 2047, 133119, 2047, 919551, 1968127, 4194303, 8388607, 16777215] ([(6, false), (7, false), (8, false), (9, false), (10, false), (11, false), (12, false), (13, false), (14, false), (15, false), (16, false), (17, false), (18, false), (19, false), (20, false), (21, false), (22, false), (23, false), (24, false)], []) [⟨[(0, false), (1, false), (2, false), (3, false), (4, false)], [], 5⟩] tmx (by kernel_rfl) ?_
                        refine Dh.JH.cons ?_
                        refine Dh.JB.pv rfl trivial (fun _ => PR.fieldAddr rfl tfl24_14) ?_
                        refine Dh.JB.rd [.blk _ _ _] rfl trivial (by repeat (first | exact Take.nil | apply Take.cons (by repeat (first | exact Del.here | apply Del.there)))) (fun _ => PR.load1 rfl tsh22 Has.here (by rfl)) ?_
                        refine Dh.JB.pv rfl trivial (fun _ => PR.move rfl) ?_
                        refine Dh.JB.pv rfl trivial (fun _ => PR.idx1 k rfl rfl tsl22 (by repeat (first | exact Mem.here | apply Mem.there)) (by simp) rfl hlt) ?_
                        refine Dh.JB.pv rfl trivial (fun _ => PR.loadR rfl tsh3 (by repeat (first | exact Mem.here | apply Mem.there)) (getm hlt)) ?_
                        refine Dh.JB.nil ?_
                        refine Dh.JL.nil ?_
                        refine Dh.JE.mk rfl (fun _ h => by cases h) (fun C14_5 => ?_)
                        refine Jl.call (rwithin_ct c.ms[k] 1 100) en36 (by rfl) (by repeat (first | exact Take.nil | apply Take.cons (by repeat (first | exact Del.here | apply Del.there)))) (by repeat (first | exact trivial | refine And.intro (by repeat (first | exact Mem.here | apply Mem.there)) ?_)) ?_
                        rintro ⟨⟩
                        refine Jl.nil ?_
                        refine Dh.Jq.segV (by repeat (first | exact Dh.FExt.refl | apply Dh.FExt.cons | apply Dh.FExt.app)) ?_ (by repeat (first | exact Dh.KeepL.nil | apply Dh.KeepL.anc (by rfl) | apply Dh.KeepL.keep (by repeat (first | exact Take.nil | apply Take.cons (by repeat (first | exact Del.here | apply Del.there))))))
                        refine Dh.JH.nil ?_
                        refine Dh.JB.pv rfl trivial (fun _ => PR.not rfl) ?_
                        refine Dh.JB.pv rfl trivial (fun _ => PR.move rfl) ?_
                        refine Dh.JB.bsplit (fun g90 => ?_) (fun g90 => ?_)
                        · try replace g90 := of_decide_eq_true g90
                          replace g90 := not_true g90
                          refine Dh.JB.off rfl ⟨_, rfl, .inr rfl⟩ ?_
                          refine Dh.JB.off rfl ⟨_, rfl, .inr rfl⟩ ?_
                          refine Dh.JB.off rfl ⟨_, rfl, .inr rfl⟩ ?_
                          refine Dh.JB.off rfl ⟨_, rfl, .inl rfl⟩ ?_
                          refine Dh.JB.off rfl ⟨_, rfl, .inl rfl⟩ ?_
                          refine Dh.JB.off rfl ⟨_, rfl, .inl rfl⟩ ?_
                          refine Dh.JB.off rfl ⟨_, rfl, .inl rfl⟩ ?_
                          refine Dh.JB.off rfl ⟨_, rfl, .inl rfl⟩ ?_
                          refine Dh.JB.off rfl ⟨_, rfl, .inl rfl⟩ ?_
                          refine Dh.JB.off rfl ⟨_, rfl, .inl rfl⟩ ?_
                          refine Dh.JB.off rfl ⟨_, rfl, .inl rfl⟩ ?_
                          refine Dh.JB.off rfl ⟨_, rfl, .inl rfl⟩ ?_
                          refine Dh.JB.off rfl ⟨_, rfl, .inl rfl⟩ ?_
                          refine Dh.JB.off rfl ⟨_, rfl, .inl rfl⟩ ?_
                          refine Dh.JB.off rfl ⟨_, rfl, .inl rfl⟩ ?_
                          refine Dh.JB.off rfl ⟨_, rfl, .inr rfl⟩ ?_
                          refine Dh.JB.pv rfl trivial (fun _ => PR.pickT rfl rfl) ?_
                          refine Dh.JB.nil ?_
                          refine Dh.JL.nil ?_
                          refine Jq.thenN ?_
                          refine Jc.condT rfl ?_
                          refine Jc.seq ?_
                          refine Jc.region ?_
                          refine Jl.pv (PR.assign rfl) ?_
                          refine Jl.nil ?_
                          refine Jq.thenN ?_
                          refine Jc.ret ?_
                          refine Jq.blkR ?_
                          refine Jq.thenR ?_
                          refine Jq.thenR ?_
                          refine Jq.blkR ?_
                          refine Jq.thenR ?_
                          exact Jq.fin () (.inl rfl) rfl (RetVs.tmp rfl RetVs.nil) (by rw [c.chk_no (fun h => mOkAt_1 hlt g90 (Cf.ok_s h))]; rfl) (by repeat (first | exact Take.nil | apply Take.cons (by repeat (first | exact Del.here | apply Del.there)))) (by repeat (first | exact trivial | refine And.intro (by repeat (first | exact Mem.here | apply Mem.there)) ?_))
                        · try replace g90 := of_decide_eq_false g90
                          replace g90 := not_false g90
                          refine Dh.JB.pv rfl ⟨_, rfl, rfl⟩ (fun _ => PR.move rfl) ?_
                          refine Dh.JB.pv rfl ⟨_, rfl, rfl⟩ (fun _ => PR.gtr _ rfl rfl rfl) ?_
                          refine Dh.JB.pv rfl ⟨_, rfl, rfl⟩ (fun _ => PR.move rfl) ?_
                          refine Dh.JB.bsplit (fun g93 => ?_) (fun g93 => ?_)
                          · try replace g93 := of_decide_eq_true g93
                            refine Dh.JB.pv rfl ⟨_, rfl, rfl⟩ (fun _ => PR.fieldAddr rfl tfl24_14) ?_
                            refine Dh.JB.rd [.blk _ _ _] rfl ⟨_, rfl, rfl⟩ (by repeat (first | exact Take.nil | apply Take.cons (by repeat (first | exact Del.here | apply Del.there)))) (fun _ => PR.load1 rfl tsh22 Has.here (by rfl)) ?_
                            refine Dh.JB.pv rfl ⟨_, rfl, rfl⟩ (fun _ => PR.move rfl) ?_
                            refine Dh.JB.pv rfl ⟨_, rfl, rfl⟩ (fun _ => PR.sub ((k - 1 : Nat) : Int) rfl rfl (by rw [w64 (by omega) (by omega)]; omega)) ?_
                            refine Dh.JB.pv rfl ⟨_, rfl, rfl⟩ (fun _ => PR.idx1 (k - 1) rfl rfl tsl22 (by repeat (first | exact Mem.here | apply Mem.there)) (by simp) rfl (by omega)) ?_
                            refine Dh.JB.pv rfl ⟨_, rfl, rfl⟩ (fun _ => PR.loadR rfl tsh3 (by repeat (first | exact Mem.here | apply Mem.there)) (getm (show k - 1 < c.ms.length by omega))) ?_
                            refine Dh.JB.pv rfl ⟨_, rfl, rfl⟩ (fun _ => PR.fieldAddr rfl tfl24_14) ?_
                            refine Dh.JB.rd [.blk _ _ _] rfl ⟨_, rfl, rfl⟩ (by repeat (first | exact Take.nil | apply Take.cons (by repeat (first | exact Del.here | apply Del.there)))) (fun _ => PR.load1 rfl tsh22 Has.here (by rfl)) ?_
                            refine Dh.JB.pv rfl ⟨_, rfl, rfl⟩ (fun _ => PR.move rfl) ?_
                            refine Dh.JB.pv rfl ⟨_, rfl, rfl⟩ (fun _ => PR.idx1 k rfl rfl tsl22 (by repeat (first | exact Mem.here | apply Mem.there)) (by simp) rfl hlt) ?_
                            refine Dh.JB.pv rfl ⟨_, rfl, rfl⟩ (fun _ => PR.loadR rfl tsh3 (by repeat (first | exact Mem.here | apply Mem.there)) (getm hlt)) ?_
                            refine Dh.JB.pv rfl ⟨_, rfl, rfl⟩ (fun _ => PR.geq _ rfl rfl rfl) ?_
                            refine Dh.JB.pv rfl ⟨_, rfl, rfl⟩ (fun _ => PR.pickT rfl rfl) ?_
                            refine Dh.JB.pv rfl trivial (fun _ => PR.pickF rfl rfl) ?_
                            refine Dh.JB.nil ?_
                            refine Dh.JL.nil ?_
                            refine Jq.thenN ?_
                            refine Jc.cond rfl (fun h5 => ?_) (fun h5 => ?_)
                            · try replace h5 := of_decide_eq_true h5
                              refine Jc.seq ?_
                              refine Jc.region ?_
                              refine Jl.pv (PR.assign rfl) ?_
                              refine Jl.nil ?_
                              refine Jq.thenN ?_
                              refine Jc.ret ?_
                              refine Jq.blkR ?_
                              refine Jq.thenR ?_
                              refine Jq.thenR ?_
                              refine Jq.blkR ?_
                              refine Jq.thenR ?_
                              exact Jq.fin () (.inl rfl) rfl (RetVs.tmp rfl RetVs.nil) (by rw [c.chk_no (fun h => mOkAt_2 hlt (by omega) (by omega) (Cf.ok_s h))]; rfl) (by repeat (first | exact Take.nil | apply Take.cons (by repeat (first | exact Del.here | apply Del.there)))) (by repeat (first | exact trivial | refine And.intro (by repeat (first | exact Mem.here | apply Mem.there)) ?_))
                            · try replace h5 := of_decide_eq_false h5
                              refine Jc.skip ?_
                              refine Jq.blkN ?_
                              refine Jq.thenN ?_
                              refine Jc.region ?_
                              refine Jl.pv (PR.move rfl) ?_
                              refine Jl.pv (PR.add ((k + 1 : Nat) : Int) rfl rfl (by rw [w64 (by omega) (by omega)]; rfl)) ?_
                              refine Jl.pv (PR.assign rfl) ?_
                              refine Jl.nil ?_
                              refine Jq.again ⟨k + 1, hlt, fun j hj => (Nat.lt_succ_iff_lt_or_eq.1 hj).elim (hM j) (fun e => by rw [e]; exact mOkAt_3 hlt g90 (by omega))⟩ (by simp only; omega) (by repeat (first | exact trivial | refine And.intro rfl ?_)) rfl (by repeat (first | exact trivial | refine And.intro (by repeat (first | exact Mem.here | apply Mem.there)) ?_))
                          · try replace g93 := of_decide_eq_false g93
                            refine Dh.JB.off rfl ⟨_, rfl, .inr rfl⟩ ?_
                            refine Dh.JB.off rfl ⟨_, rfl, .inr rfl⟩ ?_
                            refine Dh.JB.off rfl ⟨_, rfl, .inr rfl⟩ ?_
                            refine Dh.JB.off rfl ⟨_, rfl, .inr rfl⟩ ?_
                            refine Dh.JB.off rfl ⟨_, rfl, .inr rfl⟩ ?_
                            refine Dh.JB.off rfl ⟨_, rfl, .inr rfl⟩ ?_
                            refine Dh.JB.off rfl ⟨_, rfl, .inr rfl⟩ ?_
                            refine Dh.JB.off rfl ⟨_, rfl, .inr rfl⟩ ?_
                            refine Dh.JB.off rfl ⟨_, rfl, .inr rfl⟩ ?_
                            refine Dh.JB.off rfl ⟨_, rfl, .inr rfl⟩ ?_
                            refine Dh.JB.off rfl ⟨_, rfl, .inr rfl⟩ ?_
                            refine Dh.JB.off rfl ⟨_, rfl, .inr rfl⟩ ?_
                            refine Dh.JB.pv rfl ⟨_, rfl, rfl⟩ (fun _ => PR.pickF rfl rfl) ?_
                            refine Dh.JB.pv rfl trivial (fun _ => PR.pickF rfl rfl) ?_
                            refine Dh.JB.nil ?_
                            refine Dh.JL.nil ?_
                            refine Jq.thenN ?_
                            refine Jc.condF rfl ?_
                            refine Jc.skip ?_
                            refine Jq.blkN ?_
                            refine Jq.thenN ?_
                            refine Jc.region ?_
                            refine Jl.pv (PR.move rfl) ?_
                            refine Jl.pv (PR.add ((k + 1 : Nat) : Int) rfl rfl (by rw [w64 (by omega) (by omega)]; rfl)) ?_
                            refine Jl.pv (PR.assign rfl) ?_
                            refine Jl.nil ?_
                            refine Jq.again ⟨k + 1, hlt, fun j hj => (Nat.lt_succ_iff_lt_or_eq.1 hj).elim (hM j) (fun e => by rw [e]; exact mOkAt_3 hlt g90 (by omega))⟩ (by simp only; omega) (by repeat (first | exact trivial | refine And.intro rfl ?_)) rfl (by repeat (first | exact trivial | refine And.intro (by repeat (first | exact Mem.here | apply Mem.there)) ?_))
                      · try replace h4 := of_decide_eq_false h4
                        have hms : mOk c.ms = true := mOk_iff.2 fun j hj => hM j (by omega)
                        have hd := Cf.in_d hfo
                        have hmn := Cf.in_mn hfo
                        have hsu := Cf.in_su hfo
                        have hdm := dm_le hd hmn
                        have hfl : 0 ≤ c.fl ∧ c.fl ≤ 7 := by unfold Cf.fl; omega
                        refine Jc.exit ?_
                        refine Jq.thenX ?_
                        refine Jq.thenX ?_
                        refine Jq.blkX ?_
                        refine Jq.thenN ?_
                        refine Jc.seq ?_
                        refine Jc.seq ?_
                        refine Jc.drawn [0, 1, 3, 7, 15, 31, 15, 79, 255, 15, 527, 2047, 4095, 8191] ([(11, false), (12, false), (13, false)], []) [⟨[(0, false), (1, false), (2, false), (3, false), (4, false), (5, false), (6, false), (7, false), (8, false), (9, false)], [], 10⟩] tmx (by kernel_rfl) ?_
                        refine Dh.JH.cons ?_
                        refine Dh.JB.pv rfl trivial (fun _ => PR.fieldAddr rfl tfl24_0) ?_
                        refine Dh.JB.rd [.blk _ _ _] rfl trivial (by repeat (first | exact Take.nil | apply Take.cons (by repeat (first | exact Del.here | apply Del.there)))) (fun _ => PR.load1 rfl tsh3 Has.here (by rfl)) ?_
                        refine Dh.JB.pv rfl trivial (fun _ => PR.gtr _ rfl rfl rfl) ?_
                        refine Dh.JB.pv rfl trivial (fun _ => PR.move rfl) ?_
                        refine Dh.JB.bsplit (fun g111 => ?_) (fun g111 => ?_)
                        · try replace g111 := of_decide_eq_true g111
                          refine Dh.JB.pv rfl ⟨_, rfl, rfl⟩ (fun _ => PR.fieldAddr rfl tfl24_2) ?_
                          refine Dh.JB.rd [.blk _ _ _] rfl ⟨_, rfl, rfl⟩ (by repeat (first | exact Take.nil | apply Take.cons (by repeat (first | exact Del.here | apply Del.there)))) (fun _ => PR.load1 rfl tsh3 Has.here (by rfl)) ?_
                          refine Dh.JB.pv rfl ⟨_, rfl, rfl⟩ (fun _ => PR.fieldAddr rfl tfl24_0) ?_
                          refine Dh.JB.rd [.blk _ _ _] rfl ⟨_, rfl, rfl⟩ (by repeat (first | exact Take.nil | apply Take.cons (by repeat (first | exact Del.here | apply Del.there)))) (fun _ => PR.load1 rfl tsh3 Has.here (by rfl)) ?_
                          refine Dh.JB.pv rfl ⟨_, rfl, rfl⟩ (fun _ => PR.add (c.su + c.d) rfl rfl (w64 (by omega) (by omega))) ?_
                          refine Dh.JB.rd [.blk _ _ _] rfl ⟨_, rfl, rfl⟩ (by repeat (first | exact Take.nil | apply Take.cons (by repeat (first | exact Del.here | apply Del.there)))) (fun _ => PR.loadW rfl tsh24 Has.here (by rfl)) ?_
                          refine Dh.JB.nil ?_
                          refine Dh.JL.nil ?_
                          refine Dh.JE.mk rfl (fun _ h => by cases h) (fun C16_10 => ?_)
                          refine Jl.on rfl rfl ?_
                          refine Jl.call (rfloor_ct c (A, cA) hd hmn) en37 (by rfl) (by repeat (first | exact Take.nil | apply Take.cons (by repeat (first | exact Del.here | apply Del.there)))) (by repeat (first | exact trivial | refine And.intro (by repeat (first | exact Mem.here | apply Mem.there)) ?_)) ?_
                          rintro ⟨⟩
                          refine Jl.nil ?_
                          refine Dh.Jq.segV (by repeat (first | exact Dh.FExt.refl | apply Dh.FExt.cons | apply Dh.FExt.app)) ?_ (by repeat (first | exact Dh.KeepL.nil | apply Dh.KeepL.anc (by rfl) | apply Dh.KeepL.keep (by repeat (first | exact Take.nil | apply Take.cons (by repeat (first | exact Del.here | apply Del.there))))))
                          refine Dh.JH.nil ?_
                          refine Dh.JB.pv rfl ⟨_, rfl, rfl⟩ (fun _ => PR.sub (c.su + c.d - c.fl) rfl rfl (w64 (by omega) (by omega))) ?_
                          refine Dh.JB.pv rfl ⟨_, rfl, rfl⟩ (fun _ => PR.lss _ rfl rfl rfl) ?_
                          refine Dh.JB.pv rfl trivial (fun _ => PR.pickT rfl rfl) ?_
                          refine Dh.JB.nil ?_
                          refine Dh.JL.nil ?_
                          refine Jq.thenN ?_
                          refine Jc.cond rfl (fun h6 => ?_) (fun h6 => ?_)
                          · try replace h6 := of_decide_eq_true h6
                            refine Jc.seq ?_
                            refine Jc.region ?_
                            refine Jl.pv (PR.assign rfl) ?_
                            refine Jl.nil ?_
                            refine Jq.thenN ?_
                            refine Jc.ret ?_
                            refine Jq.thenR ?_
                            exact Jq.fin () (.inl rfl) rfl (RetVs.tmp rfl RetVs.nil) (by rw [c.chk_no (fun h => (Cf.ok_l h).elim (by omega) (by omega))]; rfl) (by repeat (first | exact Take.nil | apply Take.cons (by repeat (first | exact Del.here | apply Del.there)))) (by repeat (first | exact trivial | refine And.intro (by repeat (first | exact Mem.here | apply Mem.there)) ?_))
                          · try replace h6 := of_decide_eq_false h6
                            refine Jc.skip ?_
                            refine Jq.thenN ?_
                            refine Jc.seq ?_
                            refine Jc.region ?_
                            refine Jl.pv (PR.assign rfl) ?_
                            refine Jl.nil ?_
                            refine Jq.thenN ?_
                            refine Jc.ret ?_
                            exact Jq.fin () (.inl rfl) rfl (RetVs.tmp rfl RetVs.nil) (by rw [c.chk_ok (Cf.ok_mk hfo hm4 hms (.inr (by omega)))]; rfl) (by repeat (first | exact Take.nil | apply Take.cons (by repeat (first | exact Del.here | apply Del.there)))) (by repeat (first | exact trivial | refine And.intro (by repeat (first | exact Mem.here | apply Mem.there)) ?_))
                        · try replace g111 := of_decide_eq_false g111
                          refine Dh.JB.off rfl ⟨_, rfl, .inr rfl⟩ ?_
                          refine Dh.JB.off rfl ⟨_, rfl, .inr rfl⟩ ?_
                          refine Dh.JB.off rfl ⟨_, rfl, .inr rfl⟩ ?_
                          refine Dh.JB.off rfl ⟨_, rfl, .inr rfl⟩ ?_
                          refine Dh.JB.off rfl ⟨_, rfl, .inr rfl⟩ ?_
                          refine Dh.JB.off rfl ⟨_, rfl, .inr rfl⟩ ?_
                          refine Dh.JB.nil ?_
                          refine Dh.JL.nil ?_
                          refine Dh.JE.mk rfl (fun _ h => by cases h) (fun C16_10 => ?_)
                          refine Jl.offS rfl rfl rfl ?_
                          refine Jl.nil ?_
                          refine Dh.Jq.segV (by repeat (first | exact Dh.FExt.refl | apply Dh.FExt.cons | apply Dh.FExt.app)) ?_ (by repeat (first | exact Dh.KeepL.nil | apply Dh.KeepL.anc (by rfl) | apply Dh.KeepL.keep (by repeat (first | exact Take.nil | apply Take.cons (by repeat (first | exact Del.here | apply Del.there))))))
                          refine Dh.JH.nil ?_
                          refine Dh.JB.off rfl ⟨_, rfl, .inr rfl⟩ ?_
                          refine Dh.JB.off rfl ⟨_, rfl, .inr rfl⟩ ?_
                          refine Dh.JB.pv rfl trivial (fun _ => PR.pickF rfl rfl) ?_
                          refine Dh.JB.nil ?_
                          refine Dh.JL.nil ?_
                          refine Jq.thenN ?_
                          refine Jc.condF rfl ?_
                          refine Jc.skip ?_
                          refine Jq.thenN ?_
                          refine Jc.seq ?_
                          refine Jc.region ?_
                          refine Jl.pv (PR.assign rfl) ?_
                          refine Jl.nil ?_
                          refine Jq.thenN ?_
                          refine Jc.ret ?_
                          exact Jq.fin () (.inl rfl) rfl (RetVs.tmp rfl RetVs.nil) (by rw [c.chk_ok (Cf.ok_mk hfo hm4 hms (.inl (by omega)))]; rfl) (by repeat (first | exact Take.nil | apply Take.cons (by repeat (first | exact Del.here | apply Del.there)))) (by repeat (first | exact trivial | refine And.intro (by repeat (first | exact Mem.here | apply Mem.there)) ?_))
theorem rbound_ct (c : Cf) (x : AdC) (hn : c.ms.length ≤ 1000000) : Ct Tryd.prog 17 [c.v x] [] [.rd x.1 (i64s c.ms)] (fun _ : Unit => .int .i64 c.bnd) (fun _ => []) (fun _ => []) := by
  by_cases hok : c.ok = true
  · have e1 : c.bnd = c.d + c.su + c.po := if_pos hok
    have h1 := Cf.in_d (Cf.ok_f hok)
    have h2 := Cf.in_su (Cf.ok_f hok)
    have h3 := Cf.in_po (Cf.ok_f hok)
    rw [e1]
    refine Ct.of _ Tryd.func17 Tryd.ntmps17 rfl rfl (fun X W => ?_)
    refine Jc.seq ?_
    refine Jc.region ?_
    refine Jl.box rfl (by rfl) ?_
    intro b1
    refine Jl.pv (PR.assign rfl) ?_
    refine Jl.nil ?_
    refine Jq.thenN ?_
    refine Jc.seq ?_
    refine Jc.seq ?_
    refine Jc.region ?_
    refine Jl.pv (PR.loadW rfl tsh24 (by repeat (first | exact Has.here | apply Has.there)) (by rfl)) ?_
    refine Jl.call (rcheck_ct c x hn) en19 (by rfl) (by repeat (first | exact Take.nil | apply Take.cons (by repeat (first | exact Del.here | apply Del.there)))) (by repeat (first | exact trivial | refine And.intro (by repeat (first | exact Mem.here | apply Mem.there)) ?_)) ?_
    rintro ⟨⟩
    refine Jl.pv (PR.neq false rfl rfl (by rw [c.chk_ok hok]; rfl)) ?_
    refine Jl.nil ?_
    refine Jq.thenN ?_
    refine Jc.condF rfl ?_
    refine Jc.skip ?_
    refine Jq.thenN ?_
    refine Jc.seq ?_
    refine Jc.region ?_
    refine Jl.pv (PR.fieldAddr rfl tfl24_0) ?_
    refine Jl.pv (PR.load1 rfl tsh3 (by repeat (first | exact Has.here | apply Has.there)) (by rfl)) ?_
    refine Jl.pv (PR.fieldAddr rfl tfl24_2) ?_
    refine Jl.pv (PR.load1 rfl tsh3 (by repeat (first | exact Has.here | apply Has.there)) (by rfl)) ?_
    refine Jl.pv (PR.add _ rfl rfl (w64 (by omega) (by omega))) ?_
    refine Jl.pv (PR.fieldAddr rfl tfl24_3) ?_
    refine Jl.pv (PR.load1 rfl tsh3 (by repeat (first | exact Has.here | apply Has.there)) (by rfl)) ?_
    refine Jl.pv (PR.add _ rfl rfl (w64 (by omega) (by omega))) ?_
    refine Jl.pv (PR.assign rfl) ?_
    refine Jl.nil ?_
    refine Jq.thenN ?_
    refine Jc.ret ?_
    exact Jq.fin () (.inl rfl) rfl (RetVs.tmp rfl RetVs.nil) rfl (by repeat (first | exact Take.nil | apply Take.cons (by repeat (first | exact Del.here | apply Del.there)))) (by repeat (first | exact trivial | refine And.intro (by repeat (first | exact Mem.here | apply Mem.there)) ?_))
  · have e1 : c.bnd = 0 := if_neg hok
    rw [e1]
    refine Ct.of _ Tryd.func17 Tryd.ntmps17 rfl rfl (fun X W => ?_)
    refine Jc.seq ?_
    refine Jc.region ?_
    refine Jl.box rfl (by rfl) ?_
    intro b1
    refine Jl.pv (PR.assign rfl) ?_
    refine Jl.nil ?_
    refine Jq.thenN ?_
    refine Jc.seq ?_
    refine Jc.seq ?_
    refine Jc.region ?_
    refine Jl.pv (PR.loadW rfl tsh24 (by repeat (first | exact Has.here | apply Has.there)) (by rfl)) ?_
    refine Jl.call (rcheck_ct c x hn) en19 (by rfl) (by repeat (first | exact Take.nil | apply Take.cons (by repeat (first | exact Del.here | apply Del.there)))) (by repeat (first | exact trivial | refine And.intro (by repeat (first | exact Mem.here | apply Mem.there)) ?_)) ?_
    rintro ⟨⟩
    refine Jl.pv (PR.neq true rfl rfl (by rw [c.chk_no hok]; rfl)) ?_
    refine Jl.nil ?_
    refine Jq.thenN ?_
    refine Jc.condT rfl ?_
    refine Jc.seq ?_
    refine Jc.region ?_
    refine Jl.pv (PR.assign rfl) ?_
    refine Jl.nil ?_
    refine Jq.thenN ?_
    refine Jc.ret ?_
    refine Jq.thenR ?_
    exact Jq.fin () (.inl rfl) rfl (RetVs.tmp rfl RetVs.nil) rfl (by repeat (first | exact Take.nil | apply Take.cons (by repeat (first | exact Del.here | apply Del.there)))) (by repeat (first | exact trivial | refine And.intro (by repeat (first | exact Mem.here | apply Mem.there)) ?_))
end Go.Proofs.YtiebgcahdnaekaaDoor
