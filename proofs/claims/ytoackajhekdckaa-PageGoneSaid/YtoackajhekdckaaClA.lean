/-
Contracts of the reference of clouds.
-/
import Derived.Test.YtoackajhekdckaaTy
import Derived.Test.YtoackajhekdckaaJp
import Derived.Test.YtoackajhekdckaaJk
import Derived.Test.YtoackajhekdckaaClP
namespace Go.Proofs.Ytoackajhekdckaa
set_option linter.unusedVariables false
open Go.RowKit
attribute [local irreducible] Res.blk Res.row Fact.rd
theorem rnumber_ct (n : Int) : Ct Try.prog 17 [.int .i64 n] [] [] (fun _ : Unit => .bool (okN n)) (fun _ => []) (fun _ => []) := by
  refine Ct.of _ Try.func17 Try.ntmps17 rfl rfl (fun X W => ?_)
  refine Jc.seq ?_
  refine Jc.region ?_
  refine Jl.pv (PR.assign rfl) ?_
  refine Jl.nil ?_
  refine Jq.thenN ?_
  refine Jc.seq ?_
  refine Jc.region ?_
  refine Jl.pv (PR.move rfl) ?_
  refine Jl.pv (PR.geq _ rfl rfl rfl) ?_
  refine Jl.pv (PR.move rfl) ?_
  refine Jl.bsplit (fun g5 => ?_) (fun g5 => ?_)
  · try replace g5 := of_decide_eq_true g5
    refine Jl.on rfl rfl ?_
    refine Jl.pv (PR.move rfl) ?_
    refine Jl.on rfl rfl ?_
    refine Jl.pv (PR.leq _ rfl rfl rfl) ?_
    refine Jl.pv (PR.pickT rfl rfl) ?_
    refine Jl.pv (PR.assign rfl) ?_
    refine Jl.nil ?_
    refine Jq.thenN ?_
    refine Jc.ret ?_
    exact Jq.fin () (.inl rfl) rfl (RetVs.tmp rfl RetVs.nil) (by simp [retval, okN]; omega) (by repeat (first | exact Take.nil | apply Take.cons (by repeat (first | exact Del.here | apply Del.there)))) (by repeat (first | exact trivial | refine And.intro (by repeat (first | exact Mem.here | apply Mem.there)) ?_))
  · try replace g5 := of_decide_eq_false g5
    refine Jl.offS rfl rfl rfl ?_
    refine Jl.offS rfl rfl rfl ?_
    refine Jl.pv (PR.pickF rfl rfl) ?_
    refine Jl.pv (PR.assign rfl) ?_
    refine Jl.nil ?_
    refine Jq.thenN ?_
    refine Jc.ret ?_
    exact Jq.fin () (.inl rfl) rfl (RetVs.tmp rfl RetVs.nil) (by simp [retval, okN]; omega) (by repeat (first | exact Take.nil | apply Take.cons (by repeat (first | exact Del.here | apply Del.there)))) (by repeat (first | exact trivial | refine And.intro (by repeat (first | exact Mem.here | apply Mem.there)) ?_))
theorem rbox_ct (b : Bx) (i : Nat) (hi : i ≤ 1000000) : Ct Try.prog 18 [b.v, .int .i64 (i : Int)] [] [] (fun _ : Unit => .bool (b.okB i)) (fun _ => []) (fun _ => []) := by
  refine Ct.of _ Try.func18 Try.ntmps18 rfl rfl (fun X W => ?_)
  refine Jc.seq ?_
  refine Jc.region ?_
  refine Jl.box rfl (by rfl) ?_
  intro b2
  refine Jl.pv (PR.assign rfl) ?_
  refine Jl.nil ?_
  refine Jq.thenN ?_
  refine Jc.seq ?_
  refine Jc.seq ?_
  refine Jc.region ?_
  refine Jl.pv (PR.fieldAddr rfl tfl33_0) ?_
  refine Jl.pv (PR.load1 rfl tsh3 (by repeat (first | exact Has.here | apply Has.there)) (by rfl)) ?_
  refine Jl.pv (PR.move rfl) ?_
  refine Jl.pv (PR.add ((i : Int) + 1) rfl rfl (w64 (by omega) (by omega))) ?_
  refine Jl.pv (PR.neq _ rfl rfl rfl) ?_
  refine Jl.pv (PR.move rfl) ?_
  refine Jl.bsplit (fun g10 => ?_) (fun g10 => ?_)
  · try replace g10 := of_decide_eq_true g10
    refine Jl.offS rfl rfl rfl ?_
    refine Jl.offS rfl rfl rfl ?_
    refine Jl.offS rfl rfl rfl ?_
    refine Jl.offS rfl rfl rfl ?_
    refine Jl.pv (PR.pickT rfl rfl) ?_
    refine Jl.pv (PR.move rfl) ?_
    refine Jl.offS rfl rfl rfl ?_
    refine Jl.offS rfl rfl rfl ?_
    refine Jl.offS rfl rfl rfl ?_
    refine Jl.offS rfl rfl rfl ?_
    refine Jl.pv (PR.pickT rfl rfl) ?_
    refine Jl.pv (PR.move rfl) ?_
    refine Jl.offS rfl rfl rfl ?_
    refine Jl.offS rfl rfl rfl ?_
    refine Jl.offS rfl rfl rfl ?_
    refine Jl.offS rfl rfl rfl ?_
    refine Jl.pv (PR.pickT rfl rfl) ?_
    refine Jl.pv (PR.move rfl) ?_
    refine Jl.offS rfl rfl rfl ?_
    refine Jl.offS rfl rfl rfl ?_
    refine Jl.offS rfl rfl rfl ?_
    refine Jl.pv (PR.pickT rfl rfl) ?_
    refine Jl.pv (PR.move rfl) ?_
    refine Jl.offS rfl rfl rfl ?_
    refine Jl.offS rfl rfl rfl ?_
    refine Jl.offS rfl rfl rfl ?_
    refine Jl.offUS rfl rfl ?_
    refine Jl.offUS rfl rfl ?_
    refine Jl.offUS rfl rfl ?_
    refine Jl.offUS rfl rfl ?_
    refine Jl.offUS rfl rfl ?_
    refine Jl.offUS rfl rfl ?_
    refine Jl.offUS rfl rfl ?_
    refine Jl.offS rfl rfl rfl ?_
    refine Jl.pv (PR.pickT rfl rfl) ?_
    refine Jl.nil ?_
    refine Jq.thenN ?_
    refine Jc.condT rfl ?_
    refine Jc.seq ?_
    refine Jc.region ?_
    refine Jl.pv (PR.assign rfl) ?_
    refine Jl.nil ?_
    refine Jq.thenN ?_
    refine Jc.ret ?_
    refine Jq.thenR ?_
    exact Jq.fin () (.inl rfl) rfl (RetVs.tmp rfl RetVs.nil) (congrArg Value.bool (okB_eq (by simp_all [Bx.okAt] <;> omega))) (by repeat (first | exact Take.nil | apply Take.cons (by repeat (first | exact Del.here | apply Del.there)))) (by repeat (first | exact trivial | refine And.intro (by repeat (first | exact Mem.here | apply Mem.there)) ?_))
  · try replace g10 := of_decide_eq_false g10
    refine Jl.on rfl rfl ?_
    refine Jl.pv (PR.fieldAddr rfl tfl33_1) ?_
    refine Jl.on rfl rfl ?_
    refine Jl.pv (PR.load1 rfl tsh3 (by repeat (first | exact Has.here | apply Has.there)) (by rfl)) ?_
    refine Jl.on rfl rfl ?_
    refine Jl.call (rnumber_ct b.tok) en17 (by rfl) (by repeat (first | exact Take.nil | apply Take.cons (by repeat (first | exact Del.here | apply Del.there)))) (by repeat (first | exact trivial | refine And.intro (by repeat (first | exact Mem.here | apply Mem.there)) ?_)) ?_
    rintro ⟨⟩
    refine Jl.on rfl rfl ?_
    refine Jl.pv (PR.not rfl) ?_
    refine Jl.pv (PR.pickF rfl rfl) ?_
    refine Jl.pv (PR.move rfl) ?_
    refine Jl.bsplit (fun g16 => ?_) (fun g16 => ?_)
    · try replace g16 := of_decide_eq_true g16
      refine Jl.offS rfl rfl rfl ?_
      refine Jl.offS rfl rfl rfl ?_
      refine Jl.offS rfl rfl rfl ?_
      refine Jl.offS rfl rfl rfl ?_
      refine Jl.pv (PR.pickT rfl rfl) ?_
      refine Jl.pv (PR.move rfl) ?_
      refine Jl.offS rfl rfl rfl ?_
      refine Jl.offS rfl rfl rfl ?_
      refine Jl.offS rfl rfl rfl ?_
      refine Jl.offS rfl rfl rfl ?_
      refine Jl.pv (PR.pickT rfl rfl) ?_
      refine Jl.pv (PR.move rfl) ?_
      refine Jl.offS rfl rfl rfl ?_
      refine Jl.offS rfl rfl rfl ?_
      refine Jl.offS rfl rfl rfl ?_
      refine Jl.pv (PR.pickT rfl rfl) ?_
      refine Jl.pv (PR.move rfl) ?_
      refine Jl.offS rfl rfl rfl ?_
      refine Jl.offS rfl rfl rfl ?_
      refine Jl.offS rfl rfl rfl ?_
      refine Jl.offUS rfl rfl ?_
      refine Jl.offUS rfl rfl ?_
      refine Jl.offUS rfl rfl ?_
      refine Jl.offUS rfl rfl ?_
      refine Jl.offUS rfl rfl ?_
      refine Jl.offUS rfl rfl ?_
      refine Jl.offUS rfl rfl ?_
      refine Jl.offS rfl rfl rfl ?_
      refine Jl.pv (PR.pickT rfl rfl) ?_
      refine Jl.nil ?_
      refine Jq.thenN ?_
      refine Jc.condT rfl ?_
      refine Jc.seq ?_
      refine Jc.region ?_
      refine Jl.pv (PR.assign rfl) ?_
      refine Jl.nil ?_
      refine Jq.thenN ?_
      refine Jc.ret ?_
      refine Jq.thenR ?_
      exact Jq.fin () (.inl rfl) rfl (RetVs.tmp rfl RetVs.nil) (congrArg Value.bool (okB_eq (by simp_all [Bx.okAt] <;> omega))) (by repeat (first | exact Take.nil | apply Take.cons (by repeat (first | exact Del.here | apply Del.there)))) (by repeat (first | exact trivial | refine And.intro (by repeat (first | exact Mem.here | apply Mem.there)) ?_))
    · try replace g16 := of_decide_eq_false g16
      refine Jl.on rfl rfl ?_
      refine Jl.pv (PR.fieldAddr rfl tfl33_2) ?_
      refine Jl.on rfl rfl ?_
      refine Jl.pv (PR.load1 rfl tsh3 (by repeat (first | exact Has.here | apply Has.there)) (by rfl)) ?_
      refine Jl.on rfl rfl ?_
      refine Jl.call (rnumber_ct b.ver) en17 (by rfl) (by repeat (first | exact Take.nil | apply Take.cons (by repeat (first | exact Del.here | apply Del.there)))) (by repeat (first | exact trivial | refine And.intro (by repeat (first | exact Mem.here | apply Mem.there)) ?_)) ?_
      rintro ⟨⟩
      refine Jl.on rfl rfl ?_
      refine Jl.pv (PR.not rfl) ?_
      refine Jl.pv (PR.pickF rfl rfl) ?_
      refine Jl.pv (PR.move rfl) ?_
      refine Jl.bsplit (fun g22 => ?_) (fun g22 => ?_)
      · try replace g22 := of_decide_eq_true g22
        refine Jl.offS rfl rfl rfl ?_
        refine Jl.offS rfl rfl rfl ?_
        refine Jl.offS rfl rfl rfl ?_
        refine Jl.offS rfl rfl rfl ?_
        refine Jl.pv (PR.pickT rfl rfl) ?_
        refine Jl.pv (PR.move rfl) ?_
        refine Jl.offS rfl rfl rfl ?_
        refine Jl.offS rfl rfl rfl ?_
        refine Jl.offS rfl rfl rfl ?_
        refine Jl.pv (PR.pickT rfl rfl) ?_
        refine Jl.pv (PR.move rfl) ?_
        refine Jl.offS rfl rfl rfl ?_
        refine Jl.offS rfl rfl rfl ?_
        refine Jl.offS rfl rfl rfl ?_
        refine Jl.offUS rfl rfl ?_
        refine Jl.offUS rfl rfl ?_
        refine Jl.offUS rfl rfl ?_
        refine Jl.offUS rfl rfl ?_
        refine Jl.offUS rfl rfl ?_
        refine Jl.offUS rfl rfl ?_
        refine Jl.offUS rfl rfl ?_
        refine Jl.offS rfl rfl rfl ?_
        refine Jl.pv (PR.pickT rfl rfl) ?_
        refine Jl.nil ?_
        refine Jq.thenN ?_
        refine Jc.condT rfl ?_
        refine Jc.seq ?_
        refine Jc.region ?_
        refine Jl.pv (PR.assign rfl) ?_
        refine Jl.nil ?_
        refine Jq.thenN ?_
        refine Jc.ret ?_
        refine Jq.thenR ?_
        exact Jq.fin () (.inl rfl) rfl (RetVs.tmp rfl RetVs.nil) (congrArg Value.bool (okB_eq (by simp_all [Bx.okAt] <;> omega))) (by repeat (first | exact Take.nil | apply Take.cons (by repeat (first | exact Del.here | apply Del.there)))) (by repeat (first | exact trivial | refine And.intro (by repeat (first | exact Mem.here | apply Mem.there)) ?_))
      · try replace g22 := of_decide_eq_false g22
        refine Jl.on rfl rfl ?_
        refine Jl.pv (PR.fieldAddr rfl tfl33_3) ?_
        refine Jl.on rfl rfl ?_
        refine Jl.pv (PR.load1 rfl tsh3 (by repeat (first | exact Has.here | apply Has.there)) (by rfl)) ?_
        refine Jl.on rfl rfl ?_
        refine Jl.call (rnumber_ct b.zon) en17 (by rfl) (by repeat (first | exact Take.nil | apply Take.cons (by repeat (first | exact Del.here | apply Del.there)))) (by repeat (first | exact trivial | refine And.intro (by repeat (first | exact Mem.here | apply Mem.there)) ?_)) ?_
        rintro ⟨⟩
        refine Jl.on rfl rfl ?_
        refine Jl.pv (PR.not rfl) ?_
        refine Jl.pv (PR.pickF rfl rfl) ?_
        refine Jl.pv (PR.move rfl) ?_
        refine Jl.bsplit (fun g28 => ?_) (fun g28 => ?_)
        · try replace g28 := of_decide_eq_true g28
          refine Jl.offS rfl rfl rfl ?_
          refine Jl.offS rfl rfl rfl ?_
          refine Jl.offS rfl rfl rfl ?_
          refine Jl.pv (PR.pickT rfl rfl) ?_
          refine Jl.pv (PR.move rfl) ?_
          refine Jl.offS rfl rfl rfl ?_
          refine Jl.offS rfl rfl rfl ?_
          refine Jl.offS rfl rfl rfl ?_
          refine Jl.offUS rfl rfl ?_
          refine Jl.offUS rfl rfl ?_
          refine Jl.offUS rfl rfl ?_
          refine Jl.offUS rfl rfl ?_
          refine Jl.offUS rfl rfl ?_
          refine Jl.offUS rfl rfl ?_
          refine Jl.offUS rfl rfl ?_
          refine Jl.offS rfl rfl rfl ?_
          refine Jl.pv (PR.pickT rfl rfl) ?_
          refine Jl.nil ?_
          refine Jq.thenN ?_
          refine Jc.condT rfl ?_
          refine Jc.seq ?_
          refine Jc.region ?_
          refine Jl.pv (PR.assign rfl) ?_
          refine Jl.nil ?_
          refine Jq.thenN ?_
          refine Jc.ret ?_
          refine Jq.thenR ?_
          exact Jq.fin () (.inl rfl) rfl (RetVs.tmp rfl RetVs.nil) (congrArg Value.bool (okB_eq (by simp_all [Bx.okAt] <;> omega))) (by repeat (first | exact Take.nil | apply Take.cons (by repeat (first | exact Del.here | apply Del.there)))) (by repeat (first | exact trivial | refine And.intro (by repeat (first | exact Mem.here | apply Mem.there)) ?_))
        · try replace g28 := of_decide_eq_false g28
          refine Jl.on rfl rfl ?_
          refine Jl.pv (PR.fieldAddr rfl tfl33_8) ?_
          refine Jl.on rfl rfl ?_
          refine Jl.pv (PR.load1 rfl tsh5 (by repeat (first | exact Has.here | apply Has.there)) (by rfl)) ?_
          refine Jl.on rfl rfl ?_
          refine Jl.pv (PR.gtr _ rfl rfl rfl) ?_
          refine Jl.pv (PR.pickF rfl rfl) ?_
          refine Jl.pv (PR.move rfl) ?_
          refine Jl.bsplit (fun g33 => ?_) (fun g33 => ?_)
          · try replace g33 := of_decide_eq_true g33
            refine Jl.offS rfl rfl rfl ?_
            refine Jl.offS rfl rfl rfl ?_
            refine Jl.offS rfl rfl rfl ?_
            refine Jl.offUS rfl rfl ?_
            refine Jl.offUS rfl rfl ?_
            refine Jl.offUS rfl rfl ?_
            refine Jl.offUS rfl rfl ?_
            refine Jl.offUS rfl rfl ?_
            refine Jl.offUS rfl rfl ?_
            refine Jl.offUS rfl rfl ?_
            refine Jl.offS rfl rfl rfl ?_
            refine Jl.pv (PR.pickT rfl rfl) ?_
            refine Jl.nil ?_
            refine Jq.thenN ?_
            refine Jc.condT rfl ?_
            refine Jc.seq ?_
            refine Jc.region ?_
            refine Jl.pv (PR.assign rfl) ?_
            refine Jl.nil ?_
            refine Jq.thenN ?_
            refine Jc.ret ?_
            refine Jq.thenR ?_
            exact Jq.fin () (.inl rfl) rfl (RetVs.tmp rfl RetVs.nil) (congrArg Value.bool (okB_eq (by simp_all [Bx.okAt] <;> omega))) (by repeat (first | exact Take.nil | apply Take.cons (by repeat (first | exact Del.here | apply Del.there)))) (by repeat (first | exact trivial | refine And.intro (by repeat (first | exact Mem.here | apply Mem.there)) ?_))
          · try replace g33 := of_decide_eq_false g33
            refine Jl.on rfl rfl ?_
            refine Jl.pv (PR.fieldAddr rfl tfl33_6) ?_
            refine Jl.on rfl rfl ?_
            refine Jl.pv (PR.load1 rfl tsh4 (by repeat (first | exact Has.here | apply Has.there)) (by rfl)) ?_
            refine Jl.on rfl rfl ?_
            refine Jl.pv (PR.move rfl) ?_
            refine Jl.bsplit (fun g36 => ?_) (fun g36 => ?_)
            · try replace g36 := of_decide_eq_true g36
              refine Jl.on rfl rfl ?_
              refine Jl.pv (PR.fieldAddr rfl tfl33_5) ?_
              refine Jl.on rfl rfl ?_
              refine Jl.pv (PR.load1 rfl tsh4 (by repeat (first | exact Has.here | apply Has.there)) (by rfl)) ?_
              refine Jl.on rfl rfl ?_
              refine Jl.pv (PR.move rfl) ?_
              refine Jl.bsplit (fun g39 => ?_) (fun g39 => ?_)
              · try replace g39 := of_decide_eq_true g39
                refine Jl.offS rfl rfl rfl ?_
                refine Jl.offS rfl rfl rfl ?_
                refine Jl.offS rfl rfl rfl ?_
                refine Jl.on rfl rfl ?_
                refine Jl.pv (PR.pickT rfl rfl) ?_
                refine Jl.on rfl rfl ?_
                refine Jl.pv (PR.pickT rfl rfl) ?_
                refine Jl.pv (PR.pickF rfl rfl) ?_
                refine Jl.nil ?_
                refine Jq.thenN ?_
                refine Jc.condT rfl ?_
                refine Jc.seq ?_
                refine Jc.region ?_
                refine Jl.pv (PR.assign rfl) ?_
                refine Jl.nil ?_
                refine Jq.thenN ?_
                refine Jc.ret ?_
                refine Jq.thenR ?_
                exact Jq.fin () (.inl rfl) rfl (RetVs.tmp rfl RetVs.nil) (congrArg Value.bool (okB_eq (by simp_all [Bx.okAt] <;> omega))) (by repeat (first | exact Take.nil | apply Take.cons (by repeat (first | exact Del.here | apply Del.there)))) (by repeat (first | exact trivial | refine And.intro (by repeat (first | exact Mem.here | apply Mem.there)) ?_))
              · try replace g39 := of_decide_eq_false g39
                refine Jl.on rfl rfl ?_
                refine Jl.pv (PR.fieldAddr rfl tfl33_8) ?_
                refine Jl.on rfl rfl ?_
                refine Jl.pv (PR.load1 rfl tsh5 (by repeat (first | exact Has.here | apply Has.there)) (by rfl)) ?_
                refine Jl.on rfl rfl ?_
                refine Jl.pv (PR.neq _ rfl rfl rfl) ?_
                refine Jl.on rfl rfl ?_
                refine Jl.pv (PR.pickF rfl rfl) ?_
                refine Jl.on rfl rfl ?_
                refine Jl.pv (PR.pickT rfl rfl) ?_
                refine Jl.pv (PR.pickF rfl rfl) ?_
                refine Jl.nil ?_
                refine Jq.thenN ?_
                refine Jc.cond rfl (fun h0 => ?_) (fun h0 => ?_)
                · try replace h0 := of_decide_eq_true h0
                  refine Jc.seq ?_
                  refine Jc.region ?_
                  refine Jl.pv (PR.assign rfl) ?_
                  refine Jl.nil ?_
                  refine Jq.thenN ?_
                  refine Jc.ret ?_
                  refine Jq.thenR ?_
                  exact Jq.fin () (.inl rfl) rfl (RetVs.tmp rfl RetVs.nil) (congrArg Value.bool (okB_eq (by simp_all [Bx.okAt] <;> omega))) (by repeat (first | exact Take.nil | apply Take.cons (by repeat (first | exact Del.here | apply Del.there)))) (by repeat (first | exact trivial | refine And.intro (by repeat (first | exact Mem.here | apply Mem.there)) ?_))
                · try replace h0 := of_decide_eq_false h0
                  refine Jc.skip ?_
                  refine Jq.thenN ?_
                  refine Jc.seq ?_
                  refine Jc.region ?_
                  refine Jl.pv (PR.fieldAddr rfl tfl33_5) ?_
                  refine Jl.pv (PR.load1 rfl tsh4 (by repeat (first | exact Has.here | apply Has.there)) (by rfl)) ?_
                  refine Jl.pv (PR.move rfl) ?_
                  refine Jl.bsplit (fun g48 => ?_) (fun g48 => ?_)
                  · try replace g48 := of_decide_eq_true g48
                    refine Jl.offS rfl rfl rfl ?_
                    refine Jl.offS rfl rfl rfl ?_
                    refine Jl.offS rfl rfl rfl ?_
                    refine Jl.pv (PR.pickT rfl rfl) ?_
                    refine Jl.pv (PR.assign rfl) ?_
                    refine Jl.nil ?_
                    refine Jq.thenN ?_
                    refine Jc.ret ?_
                    exact Jq.fin () (.inl rfl) rfl (RetVs.tmp rfl RetVs.nil) (congrArg Value.bool (okB_eq (by simp_all [Bx.okAt] <;> omega))) (by repeat (first | exact Take.nil | apply Take.cons (by repeat (first | exact Del.here | apply Del.there)))) (by repeat (first | exact trivial | refine And.intro (by repeat (first | exact Mem.here | apply Mem.there)) ?_))
                  · try replace g48 := of_decide_eq_false g48
                    refine Jl.on rfl rfl ?_
                    refine Jl.pv (PR.fieldAddr rfl tfl33_8) ?_
                    refine Jl.on rfl rfl ?_
                    refine Jl.pv (PR.load1 rfl tsh5 (by repeat (first | exact Has.here | apply Has.there)) (by rfl)) ?_
                    refine Jl.on rfl rfl ?_
                    refine Jl.pv (PR.eql _ rfl rfl rfl) ?_
                    refine Jl.pv (PR.pickF rfl rfl) ?_
                    refine Jl.pv (PR.assign rfl) ?_
                    refine Jl.nil ?_
                    refine Jq.thenN ?_
                    refine Jc.ret ?_
                    exact Jq.fin () (.inl rfl) rfl (RetVs.tmp rfl RetVs.nil) (congrArg Value.bool (okB_eq (by simp_all [Bx.okAt] <;> omega))) (by repeat (first | exact Take.nil | apply Take.cons (by repeat (first | exact Del.here | apply Del.there)))) (by repeat (first | exact trivial | refine And.intro (by repeat (first | exact Mem.here | apply Mem.there)) ?_))
            · try replace g36 := of_decide_eq_false g36
              refine Jl.offS rfl rfl rfl ?_
              refine Jl.offS rfl rfl rfl ?_
              refine Jl.offS rfl rfl rfl ?_
              refine Jl.offUS rfl rfl ?_
              refine Jl.offUS rfl rfl ?_
              refine Jl.offUS rfl rfl ?_
              refine Jl.offS rfl rfl rfl ?_
              refine Jl.on rfl rfl ?_
              refine Jl.pv (PR.pickF rfl rfl) ?_
              refine Jl.pv (PR.pickF rfl rfl) ?_
              refine Jl.nil ?_
              refine Jq.thenN ?_
              refine Jc.condF rfl ?_
              refine Jc.skip ?_
              refine Jq.thenN ?_
              refine Jc.seq ?_
              refine Jc.region ?_
              refine Jl.pv (PR.fieldAddr rfl tfl33_5) ?_
              refine Jl.pv (PR.load1 rfl tsh4 (by repeat (first | exact Has.here | apply Has.there)) (by rfl)) ?_
              refine Jl.pv (PR.move rfl) ?_
              refine Jl.bsplit (fun g48 => ?_) (fun g48 => ?_)
              · try replace g48 := of_decide_eq_true g48
                refine Jl.offS rfl rfl rfl ?_
                refine Jl.offS rfl rfl rfl ?_
                refine Jl.offS rfl rfl rfl ?_
                refine Jl.pv (PR.pickT rfl rfl) ?_
                refine Jl.pv (PR.assign rfl) ?_
                refine Jl.nil ?_
                refine Jq.thenN ?_
                refine Jc.ret ?_
                exact Jq.fin () (.inl rfl) rfl (RetVs.tmp rfl RetVs.nil) (congrArg Value.bool (okB_eq (by simp_all [Bx.okAt] <;> omega))) (by repeat (first | exact Take.nil | apply Take.cons (by repeat (first | exact Del.here | apply Del.there)))) (by repeat (first | exact trivial | refine And.intro (by repeat (first | exact Mem.here | apply Mem.there)) ?_))
              · try replace g48 := of_decide_eq_false g48
                refine Jl.on rfl rfl ?_
                refine Jl.pv (PR.fieldAddr rfl tfl33_8) ?_
                refine Jl.on rfl rfl ?_
                refine Jl.pv (PR.load1 rfl tsh5 (by repeat (first | exact Has.here | apply Has.there)) (by rfl)) ?_
                refine Jl.on rfl rfl ?_
                refine Jl.pv (PR.eql _ rfl rfl rfl) ?_
                refine Jl.pv (PR.pickF rfl rfl) ?_
                refine Jl.pv (PR.assign rfl) ?_
                refine Jl.nil ?_
                refine Jq.thenN ?_
                refine Jc.ret ?_
                exact Jq.fin () (.inl rfl) rfl (RetVs.tmp rfl RetVs.nil) (congrArg Value.bool (okB_eq (by simp_all [Bx.okAt] <;> omega))) (by repeat (first | exact Take.nil | apply Take.cons (by repeat (first | exact Del.here | apply Del.there)))) (by repeat (first | exact trivial | refine And.intro (by repeat (first | exact Mem.here | apply Mem.there)) ?_))
theorem rright'_ct (c : Cl) (x : AdC) : Ct Try.prog 8 [c.v x] [] [.rd x.1 (bxsV c.bs)] (fun _ : Unit => .bool c.ok) (fun _ => []) (fun _ => []) := by
  obtain ⟨A, cA⟩ := x
  refine Ct.of _ Try.func8 Try.ntmps8 rfl rfl (fun X W => ?_)
  refine Jc.seq ?_
  refine Jc.region ?_
  refine Jl.box rfl (by rfl) ?_
  intro b1
  refine Jl.pv (PR.assign rfl) ?_
  refine Jl.nil ?_
  refine Jq.thenN ?_
  refine Jc.seq ?_
  refine Jc.seq ?_
  refine Jc.region ?_
  refine Jl.pv (PR.fieldAddr rfl tfl24_0) ?_
  refine Jl.pv (PR.load1 rfl tsh22 (by repeat (first | exact Has.here | apply Has.there)) (by rfl)) ?_
  refine Jl.pv (PR.len rfl tsl22) ?_
  refine Jl.pv (PR.gtr _ rfl rfl rfl) ?_
  refine Jl.pv (PR.move rfl) ?_
  refine Jl.bsplit (fun g9 => ?_) (fun g9 => ?_)
  · try replace g9 := of_decide_eq_true g9
    refine Jl.offS rfl rfl rfl ?_
    refine Jl.offS rfl rfl rfl ?_
    refine Jl.offS rfl rfl rfl ?_
    refine Jl.offS rfl rfl rfl ?_
    refine Jl.pv (PR.pickT rfl rfl) ?_
    refine Jl.pv (PR.move rfl) ?_
    refine Jl.offS rfl rfl rfl ?_
    refine Jl.offS rfl rfl rfl ?_
    refine Jl.offS rfl rfl rfl ?_
    refine Jl.offS rfl rfl rfl ?_
    refine Jl.pv (PR.pickT rfl rfl) ?_
    refine Jl.pv (PR.move rfl) ?_
    refine Jl.offS rfl rfl rfl ?_
    refine Jl.offS rfl rfl rfl ?_
    refine Jl.offS rfl rfl rfl ?_
    refine Jl.offS rfl rfl rfl ?_
    refine Jl.pv (PR.pickT rfl rfl) ?_
    refine Jl.nil ?_
    refine Jq.thenN ?_
    refine Jc.condT rfl ?_
    refine Jc.seq ?_
    refine Jc.region ?_
    refine Jl.pv (PR.assign rfl) ?_
    refine Jl.nil ?_
    refine Jq.thenN ?_
    refine Jc.ret ?_
    refine Jq.thenR ?_
    exact Jq.fin () (.inl rfl) rfl (RetVs.tmp rfl RetVs.nil) (by rw [Cl.ok_no (fun h => by have := h.len; omega)]; rfl) (by repeat (first | exact Take.nil | apply Take.cons (by repeat (first | exact Del.here | apply Del.there)))) (by repeat (first | exact trivial | refine And.intro (by repeat (first | exact Mem.here | apply Mem.there)) ?_))
  · try replace g9 := of_decide_eq_false g9
    refine Jl.on rfl rfl ?_
    refine Jl.pv (PR.fieldAddr rfl tfl24_1) ?_
    refine Jl.on rfl rfl ?_
    refine Jl.pv (PR.load1 rfl tsh3 (by repeat (first | exact Has.here | apply Has.there)) (by rfl)) ?_
    refine Jl.on rfl rfl ?_
    refine Jl.call (rnumber_ct c.fl) en17 (by rfl) (by repeat (first | exact Take.nil | apply Take.cons (by repeat (first | exact Del.here | apply Del.there)))) (by repeat (first | exact trivial | refine And.intro (by repeat (first | exact Mem.here | apply Mem.there)) ?_)) ?_
    rintro ⟨⟩
    refine Jl.on rfl rfl ?_
    refine Jl.pv (PR.not rfl) ?_
    refine Jl.pv (PR.pickF rfl rfl) ?_
    refine Jl.pv (PR.move rfl) ?_
    refine Jl.bsplit (fun g15 => ?_) (fun g15 => ?_)
    · try replace g15 := of_decide_eq_true g15
      refine Jl.offS rfl rfl rfl ?_
      refine Jl.offS rfl rfl rfl ?_
      refine Jl.offS rfl rfl rfl ?_
      refine Jl.offS rfl rfl rfl ?_
      refine Jl.pv (PR.pickT rfl rfl) ?_
      refine Jl.pv (PR.move rfl) ?_
      refine Jl.offS rfl rfl rfl ?_
      refine Jl.offS rfl rfl rfl ?_
      refine Jl.offS rfl rfl rfl ?_
      refine Jl.offS rfl rfl rfl ?_
      refine Jl.pv (PR.pickT rfl rfl) ?_
      refine Jl.nil ?_
      refine Jq.thenN ?_
      refine Jc.condT rfl ?_
      refine Jc.seq ?_
      refine Jc.region ?_
      refine Jl.pv (PR.assign rfl) ?_
      refine Jl.nil ?_
      refine Jq.thenN ?_
      refine Jc.ret ?_
      refine Jq.thenR ?_
      exact Jq.fin () (.inl rfl) rfl (RetVs.tmp rfl RetVs.nil) (by rw [Cl.ok_no (fun h => by have := h.fl; simp_all)]; rfl) (by repeat (first | exact Take.nil | apply Take.cons (by repeat (first | exact Del.here | apply Del.there)))) (by repeat (first | exact trivial | refine And.intro (by repeat (first | exact Mem.here | apply Mem.there)) ?_))
    · try replace g15 := of_decide_eq_false g15
      refine Jl.on rfl rfl ?_
      refine Jl.pv (PR.fieldAddr rfl tfl24_2) ?_
      refine Jl.on rfl rfl ?_
      refine Jl.pv (PR.load1 rfl tsh3 (by repeat (first | exact Has.here | apply Has.there)) (by rfl)) ?_
      refine Jl.on rfl rfl ?_
      refine Jl.call (rnumber_ct c.dr) en17 (by rfl) (by repeat (first | exact Take.nil | apply Take.cons (by repeat (first | exact Del.here | apply Del.there)))) (by repeat (first | exact trivial | refine And.intro (by repeat (first | exact Mem.here | apply Mem.there)) ?_)) ?_
      rintro ⟨⟩
      refine Jl.on rfl rfl ?_
      refine Jl.pv (PR.not rfl) ?_
      refine Jl.pv (PR.pickF rfl rfl) ?_
      refine Jl.pv (PR.move rfl) ?_
      refine Jl.bsplit (fun g21 => ?_) (fun g21 => ?_)
      · try replace g21 := of_decide_eq_true g21
        refine Jl.offS rfl rfl rfl ?_
        refine Jl.offS rfl rfl rfl ?_
        refine Jl.offS rfl rfl rfl ?_
        refine Jl.offS rfl rfl rfl ?_
        refine Jl.pv (PR.pickT rfl rfl) ?_
        refine Jl.nil ?_
        refine Jq.thenN ?_
        refine Jc.condT rfl ?_
        refine Jc.seq ?_
        refine Jc.region ?_
        refine Jl.pv (PR.assign rfl) ?_
        refine Jl.nil ?_
        refine Jq.thenN ?_
        refine Jc.ret ?_
        refine Jq.thenR ?_
        exact Jq.fin () (.inl rfl) rfl (RetVs.tmp rfl RetVs.nil) (by rw [Cl.ok_no (fun h => by have := h.dr; simp_all)]; rfl) (by repeat (first | exact Take.nil | apply Take.cons (by repeat (first | exact Del.here | apply Del.there)))) (by repeat (first | exact trivial | refine And.intro (by repeat (first | exact Mem.here | apply Mem.there)) ?_))
      · try replace g21 := of_decide_eq_false g21
        refine Jl.on rfl rfl ?_
        refine Jl.pv (PR.fieldAddr rfl tfl24_3) ?_
        refine Jl.on rfl rfl ?_
        refine Jl.pv (PR.load1 rfl tsh3 (by repeat (first | exact Has.here | apply Has.there)) (by rfl)) ?_
        refine Jl.on rfl rfl ?_
        refine Jl.call (rnumber_ct c.now) en17 (by rfl) (by repeat (first | exact Take.nil | apply Take.cons (by repeat (first | exact Del.here | apply Del.there)))) (by repeat (first | exact trivial | refine And.intro (by repeat (first | exact Mem.here | apply Mem.there)) ?_)) ?_
        rintro ⟨⟩
        refine Jl.on rfl rfl ?_
        refine Jl.pv (PR.not rfl) ?_
        refine Jl.pv (PR.pickF rfl rfl) ?_
        refine Jl.nil ?_
        refine Jq.thenN ?_
        refine Jc.cond rfl (fun h0 => ?_) (fun h0 => ?_)
        · try replace h0 := of_decide_eq_true h0
          refine Jc.seq ?_
          refine Jc.region ?_
          refine Jl.pv (PR.assign rfl) ?_
          refine Jl.nil ?_
          refine Jq.thenN ?_
          refine Jc.ret ?_
          refine Jq.thenR ?_
          exact Jq.fin () (.inl rfl) rfl (RetVs.tmp rfl RetVs.nil) (by rw [Cl.ok_no (fun h => by have := h.now; simp_all)]; rfl) (by repeat (first | exact Take.nil | apply Take.cons (by repeat (first | exact Del.here | apply Del.there)))) (by repeat (first | exact trivial | refine And.intro (by repeat (first | exact Mem.here | apply Mem.there)) ?_))
        · try replace h0 := of_decide_eq_false h0
          replace g15 := not_false g15
          replace g21 := not_false g21
          replace h0 := not_false h0
          refine Jc.skip ?_
          refine Jq.thenN ?_
          refine Jc.seq ?_
          refine Jc.seq ?_
          refine Jc.region ?_
          refine Jl.pv (PR.assign rfl) ?_
          refine Jl.nil ?_
          refine Jq.thenN ?_
          refine Jc.block ?_
          refine Jc.loop (σ := { k : Nat // k ≤ c.bs.length ∧ ∀ i, i < k → (h : i < c.bs.length) → c.bs[i].okAt i ∧ ∀ q, (hq : q < i) → 0 < c.bs[i].tok → c.bs[q].tok ≠ c.bs[i].tok }) (fun s => [(3, .int .i64 (s.1 : Int)), (1, .pointer (some ⟨b1, 0, none⟩))]) (fun _ => [.blk b1 24 (c.cs (A, cA))]) (fun _ => [.rd A (bxsV c.bs)]) (fun s => c.bs.length - s.1) ⟨0, Nat.zero_le _, fun _ h => by omega⟩ (by repeat (first | exact trivial | refine And.intro rfl ?_)) rfl (by repeat (first | exact trivial | refine And.intro (by repeat (first | exact Mem.here | apply Mem.there)) ?_)) ?_
          rintro ⟨k, hk, hI⟩
          show Jc _ _ _ _ _ _ [(3, Value.int .i64 (k : Int)), (1, .pointer (some ⟨b1, 0, none⟩))] [.blk b1 24 (c.cs (A, cA))] [.rd A (bxsV c.bs)]
          refine Jc.seq ?_
          refine Jc.seq ?_
          refine Jc.region ?_
          refine Jl.pv (PR.move rfl) ?_
          refine Jl.pv (PR.fieldAddr rfl tfl24_0) ?_
          refine Jl.pv (PR.load1 rfl tsh22 (by repeat (first | exact Has.here | apply Has.there)) (by rfl)) ?_
          refine Jl.pv (PR.len rfl tsl22) ?_
          refine Jl.pv (PR.lss _ rfl rfl rfl) ?_
          refine Jl.nil ?_
          refine Jq.thenN ?_
          refine Jc.cond rfl (fun h1 => ?_) (fun h1 => ?_)
          · try replace h1 := of_decide_eq_true h1
            have hlt : k < c.bs.length := by omega
            refine Jc.skip ?_
            refine Jq.thenN ?_
            refine Jc.seq ?_
            refine Jc.block ?_
            refine Jc.seq ?_
            refine Jc.seq ?_
            refine Jc.region ?_
            refine Jl.pv (PR.fieldAddr rfl tfl24_0) ?_
            refine Jl.pv (PR.load1 rfl tsh22 (by repeat (first | exact Has.here | apply Has.there)) (by rfl)) ?_
            refine Jl.pv (PR.move rfl) ?_
            refine Jl.pv (PR.idx k rfl rfl tsl22 (by repeat (first | exact Mem.here | apply Mem.there)) (bxsV_len _) (by omega) rfl hlt) ?_
            refine Jl.pv (PR.loadRA rfl tsh33 (by repeat (first | exact Mem.here | apply Mem.there)) (by decide) (bxs_at hlt)) ?_
            refine Jl.pv (PR.move rfl) ?_
            refine Jl.call (rbox_ct c.bs[k] k (by omega)) en18 (by rfl) (by repeat (first | exact Take.nil | apply Take.cons (by repeat (first | exact Del.here | apply Del.there)))) (by repeat (first | exact trivial | refine And.intro (by repeat (first | exact Mem.here | apply Mem.there)) ?_)) ?_
            rintro ⟨⟩
            refine Jl.pv (PR.not rfl) ?_
            refine Jl.nil ?_
            refine Jq.thenN ?_
            refine Jc.cond rfl (fun h2 => ?_) (fun h2 => ?_)
            · try replace h2 := of_decide_eq_true h2
              refine Jc.seq ?_
              refine Jc.region ?_
              refine Jl.pv (PR.assign rfl) ?_
              refine Jl.nil ?_
              refine Jq.thenN ?_
              refine Jc.ret ?_
              refine Jq.thenR ?_
              refine Jq.blkR ?_
              refine Jq.thenR ?_
              refine Jq.thenR ?_
              refine Jq.blkR ?_
              refine Jq.thenR ?_
              exact Jq.fin () (.inl rfl) rfl (RetVs.tmp rfl RetVs.nil) (by rw [Cl.ok_no (fun h => by have := okB_yes.2 (h.bs k hlt).1; simp_all)]; rfl) (by repeat (first | exact Take.nil | apply Take.cons (by repeat (first | exact Del.here | apply Del.there)))) (by repeat (first | exact trivial | refine And.intro (by repeat (first | exact Mem.here | apply Mem.there)) ?_))
            · try replace h2 := of_decide_eq_false h2
              replace h2 := okB_yes.1 (not_false h2)
              refine Jc.skip ?_
              refine Jq.thenN ?_
              refine Jc.seq ?_
              refine Jc.region ?_
              refine Jl.pv (PR.assign rfl) ?_
              refine Jl.nil ?_
              refine Jq.thenN ?_
              refine Jc.block ?_
              refine Jc.loop (σ := { j : Nat // j ≤ k ∧ ∀ q, q < j → (hq : q < k) → 0 < c.bs[k].tok → c.bs[q].tok ≠ c.bs[k].tok }) (fun s => [(4, .int .i64 (s.1 : Int)), (3, .int .i64 (k : Int)), (1, .pointer (some ⟨b1, 0, none⟩))]) (fun _ => [.blk b1 24 (c.cs (A, cA))]) (fun _ => [.rd A (bxsV c.bs)]) (fun s => k - s.1) ⟨0, Nat.zero_le _, fun _ h => by omega⟩ (by repeat (first | exact trivial | refine And.intro rfl ?_)) rfl (by repeat (first | exact trivial | refine And.intro (by repeat (first | exact Mem.here | apply Mem.there)) ?_)) ?_
              rintro ⟨j, hj, hJ⟩
              show Jc _ _ _ _ _ _ [(4, Value.int .i64 (j : Int)), (3, .int .i64 (k : Int)), (1, .pointer (some ⟨b1, 0, none⟩))] [.blk b1 24 (c.cs (A, cA))] [.rd A (bxsV c.bs)]
              refine Jc.seq ?_
              refine Jc.seq ?_
              refine Jc.region ?_
              refine Jl.pv (PR.move rfl) ?_
              refine Jl.pv (PR.move rfl) ?_
              refine Jl.pv (PR.lss _ rfl rfl rfl) ?_
              refine Jl.nil ?_
              refine Jq.thenN ?_
              refine Jc.cond rfl (fun h3 => ?_) (fun h3 => ?_)
              · try replace h3 := of_decide_eq_true h3
                have hjl : j < k := by omega
                have hjl2 : j < c.bs.length := by omega
                refine Jc.skip ?_
                refine Jq.thenN ?_
                refine Jc.seq ?_
                refine Jc.block ?_
                refine Jc.seq ?_
                refine Jc.drawn [0, 1, 0, 7, 15, 31, 63, 127, 255, 511, 255, 2047, 4095, 8191, 255, 16639, 255, 114943, 246015, 508159, 1048575, 2097151] ([(0, false), (1, false), (2, false), (3, false), (4, false), (5, false), (6, false), (7, false), (8, false), (9, false), (10, false), (11, false), (12, false), (13, false), (14, false), (15, false), (16, false), (17, false), (18, false), (19, false), (20, false), (21, false)], []) [] tmx (by kernel_rfl) ?_
                refine Dh.JH.nil ?_
                refine Dh.JB.pv rfl trivial (fun _ => PR.fieldAddr rfl tfl24_0) ?_
                refine Dh.JB.rd [.blk _ _ _] rfl trivial (by repeat (first | exact Take.nil | apply Take.cons (by repeat (first | exact Del.here | apply Del.there)))) (fun _ => PR.load1 rfl tsh22 Has.here (by rfl)) ?_
                refine Dh.JB.pv rfl trivial (fun _ => PR.move rfl) ?_
                refine Dh.JB.pv rfl trivial (fun _ => PR.idx k rfl rfl tsl22 (by repeat (first | exact Mem.here | apply Mem.there)) (bxsV_len _) (by omega) rfl hlt) ?_
                refine Dh.JB.pv rfl trivial (fun _ => PR.fieldAddrR rfl tfl33_1 (by repeat (first | exact Mem.here | apply Mem.there)) (by rw [bxsV_len]; omega)) ?_
                refine Dh.JB.pv rfl trivial (fun _ => PR.loadR rfl tsh3 (by repeat (first | exact Mem.here | apply Mem.there)) (bxs_f hlt 1 rfl)) ?_
                refine Dh.JB.pv rfl trivial (fun _ => PR.gtr _ rfl rfl rfl) ?_
                refine Dh.JB.pv rfl trivial (fun _ => PR.move rfl) ?_
                refine Dh.JB.bsplit (fun g54 => ?_) (fun g54 => ?_)
                · try replace g54 := of_decide_eq_true g54
                  refine Dh.JB.pv rfl ⟨_, rfl, rfl⟩ (fun _ => PR.fieldAddr rfl tfl24_0) ?_
                  refine Dh.JB.rd [.blk _ _ _] rfl ⟨_, rfl, rfl⟩ (by repeat (first | exact Take.nil | apply Take.cons (by repeat (first | exact Del.here | apply Del.there)))) (fun _ => PR.load1 rfl tsh22 Has.here (by rfl)) ?_
                  refine Dh.JB.pv rfl ⟨_, rfl, rfl⟩ (fun _ => PR.move rfl) ?_
                  refine Dh.JB.pv rfl ⟨_, rfl, rfl⟩ (fun _ => PR.idx j rfl rfl tsl22 (by repeat (first | exact Mem.here | apply Mem.there)) (bxsV_len _) (by omega) rfl hjl2) ?_
                  refine Dh.JB.pv rfl ⟨_, rfl, rfl⟩ (fun _ => PR.fieldAddrR rfl tfl33_1 (by repeat (first | exact Mem.here | apply Mem.there)) (by rw [bxsV_len]; omega)) ?_
                  refine Dh.JB.pv rfl ⟨_, rfl, rfl⟩ (fun _ => PR.loadR rfl tsh3 (by repeat (first | exact Mem.here | apply Mem.there)) (bxs_f hjl2 1 rfl)) ?_
                  refine Dh.JB.pv rfl ⟨_, rfl, rfl⟩ (fun _ => PR.fieldAddr rfl tfl24_0) ?_
                  refine Dh.JB.rd [.blk _ _ _] rfl ⟨_, rfl, rfl⟩ (by repeat (first | exact Take.nil | apply Take.cons (by repeat (first | exact Del.here | apply Del.there)))) (fun _ => PR.load1 rfl tsh22 Has.here (by rfl)) ?_
                  refine Dh.JB.pv rfl ⟨_, rfl, rfl⟩ (fun _ => PR.move rfl) ?_
                  refine Dh.JB.pv rfl ⟨_, rfl, rfl⟩ (fun _ => PR.idx k rfl rfl tsl22 (by repeat (first | exact Mem.here | apply Mem.there)) (bxsV_len _) (by omega) rfl hlt) ?_
                  refine Dh.JB.pv rfl ⟨_, rfl, rfl⟩ (fun _ => PR.fieldAddrR rfl tfl33_1 (by repeat (first | exact Mem.here | apply Mem.there)) (by rw [bxsV_len]; omega)) ?_
                  refine Dh.JB.pv rfl ⟨_, rfl, rfl⟩ (fun _ => PR.loadR rfl tsh3 (by repeat (first | exact Mem.here | apply Mem.there)) (bxs_f hlt 1 rfl)) ?_
                  refine Dh.JB.pv rfl ⟨_, rfl, rfl⟩ (fun _ => PR.eql _ rfl rfl rfl) ?_
                  refine Dh.JB.pv rfl trivial (fun _ => PR.pickT rfl rfl) ?_
                  refine Dh.JB.nil ?_
                  refine Dh.JL.nil ?_
                  refine Jq.thenN ?_
                  refine Jc.cond rfl (fun h4 => ?_) (fun h4 => ?_)
                  · try replace h4 := of_decide_eq_true h4
                    refine Jc.seq ?_
                    refine Jc.region ?_
                    refine Jl.pv (PR.assign rfl) ?_
                    refine Jl.nil ?_
                    refine Jq.thenN ?_
                    refine Jc.ret ?_
                    refine Jq.blkR ?_
                    refine Jq.thenR ?_
                    refine Jq.thenR ?_
                    refine Jq.blkR ?_
                    refine Jq.blkR ?_
                    refine Jq.thenR ?_
                    refine Jq.thenR ?_
                    refine Jq.blkR ?_
                    refine Jq.thenR ?_
                    exact Jq.fin () (.inl rfl) rfl (RetVs.tmp rfl RetVs.nil) (by rw [Cl.ok_no (fun h => (h.bs k hlt).2 j hjl g54 h4)]; rfl) (by repeat (first | exact Take.nil | apply Take.cons (by repeat (first | exact Del.here | apply Del.there)))) (by repeat (first | exact trivial | refine And.intro (by repeat (first | exact Mem.here | apply Mem.there)) ?_))
                  · try replace h4 := of_decide_eq_false h4
                    refine Jc.skip ?_
                    refine Jq.blkN ?_
                    refine Jq.thenN ?_
                    refine Jc.region ?_
                    refine Jl.pv (PR.move rfl) ?_
                    refine Jl.pv (PR.add ((j + 1 : Nat) : Int) rfl rfl (by rw [w64 (by omega) (by omega)]; rfl)) ?_
                    refine Jl.pv (PR.assign rfl) ?_
                    refine Jl.nil ?_
                    refine Jq.again ⟨j + 1, hjl, fun q hq hqk ht => (Nat.lt_succ_iff_lt_or_eq.1 hq).elim (fun h => hJ q h hqk ht) (fun e => by subst e; exact h4)⟩ (by simp only; omega) (by repeat (first | exact trivial | refine And.intro rfl ?_)) rfl (by repeat (first | exact trivial | refine And.intro (by repeat (first | exact Mem.here | apply Mem.there)) ?_))
                · try replace g54 := of_decide_eq_false g54
                  refine Dh.JB.off rfl ⟨_, rfl, .inr rfl⟩ ?_
                  refine Dh.JB.off rfl ⟨_, rfl, .inr rfl⟩ ?_
                  refine Dh.JB.off rfl ⟨_, rfl, .inr rfl⟩ ?_
                  refine Dh.JB.off rfl ⟨_, rfl, .inr rfl⟩ ?_
                  refine Dh.JB.off rfl ⟨_, rfl, .inr rfl⟩ ?_
                  refine Dh.JB.off rfl ⟨_, rfl, .inr rfl⟩ ?_
                  refine Dh.JB.off rfl ⟨_, rfl, .inr rfl⟩ ?_
                  refine Dh.JB.off rfl ⟨_, rfl, .inr rfl⟩ ?_
                  refine Dh.JB.off rfl ⟨_, rfl, .inr rfl⟩ ?_
                  refine Dh.JB.off rfl ⟨_, rfl, .inr rfl⟩ ?_
                  refine Dh.JB.off rfl ⟨_, rfl, .inr rfl⟩ ?_
                  refine Dh.JB.off rfl ⟨_, rfl, .inr rfl⟩ ?_
                  refine Dh.JB.off rfl ⟨_, rfl, .inr rfl⟩ ?_
                  refine Dh.JB.pv rfl trivial (fun _ => PR.pickF rfl rfl) ?_
                  refine Dh.JB.nil ?_
                  refine Dh.JL.nil ?_
                  refine Jq.thenN ?_
                  refine Jc.condF rfl ?_
                  refine Jc.skip ?_
                  refine Jq.blkN ?_
                  refine Jq.thenN ?_
                  refine Jc.region ?_
                  refine Jl.pv (PR.move rfl) ?_
                  refine Jl.pv (PR.add ((j + 1 : Nat) : Int) rfl rfl (by rw [w64 (by omega) (by omega)]; rfl)) ?_
                  refine Jl.pv (PR.assign rfl) ?_
                  refine Jl.nil ?_
                  refine Jq.again ⟨j + 1, hjl, fun q hq hqk ht => (g54 ht).elim⟩ (by simp only; omega) (by repeat (first | exact trivial | refine And.intro rfl ?_)) rfl (by repeat (first | exact trivial | refine And.intro (by repeat (first | exact Mem.here | apply Mem.there)) ?_))
              · try replace h3 := of_decide_eq_false h3
                refine Jc.exit ?_
                refine Jq.thenX ?_
                refine Jq.thenX ?_
                refine Jq.blkX ?_
                refine Jq.blkN ?_
                refine Jq.thenN ?_
                refine Jc.region ?_
                refine Jl.pv (PR.move rfl) ?_
                refine Jl.pv (PR.add ((k + 1 : Nat) : Int) rfl rfl (by rw [w64 (by omega) (by omega)]; rfl)) ?_
                refine Jl.pv (PR.assign rfl) ?_
                refine Jl.nil ?_
                refine Jq.again ⟨k + 1, hlt, fun i hi hil => (Nat.lt_succ_iff_lt_or_eq.1 hi).elim (fun h => hI i h hil) (fun e => by subst e; exact ⟨h2, fun q hq ht => hJ q (by omega) hq ht⟩)⟩ (by simp only; omega) (by repeat (first | exact trivial | refine And.intro rfl ?_)) rfl (by repeat (first | exact trivial | refine And.intro (by repeat (first | exact Mem.here | apply Mem.there)) ?_))
          · try replace h1 := of_decide_eq_false h1
            refine Jc.exit ?_
            refine Jq.thenX ?_
            refine Jq.thenX ?_
            refine Jq.blkX ?_
            refine Jq.thenN ?_
            refine Jc.seq ?_
            refine Jc.region ?_
            refine Jl.pv (PR.assign rfl) ?_
            refine Jl.nil ?_
            refine Jq.thenN ?_
            refine Jc.ret ?_
            exact Jq.fin () (.inl rfl) rfl (RetVs.tmp rfl RetVs.nil) (by rw [Cl.ok_iff.2 ⟨by omega, g15, g21, h0, fun i hi => hI i (by omega) hi⟩]; rfl) (by repeat (first | exact Take.nil | apply Take.cons (by repeat (first | exact Del.here | apply Del.there)))) (by repeat (first | exact trivial | refine And.intro (by repeat (first | exact Mem.here | apply Mem.there)) ?_))
theorem rright_ct (c : Cl) (x : AdC) (hn : c.bs.length ≤ 1000000) : Ct Try.prog 8 [c.v x] [] [.rd x.1 (bxsV c.bs)] (fun _ : Unit => .bool c.ok) (fun _ => []) (fun _ => []) := rright'_ct c x
theorem rown_ct (c : Cl) (x : AdC) (hn : c.bs.length ≤ 1000000) : Ct Try.prog 15 [c.v x] [] [.rd x.1 (bxsV c.bs)] c.v (fun x => [c.row x]) (fun _ => []) := by
  obtain ⟨A, cA⟩ := x
  refine Ct.of _ Try.func15 Try.ntmps15 rfl rfl (fun X W => ?_)
  refine Jc.seq ?_
  refine Jc.region ?_
  refine Jl.box rfl (by rfl) ?_
  intro b1
  refine Jl.alloc tze24 ?_
  intro b2
  refine Jl.nil ?_
  refine Jq.thenN ?_
  refine Jc.seq ?_
  refine Jc.region ?_
  refine Jl.buildSlice (by rfl) tsl22 tzr22_0 (by rfl) (by rfl) ?_
  intro b3
  refine Jl.pv (PR.fieldAddr rfl tfl24_0) ?_
  refine Jl.pv (PR.load1 rfl tsh22 (by repeat (first | exact Has.here | apply Has.there)) (by rfl)) ?_
  refine Jl.toRow 11 0 (by repeat (first | exact Swap.here | apply Swap.there)) (by rfl) (by rfl) ?_
  refine Jl.append c.bs.length (bxsV c.bs) rfl rfl rfl tsl22 tze33 (by rfl) (by decide) tby33 (fun _ _ => (by repeat (first | exact Swap.here | apply Swap.there))) (by repeat (first | exact Mem.here | apply Mem.there)) (by omega) rfl (bxsV_len _) (bxs_one _) (by omega) (by decide) ?_
  intro A6 c6
  refine Jl.pv (PR.fieldAddr rfl tfl24_0) ?_
  refine Jl.store1 rfl tsh22 rfl (by rfl) (by repeat (first | exact Swap.here | apply Swap.there)) (by rfl) ?_
  refine Jl.nil ?_
  refine Jq.thenN ?_
  refine Jc.seq ?_
  refine Jc.region ?_
  refine Jl.pv (PR.loadW rfl tsh24 (by repeat (first | exact Has.here | apply Has.there)) (by rfl)) ?_
  refine Jl.storeW rfl tsh24 rfl (by rfl) (by first | exact Cl.cs_one _ _ | simp [Value.oneCell']) (by repeat (first | exact Swap.here | apply Swap.there)) (by rfl) ?_
  refine Jl.nil ?_
  refine Jq.thenN ?_
  refine Jc.ret ?_
  exact Jq.fin (A6, c6) (.inl rfl) rfl (RetVs.cellA rfl (by repeat (first | exact Has.here | apply Has.there)) tsh24 (by rfl) RetVs.nil) rfl (by repeat (first | exact Take.nil | apply Take.cons (by repeat (first | exact Del.here | apply Del.there)))) (by repeat (first | exact trivial | refine And.intro (by repeat (first | exact Mem.here | apply Mem.there)) ?_))
end Go.Proofs.Ytoackajhekdckaa
