/-
Contracts of counts.
-/
import Derived.Test.YtiebgcahdnaekaaDoorCfA
import Derived.Test.YtiebgcahdnaekaaDoorBrP
namespace Go.Proofs.YtiebgcahdnaekaaDoor
set_option linter.unusedVariables false
open Go.RowKit
attribute [local irreducible] Res.blk Res.row Fact.rd
theorem pgoes_ct (p : UInt8) : Ct Tryd.prog 38 [.int .u8 p.toNat] [] [] (fun _ : Unit => .bool (goes p)) (fun _ => []) (fun _ => []) := by
  refine Ct.of _ Tryd.func38 Tryd.ntmps38 rfl rfl (fun X W => ?_)
  refine Jc.seq ?_
  refine Jc.region ?_
  refine Jl.pv (PR.assign rfl) ?_
  refine Jl.nil ?_
  refine Jq.thenN ?_
  refine Jc.seq ?_
  refine Jc.region ?_
  refine Jl.pv (PR.move rfl) ?_
  refine Jl.pv (PR.geq _ rfl rfl rfl) ?_
  refine Jl.pv (PR.move rfl) ?_
  refine Jl.bsplit (fun g5 => ?_) (fun g5 => ?_)
  · try replace g5 := of_decide_eq_true g5
    refine Jl.on rfl rfl ?_
    refine Jl.pv (PR.move rfl) ?_
    refine Jl.on rfl rfl ?_
    refine Jl.pv (PR.leq _ rfl rfl rfl) ?_
    refine Jl.pv (PR.pickT rfl rfl) ?_
    refine Jl.pv (PR.assign rfl) ?_
    refine Jl.nil ?_
    refine Jq.thenN ?_
    refine Jc.ret ?_
    exact Jq.fin () (.inl rfl) rfl (RetVs.tmp rfl RetVs.nil) (congrArg Value.bool (show goes p = _ by rw [Bool.eq_iff_iff]; simp [goes] <;> omega)) (by repeat (first | exact Take.nil | apply Take.cons (by repeat (first | exact Del.here | apply Del.there)))) (by repeat (first | exact trivial | refine And.intro (by repeat (first | exact Mem.here | apply Mem.there)) ?_))
  · try replace g5 := of_decide_eq_false g5
    refine Jl.offS rfl rfl rfl ?_
    refine Jl.offS rfl rfl rfl ?_
    refine Jl.pv (PR.pickF rfl rfl) ?_
    refine Jl.pv (PR.assign rfl) ?_
    refine Jl.nil ?_
    refine Jq.thenN ?_
    refine Jc.ret ?_
    exact Jq.fin () (.inl rfl) rfl (RetVs.tmp rfl RetVs.nil) (congrArg Value.bool (show goes p = _ by rw [Bool.eq_iff_iff]; simp [goes] <;> omega)) (by repeat (first | exact Take.nil | apply Take.cons (by repeat (first | exact Del.here | apply Del.there)))) (by repeat (first | exact trivial | refine And.intro (by repeat (first | exact Mem.here | apply Mem.there)) ?_))
theorem pstands_ct (p : UInt8) : Ct Tryd.prog 42 [.int .u8 p.toNat] [] [] (fun _ : Unit => .bool (stands p)) (fun _ => []) (fun _ => []) := by
  by_cases h0 : p.toNat = 1
  · skip
    refine Ct.of _ Tryd.func42 Tryd.ntmps42 rfl rfl (fun X W => ?_)
    refine Jc.seq ?_
    refine Jc.region ?_
    refine Jl.pv (PR.assign rfl) ?_
    refine Jl.nil ?_
    refine Jq.thenN ?_
    refine Jc.seq ?_
    refine Jc.seq ?_
    refine Jc.region ?_
    refine Jl.pv (PR.move rfl) ?_
    refine Jl.nil ?_
    refine Jq.thenN ?_
    refine Jc.block ?_
    refine Jc.seq ?_
    refine Jc.seq ?_
    refine Jc.region ?_
    refine Jl.pv (PR.eql true rfl rfl (by simp [h0])) ?_
    refine Jl.pv (PR.assign rfl) ?_
    refine Jl.nil ?_
    refine Jq.thenN ?_
    refine Jc.condT rfl ?_
    refine Jc.skip ?_
    refine Jq.thenN ?_
    refine Jc.condT rfl ?_
    refine Jc.seq ?_
    refine Jc.region ?_
    refine Jl.pv (PR.assign rfl) ?_
    refine Jl.nil ?_
    refine Jq.thenN ?_
    refine Jc.ret ?_
    refine Jq.blkR ?_
    refine Jq.thenR ?_
    exact Jq.fin () (.inl rfl) rfl (RetVs.tmp rfl RetVs.nil) (congrArg Value.bool (show stands p = _ by rw [Bool.eq_iff_iff]; simp [stands] <;> omega)) (by repeat (first | exact Take.nil | apply Take.cons (by repeat (first | exact Del.here | apply Del.there)))) (by repeat (first | exact trivial | refine And.intro (by repeat (first | exact Mem.here | apply Mem.there)) ?_))
  · skip
    by_cases h1 : p.toNat = 2
    · skip
      refine Ct.of _ Tryd.func42 Tryd.ntmps42 rfl rfl (fun X W => ?_)
      refine Jc.seq ?_
      refine Jc.region ?_
      refine Jl.pv (PR.assign rfl) ?_
      refine Jl.nil ?_
      refine Jq.thenN ?_
      refine Jc.seq ?_
      refine Jc.seq ?_
      refine Jc.region ?_
      refine Jl.pv (PR.move rfl) ?_
      refine Jl.nil ?_
      refine Jq.thenN ?_
      refine Jc.block ?_
      refine Jc.seq ?_
      refine Jc.seq ?_
      refine Jc.region ?_
      refine Jl.pv (PR.eql false rfl rfl (by simp; omega)) ?_
      refine Jl.pv (PR.assign rfl) ?_
      refine Jl.nil ?_
      refine Jq.thenN ?_
      refine Jc.condF rfl ?_
      refine Jc.seq ?_
      refine Jc.region ?_
      refine Jl.pv (PR.eql true rfl rfl (by simp [h1])) ?_
      refine Jl.pv (PR.assign rfl) ?_
      refine Jl.nil ?_
      refine Jq.thenN ?_
      refine Jc.condT rfl ?_
      refine Jc.skip ?_
      refine Jq.thenN ?_
      refine Jc.condT rfl ?_
      refine Jc.seq ?_
      refine Jc.region ?_
      refine Jl.pv (PR.assign rfl) ?_
      refine Jl.nil ?_
      refine Jq.thenN ?_
      refine Jc.ret ?_
      refine Jq.blkR ?_
      refine Jq.thenR ?_
      exact Jq.fin () (.inl rfl) rfl (RetVs.tmp rfl RetVs.nil) (congrArg Value.bool (show stands p = _ by rw [Bool.eq_iff_iff]; simp [stands] <;> omega)) (by repeat (first | exact Take.nil | apply Take.cons (by repeat (first | exact Del.here | apply Del.there)))) (by repeat (first | exact trivial | refine And.intro (by repeat (first | exact Mem.here | apply Mem.there)) ?_))
    · skip
      by_cases h2 : p.toNat = 3
      · skip
        refine Ct.of _ Tryd.func42 Tryd.ntmps42 rfl rfl (fun X W => ?_)
        refine Jc.seq ?_
        refine Jc.region ?_
        refine Jl.pv (PR.assign rfl) ?_
        refine Jl.nil ?_
        refine Jq.thenN ?_
        refine Jc.seq ?_
        refine Jc.seq ?_
        refine Jc.region ?_
        refine Jl.pv (PR.move rfl) ?_
        refine Jl.nil ?_
        refine Jq.thenN ?_
        refine Jc.block ?_
        refine Jc.seq ?_
        refine Jc.seq ?_
        refine Jc.region ?_
        refine Jl.pv (PR.eql false rfl rfl (by simp; omega)) ?_
        refine Jl.pv (PR.assign rfl) ?_
        refine Jl.nil ?_
        refine Jq.thenN ?_
        refine Jc.condF rfl ?_
        refine Jc.seq ?_
        refine Jc.region ?_
        refine Jl.pv (PR.eql false rfl rfl (by simp; omega)) ?_
        refine Jl.pv (PR.assign rfl) ?_
        refine Jl.nil ?_
        refine Jq.thenN ?_
        refine Jc.condF rfl ?_
        refine Jc.seq ?_
        refine Jc.region ?_
        refine Jl.pv (PR.eql true rfl rfl (by simp [h2])) ?_
        refine Jl.pv (PR.assign rfl) ?_
        refine Jl.nil ?_
        refine Jq.thenN ?_
        refine Jc.condT rfl ?_
        refine Jc.skip ?_
        refine Jq.thenN ?_
        refine Jc.condT rfl ?_
        refine Jc.seq ?_
        refine Jc.region ?_
        refine Jl.pv (PR.assign rfl) ?_
        refine Jl.nil ?_
        refine Jq.thenN ?_
        refine Jc.ret ?_
        refine Jq.blkR ?_
        refine Jq.thenR ?_
        exact Jq.fin () (.inl rfl) rfl (RetVs.tmp rfl RetVs.nil) (congrArg Value.bool (show stands p = _ by rw [Bool.eq_iff_iff]; simp [stands] <;> omega)) (by repeat (first | exact Take.nil | apply Take.cons (by repeat (first | exact Del.here | apply Del.there)))) (by repeat (first | exact trivial | refine And.intro (by repeat (first | exact Mem.here | apply Mem.there)) ?_))
      · skip
        by_cases h3 : p.toNat = 4
        · skip
          refine Ct.of _ Tryd.func42 Tryd.ntmps42 rfl rfl (fun X W => ?_)
          refine Jc.seq ?_
          refine Jc.region ?_
          refine Jl.pv (PR.assign rfl) ?_
          refine Jl.nil ?_
          refine Jq.thenN ?_
          refine Jc.seq ?_
          refine Jc.seq ?_
          refine Jc.region ?_
          refine Jl.pv (PR.move rfl) ?_
          refine Jl.nil ?_
          refine Jq.thenN ?_
          refine Jc.block ?_
          refine Jc.seq ?_
          refine Jc.seq ?_
          refine Jc.region ?_
          refine Jl.pv (PR.eql false rfl rfl (by simp; omega)) ?_
          refine Jl.pv (PR.assign rfl) ?_
          refine Jl.nil ?_
          refine Jq.thenN ?_
          refine Jc.condF rfl ?_
          refine Jc.seq ?_
          refine Jc.region ?_
          refine Jl.pv (PR.eql false rfl rfl (by simp; omega)) ?_
          refine Jl.pv (PR.assign rfl) ?_
          refine Jl.nil ?_
          refine Jq.thenN ?_
          refine Jc.condF rfl ?_
          refine Jc.seq ?_
          refine Jc.region ?_
          refine Jl.pv (PR.eql false rfl rfl (by simp; omega)) ?_
          refine Jl.pv (PR.assign rfl) ?_
          refine Jl.nil ?_
          refine Jq.thenN ?_
          refine Jc.condF rfl ?_
          refine Jc.seq ?_
          refine Jc.region ?_
          refine Jl.pv (PR.eql true rfl rfl (by simp [h3])) ?_
          refine Jl.pv (PR.assign rfl) ?_
          refine Jl.nil ?_
          refine Jq.thenN ?_
          refine Jc.condT rfl ?_
          refine Jc.skip ?_
          refine Jq.thenN ?_
          refine Jc.condT rfl ?_
          refine Jc.seq ?_
          refine Jc.region ?_
          refine Jl.pv (PR.assign rfl) ?_
          refine Jl.nil ?_
          refine Jq.thenN ?_
          refine Jc.ret ?_
          refine Jq.blkR ?_
          refine Jq.thenR ?_
          exact Jq.fin () (.inl rfl) rfl (RetVs.tmp rfl RetVs.nil) (congrArg Value.bool (show stands p = _ by rw [Bool.eq_iff_iff]; simp [stands] <;> omega)) (by repeat (first | exact Take.nil | apply Take.cons (by repeat (first | exact Del.here | apply Del.there)))) (by repeat (first | exact trivial | refine And.intro (by repeat (first | exact Mem.here | apply Mem.there)) ?_))
        · skip
          by_cases h4 : p.toNat = 10
          · skip
            refine Ct.of _ Tryd.func42 Tryd.ntmps42 rfl rfl (fun X W => ?_)
            refine Jc.seq ?_
            refine Jc.region ?_
            refine Jl.pv (PR.assign rfl) ?_
            refine Jl.nil ?_
            refine Jq.thenN ?_
            refine Jc.seq ?_
            refine Jc.seq ?_
            refine Jc.region ?_
            refine Jl.pv (PR.move rfl) ?_
            refine Jl.nil ?_
            refine Jq.thenN ?_
            refine Jc.block ?_
            refine Jc.seq ?_
            refine Jc.seq ?_
            refine Jc.region ?_
            refine Jl.pv (PR.eql false rfl rfl (by simp; omega)) ?_
            refine Jl.pv (PR.assign rfl) ?_
            refine Jl.nil ?_
            refine Jq.thenN ?_
            refine Jc.condF rfl ?_
            refine Jc.seq ?_
            refine Jc.region ?_
            refine Jl.pv (PR.eql false rfl rfl (by simp; omega)) ?_
            refine Jl.pv (PR.assign rfl) ?_
            refine Jl.nil ?_
            refine Jq.thenN ?_
            refine Jc.condF rfl ?_
            refine Jc.seq ?_
            refine Jc.region ?_
            refine Jl.pv (PR.eql false rfl rfl (by simp; omega)) ?_
            refine Jl.pv (PR.assign rfl) ?_
            refine Jl.nil ?_
            refine Jq.thenN ?_
            refine Jc.condF rfl ?_
            refine Jc.seq ?_
            refine Jc.region ?_
            refine Jl.pv (PR.eql false rfl rfl (by simp; omega)) ?_
            refine Jl.pv (PR.assign rfl) ?_
            refine Jl.nil ?_
            refine Jq.thenN ?_
            refine Jc.condF rfl ?_
            refine Jc.region ?_
            refine Jl.pv (PR.eql true rfl rfl (by simp [h4])) ?_
            refine Jl.pv (PR.assign rfl) ?_
            refine Jl.nil ?_
            refine Jq.thenN ?_
            refine Jc.condT rfl ?_
            refine Jc.seq ?_
            refine Jc.region ?_
            refine Jl.pv (PR.assign rfl) ?_
            refine Jl.nil ?_
            refine Jq.thenN ?_
            refine Jc.ret ?_
            refine Jq.blkR ?_
            refine Jq.thenR ?_
            exact Jq.fin () (.inl rfl) rfl (RetVs.tmp rfl RetVs.nil) (congrArg Value.bool (show stands p = _ by rw [Bool.eq_iff_iff]; simp [stands] <;> omega)) (by repeat (first | exact Take.nil | apply Take.cons (by repeat (first | exact Del.here | apply Del.there)))) (by repeat (first | exact trivial | refine And.intro (by repeat (first | exact Mem.here | apply Mem.there)) ?_))
          · skip
            refine Ct.of _ Tryd.func42 Tryd.ntmps42 rfl rfl (fun X W => ?_)
            refine Jc.seq ?_
            refine Jc.region ?_
            refine Jl.pv (PR.assign rfl) ?_
            refine Jl.nil ?_
            refine Jq.thenN ?_
            refine Jc.seq ?_
            refine Jc.seq ?_
            refine Jc.region ?_
            refine Jl.pv (PR.move rfl) ?_
            refine Jl.nil ?_
            refine Jq.thenN ?_
            refine Jc.block ?_
            refine Jc.seq ?_
            refine Jc.seq ?_
            refine Jc.region ?_
            refine Jl.pv (PR.eql false rfl rfl (by simp; omega)) ?_
            refine Jl.pv (PR.assign rfl) ?_
            refine Jl.nil ?_
            refine Jq.thenN ?_
            refine Jc.condF rfl ?_
            refine Jc.seq ?_
            refine Jc.region ?_
            refine Jl.pv (PR.eql false rfl rfl (by simp; omega)) ?_
            refine Jl.pv (PR.assign rfl) ?_
            refine Jl.nil ?_
            refine Jq.thenN ?_
            refine Jc.condF rfl ?_
            refine Jc.seq ?_
            refine Jc.region ?_
            refine Jl.pv (PR.eql false rfl rfl (by simp; omega)) ?_
            refine Jl.pv (PR.assign rfl) ?_
            refine Jl.nil ?_
            refine Jq.thenN ?_
            refine Jc.condF rfl ?_
            refine Jc.seq ?_
            refine Jc.region ?_
            refine Jl.pv (PR.eql false rfl rfl (by simp; omega)) ?_
            refine Jl.pv (PR.assign rfl) ?_
            refine Jl.nil ?_
            refine Jq.thenN ?_
            refine Jc.condF rfl ?_
            refine Jc.region ?_
            refine Jl.pv (PR.eql false rfl rfl (by simp; omega)) ?_
            refine Jl.pv (PR.assign rfl) ?_
            refine Jl.nil ?_
            refine Jq.thenN ?_
            refine Jc.condF rfl ?_
            refine Jc.skip ?_
            refine Jq.blkN ?_
            refine Jq.thenN ?_
            refine Jc.seq ?_
            refine Jc.region ?_
            refine Jl.pv (PR.assign rfl) ?_
            refine Jl.nil ?_
            refine Jq.thenN ?_
            refine Jc.ret ?_
            exact Jq.fin () (.inl rfl) rfl (RetVs.tmp rfl RetVs.nil) (congrArg Value.bool (show stands p = _ by rw [Bool.eq_iff_iff]; simp [stands] <;> omega)) (by repeat (first | exact Take.nil | apply Take.cons (by repeat (first | exact Del.here | apply Del.there)))) (by repeat (first | exact trivial | refine And.intro (by repeat (first | exact Mem.here | apply Mem.there)) ?_))
theorem rgoes_ct (p : UInt8) : Ct Tryd.prog 11 [.int .u8 p.toNat] [] [] (fun _ : Unit => .bool (goes p)) (fun _ => []) (fun _ => []) := by
  refine Ct.of _ Tryd.func11 Tryd.ntmps11 rfl rfl (fun X W => ?_)
  refine Jc.seq ?_
  refine Jc.region ?_
  refine Jl.pv (PR.assign rfl) ?_
  refine Jl.nil ?_
  refine Jq.thenN ?_
  refine Jc.seq ?_
  refine Jc.region ?_
  refine Jl.pv (PR.move rfl) ?_
  refine Jl.pv (PR.eql _ rfl rfl rfl) ?_
  refine Jl.pv (PR.move rfl) ?_
  refine Jl.bsplit (fun g5 => ?_) (fun g5 => ?_)
  · try replace g5 := of_decide_eq_true g5
    refine Jl.offS rfl rfl rfl ?_
    refine Jl.offS rfl rfl rfl ?_
    refine Jl.pv (PR.pickT rfl rfl) ?_
    refine Jl.pv (PR.move rfl) ?_
    refine Jl.offS rfl rfl rfl ?_
    refine Jl.offS rfl rfl rfl ?_
    refine Jl.pv (PR.pickT rfl rfl) ?_
    refine Jl.pv (PR.move rfl) ?_
    refine Jl.offS rfl rfl rfl ?_
    refine Jl.offS rfl rfl rfl ?_
    refine Jl.pv (PR.pickT rfl rfl) ?_
    refine Jl.pv (PR.assign rfl) ?_
    refine Jl.nil ?_
    refine Jq.thenN ?_
    refine Jc.ret ?_
    exact Jq.fin () (.inl rfl) rfl (RetVs.tmp rfl RetVs.nil) (congrArg Value.bool (show goes p = _ by rw [Bool.eq_iff_iff]; simp [goes] <;> omega)) (by repeat (first | exact Take.nil | apply Take.cons (by repeat (first | exact Del.here | apply Del.there)))) (by repeat (first | exact trivial | refine And.intro (by repeat (first | exact Mem.here | apply Mem.there)) ?_))
  · try replace g5 := of_decide_eq_false g5
    refine Jl.on rfl rfl ?_
    refine Jl.pv (PR.move rfl) ?_
    refine Jl.on rfl rfl ?_
    refine Jl.pv (PR.eql _ rfl rfl rfl) ?_
    refine Jl.pv (PR.pickF rfl rfl) ?_
    refine Jl.pv (PR.move rfl) ?_
    refine Jl.bsplit (fun g9 => ?_) (fun g9 => ?_)
    · try replace g9 := of_decide_eq_true g9
      refine Jl.offS rfl rfl rfl ?_
      refine Jl.offS rfl rfl rfl ?_
      refine Jl.pv (PR.pickT rfl rfl) ?_
      refine Jl.pv (PR.move rfl) ?_
      refine Jl.offS rfl rfl rfl ?_
      refine Jl.offS rfl rfl rfl ?_
      refine Jl.pv (PR.pickT rfl rfl) ?_
      refine Jl.pv (PR.assign rfl) ?_
      refine Jl.nil ?_
      refine Jq.thenN ?_
      refine Jc.ret ?_
      exact Jq.fin () (.inl rfl) rfl (RetVs.tmp rfl RetVs.nil) (congrArg Value.bool (show goes p = _ by rw [Bool.eq_iff_iff]; simp [goes] <;> omega)) (by repeat (first | exact Take.nil | apply Take.cons (by repeat (first | exact Del.here | apply Del.there)))) (by repeat (first | exact trivial | refine And.intro (by repeat (first | exact Mem.here | apply Mem.there)) ?_))
    · try replace g9 := of_decide_eq_false g9
      refine Jl.on rfl rfl ?_
      refine Jl.pv (PR.move rfl) ?_
      refine Jl.on rfl rfl ?_
      refine Jl.pv (PR.eql _ rfl rfl rfl) ?_
      refine Jl.pv (PR.pickF rfl rfl) ?_
      refine Jl.pv (PR.move rfl) ?_
      refine Jl.bsplit (fun g13 => ?_) (fun g13 => ?_)
      · try replace g13 := of_decide_eq_true g13
        refine Jl.offS rfl rfl rfl ?_
        refine Jl.offS rfl rfl rfl ?_
        refine Jl.pv (PR.pickT rfl rfl) ?_
        refine Jl.pv (PR.assign rfl) ?_
        refine Jl.nil ?_
        refine Jq.thenN ?_
        refine Jc.ret ?_
        exact Jq.fin () (.inl rfl) rfl (RetVs.tmp rfl RetVs.nil) (congrArg Value.bool (show goes p = _ by rw [Bool.eq_iff_iff]; simp [goes] <;> omega)) (by repeat (first | exact Take.nil | apply Take.cons (by repeat (first | exact Del.here | apply Del.there)))) (by repeat (first | exact trivial | refine And.intro (by repeat (first | exact Mem.here | apply Mem.there)) ?_))
      · try replace g13 := of_decide_eq_false g13
        refine Jl.on rfl rfl ?_
        refine Jl.pv (PR.move rfl) ?_
        refine Jl.on rfl rfl ?_
        refine Jl.pv (PR.eql _ rfl rfl rfl) ?_
        refine Jl.pv (PR.pickF rfl rfl) ?_
        refine Jl.pv (PR.assign rfl) ?_
        refine Jl.nil ?_
        refine Jq.thenN ?_
        refine Jc.ret ?_
        exact Jq.fin () (.inl rfl) rfl (RetVs.tmp rfl RetVs.nil) (congrArg Value.bool (show goes p = _ by rw [Bool.eq_iff_iff]; simp [goes] <;> omega)) (by repeat (first | exact Take.nil | apply Take.cons (by repeat (first | exact Del.here | apply Del.there)))) (by repeat (first | exact trivial | refine And.intro (by repeat (first | exact Mem.here | apply Mem.there)) ?_))
theorem rstands_ct (p : UInt8) : Ct Tryd.prog 15 [.int .u8 p.toNat] [] [] (fun _ : Unit => .bool (stands p)) (fun _ => []) (fun _ => []) := by
  refine Ct.of _ Tryd.func15 Tryd.ntmps15 rfl rfl (fun X W => ?_)
  refine Jc.seq ?_
  refine Jc.region ?_
  refine Jl.pv (PR.assign rfl) ?_
  refine Jl.nil ?_
  refine Jq.thenN ?_
  refine Jc.seq ?_
  refine Jc.region ?_
  refine Jl.pv (PR.move rfl) ?_
  refine Jl.pv (PR.eql _ rfl rfl rfl) ?_
  refine Jl.pv (PR.move rfl) ?_
  refine Jl.bsplit (fun g5 => ?_) (fun g5 => ?_)
  · try replace g5 := of_decide_eq_true g5
    refine Jl.offS rfl rfl rfl ?_
    refine Jl.offS rfl rfl rfl ?_
    refine Jl.pv (PR.pickT rfl rfl) ?_
    refine Jl.pv (PR.move rfl) ?_
    refine Jl.offS rfl rfl rfl ?_
    refine Jl.offS rfl rfl rfl ?_
    refine Jl.pv (PR.pickT rfl rfl) ?_
    refine Jl.pv (PR.move rfl) ?_
    refine Jl.offS rfl rfl rfl ?_
    refine Jl.offS rfl rfl rfl ?_
    refine Jl.pv (PR.pickT rfl rfl) ?_
    refine Jl.pv (PR.move rfl) ?_
    refine Jl.offS rfl rfl rfl ?_
    refine Jl.offS rfl rfl rfl ?_
    refine Jl.pv (PR.pickT rfl rfl) ?_
    refine Jl.pv (PR.assign rfl) ?_
    refine Jl.nil ?_
    refine Jq.thenN ?_
    refine Jc.ret ?_
    exact Jq.fin () (.inl rfl) rfl (RetVs.tmp rfl RetVs.nil) (congrArg Value.bool (show stands p = _ by rw [Bool.eq_iff_iff]; simp [stands] <;> omega)) (by repeat (first | exact Take.nil | apply Take.cons (by repeat (first | exact Del.here | apply Del.there)))) (by repeat (first | exact trivial | refine And.intro (by repeat (first | exact Mem.here | apply Mem.there)) ?_))
  · try replace g5 := of_decide_eq_false g5
    refine Jl.on rfl rfl ?_
    refine Jl.pv (PR.move rfl) ?_
    refine Jl.on rfl rfl ?_
    refine Jl.pv (PR.eql _ rfl rfl rfl) ?_
    refine Jl.pv (PR.pickF rfl rfl) ?_
    refine Jl.pv (PR.move rfl) ?_
    refine Jl.bsplit (fun g9 => ?_) (fun g9 => ?_)
    · try replace g9 := of_decide_eq_true g9
      refine Jl.offS rfl rfl rfl ?_
      refine Jl.offS rfl rfl rfl ?_
      refine Jl.pv (PR.pickT rfl rfl) ?_
      refine Jl.pv (PR.move rfl) ?_
      refine Jl.offS rfl rfl rfl ?_
      refine Jl.offS rfl rfl rfl ?_
      refine Jl.pv (PR.pickT rfl rfl) ?_
      refine Jl.pv (PR.move rfl) ?_
      refine Jl.offS rfl rfl rfl ?_
      refine Jl.offS rfl rfl rfl ?_
      refine Jl.pv (PR.pickT rfl rfl) ?_
      refine Jl.pv (PR.assign rfl) ?_
      refine Jl.nil ?_
      refine Jq.thenN ?_
      refine Jc.ret ?_
      exact Jq.fin () (.inl rfl) rfl (RetVs.tmp rfl RetVs.nil) (congrArg Value.bool (show stands p = _ by rw [Bool.eq_iff_iff]; simp [stands] <;> omega)) (by repeat (first | exact Take.nil | apply Take.cons (by repeat (first | exact Del.here | apply Del.there)))) (by repeat (first | exact trivial | refine And.intro (by repeat (first | exact Mem.here | apply Mem.there)) ?_))
    · try replace g9 := of_decide_eq_false g9
      refine Jl.on rfl rfl ?_
      refine Jl.pv (PR.move rfl) ?_
      refine Jl.on rfl rfl ?_
      refine Jl.pv (PR.eql _ rfl rfl rfl) ?_
      refine Jl.pv (PR.pickF rfl rfl) ?_
      refine Jl.pv (PR.move rfl) ?_
      refine Jl.bsplit (fun g13 => ?_) (fun g13 => ?_)
      · try replace g13 := of_decide_eq_true g13
        refine Jl.offS rfl rfl rfl ?_
        refine Jl.offS rfl rfl rfl ?_
        refine Jl.pv (PR.pickT rfl rfl) ?_
        refine Jl.pv (PR.move rfl) ?_
        refine Jl.offS rfl rfl rfl ?_
        refine Jl.offS rfl rfl rfl ?_
        refine Jl.pv (PR.pickT rfl rfl) ?_
        refine Jl.pv (PR.assign rfl) ?_
        refine Jl.nil ?_
        refine Jq.thenN ?_
        refine Jc.ret ?_
        exact Jq.fin () (.inl rfl) rfl (RetVs.tmp rfl RetVs.nil) (congrArg Value.bool (show stands p = _ by rw [Bool.eq_iff_iff]; simp [stands] <;> omega)) (by repeat (first | exact Take.nil | apply Take.cons (by repeat (first | exact Del.here | apply Del.there)))) (by repeat (first | exact trivial | refine And.intro (by repeat (first | exact Mem.here | apply Mem.there)) ?_))
      · try replace g13 := of_decide_eq_false g13
        refine Jl.on rfl rfl ?_
        refine Jl.pv (PR.move rfl) ?_
        refine Jl.on rfl rfl ?_
        refine Jl.pv (PR.eql _ rfl rfl rfl) ?_
        refine Jl.pv (PR.pickF rfl rfl) ?_
        refine Jl.pv (PR.move rfl) ?_
        refine Jl.bsplit (fun g17 => ?_) (fun g17 => ?_)
        · try replace g17 := of_decide_eq_true g17
          refine Jl.offS rfl rfl rfl ?_
          refine Jl.offS rfl rfl rfl ?_
          refine Jl.pv (PR.pickT rfl rfl) ?_
          refine Jl.pv (PR.assign rfl) ?_
          refine Jl.nil ?_
          refine Jq.thenN ?_
          refine Jc.ret ?_
          exact Jq.fin () (.inl rfl) rfl (RetVs.tmp rfl RetVs.nil) (congrArg Value.bool (show stands p = _ by rw [Bool.eq_iff_iff]; simp [stands] <;> omega)) (by repeat (first | exact Take.nil | apply Take.cons (by repeat (first | exact Del.here | apply Del.there)))) (by repeat (first | exact trivial | refine And.intro (by repeat (first | exact Mem.here | apply Mem.there)) ?_))
        · try replace g17 := of_decide_eq_false g17
          refine Jl.on rfl rfl ?_
          refine Jl.pv (PR.move rfl) ?_
          refine Jl.on rfl rfl ?_
          refine Jl.pv (PR.eql _ rfl rfl rfl) ?_
          refine Jl.pv (PR.pickF rfl rfl) ?_
          refine Jl.pv (PR.assign rfl) ?_
          refine Jl.nil ?_
          refine Jq.thenN ?_
          refine Jc.ret ?_
          exact Jq.fin () (.inl rfl) rfl (RetVs.tmp rfl RetVs.nil) (congrArg Value.bool (show stands p = _ by rw [Bool.eq_iff_iff]; simp [stands] <;> omega)) (by repeat (first | exact Take.nil | apply Take.cons (by repeat (first | exact Del.here | apply Del.there)))) (by repeat (first | exact trivial | refine And.intro (by repeat (first | exact Mem.here | apply Mem.there)) ?_))
theorem version_ct (b : Br) (z : BrA) : Ct Tryd.prog 18 [b.v z] [] [] (fun _ : Unit => .int .i64 b.ver) (fun _ => []) (fun _ => []) := by
  refine Ct.of _ Tryd.func18 Tryd.ntmps18 rfl rfl (fun X W => ?_)
  refine Jc.seq ?_
  refine Jc.region ?_
  refine Jl.box rfl (by rfl) ?_
  intro b1
  refine Jl.pv (PR.assign rfl) ?_
  refine Jl.nil ?_
  refine Jq.thenN ?_
  refine Jc.seq ?_
  refine Jc.seq ?_
  refine Jc.region ?_
  refine Jl.pv (PR.fieldAddr rfl tfl30_6) ?_
  refine Jl.pv (PR.fieldAddr rfl tfl28_0) ?_
  refine Jl.pv (PR.load1 rfl tsh5 (by repeat (first | exact Has.here | apply Has.there)) (by rfl)) ?_
  refine Jl.pv (PR.eql b.act rfl rfl (by rw [Br.act, decide_eq_decide]; omega)) ?_
  refine Jl.nil ?_
  refine Jq.thenN ?_
  refine Jc.cond rfl (fun h0 => ?_) (fun h0 => ?_)
  · try replace h0 := of_decide_eq_true h0
    refine Jc.seq ?_
    refine Jc.region ?_
    refine Jl.pv (PR.fieldAddr rfl tfl30_6) ?_
    refine Jl.pv (PR.fieldAddr rfl tfl28_2) ?_
    refine Jl.pv (PR.load1 rfl tsh3 (by repeat (first | exact Has.here | apply Has.there)) (by rfl)) ?_
    refine Jl.pv (PR.assign rfl) ?_
    refine Jl.nil ?_
    refine Jq.thenN ?_
    refine Jc.ret ?_
    refine Jq.thenR ?_
    exact Jq.fin () (.inl rfl) rfl (RetVs.tmp rfl RetVs.nil) (by rw [Br.ver, if_pos (show b.act = true from decide_eq_true h0)]; rfl) (by repeat (first | exact Take.nil | apply Take.cons (by repeat (first | exact Del.here | apply Del.there)))) (by repeat (first | exact trivial | refine And.intro (by repeat (first | exact Mem.here | apply Mem.there)) ?_))
  · try replace h0 := of_decide_eq_false h0
    refine Jc.skip ?_
    refine Jq.thenN ?_
    refine Jc.seq ?_
    refine Jc.region ?_
    refine Jl.pv (PR.fieldAddr rfl tfl30_3) ?_
    refine Jl.pv (PR.fieldAddr rfl tfl24_12) ?_
    refine Jl.pv (PR.load1 rfl tsh3 (by repeat (first | exact Has.here | apply Has.there)) (by rfl)) ?_
    refine Jl.pv (PR.assign rfl) ?_
    refine Jl.nil ?_
    refine Jq.thenN ?_
    refine Jc.ret ?_
    exact Jq.fin () (.inl rfl) rfl (RetVs.tmp rfl RetVs.nil) (by rw [Br.ver, if_neg (show ¬ b.act = true by simp [Br.act, h0])]; rfl) (by repeat (first | exact Take.nil | apply Take.cons (by repeat (first | exact Del.here | apply Del.there)))) (by repeat (first | exact trivial | refine And.intro (by repeat (first | exact Mem.here | apply Mem.there)) ?_))
theorem meant_ct (b : Br) (z : BrA) (x : It1) : Ct Tryd.prog 21 [b.v z, x.v] [] [] (fun _ : Unit => .bool (decide (x.ver = b.ver))) (fun _ => []) (fun _ => []) := by
  refine Ct.of _ Tryd.func21 Tryd.ntmps21 rfl rfl (fun X W => ?_)
  refine Jc.seq ?_
  refine Jc.region ?_
  refine Jl.box rfl (by rfl) ?_
  intro b2
  refine Jl.box rfl (by rfl) ?_
  intro b3
  refine Jl.pv (PR.assign rfl) ?_
  refine Jl.nil ?_
  refine Jq.thenN ?_
  refine Jc.seq ?_
  refine Jc.drawn [0, 1, 0, 4, 15, 31] ([(4, false), (5, false)], []) [⟨[(0, false), (1, false), (2, false)], [], 3⟩] tmx (by kernel_rfl) ?_
  refine Dh.JH.cons ?_
  refine Dh.JB.pv rfl trivial (fun _ => PR.fieldAddr rfl tfl43_1) ?_
  refine Dh.JB.rd [.blk _ _ _] rfl trivial (by repeat (first | exact Take.nil | apply Take.cons (by repeat (first | exact Del.here | apply Del.there)))) (fun _ => PR.load1 rfl tsh3 Has.here (by rfl)) ?_
  refine Dh.JB.rd [.blk _ _ _] rfl trivial (by repeat (first | exact Take.nil | apply Take.cons (by repeat (first | exact Del.here | apply Del.there)))) (fun _ => PR.loadW rfl tsh30 Has.here (by rfl)) ?_
  refine Dh.JB.nil ?_
  refine Dh.JL.nil ?_
  refine Dh.JE.mk rfl (fun _ h => by cases h) (fun C1_3 => ?_)
  refine Jl.call (version_ct b z) en18 (by rfl) (by repeat (first | exact Take.nil | apply Take.cons (by repeat (first | exact Del.here | apply Del.there)))) (by repeat (first | exact trivial | refine And.intro (by repeat (first | exact Mem.here | apply Mem.there)) ?_)) ?_
  rintro ⟨⟩
  refine Jl.nil ?_
  refine Dh.Jq.segV (by repeat (first | exact Dh.FExt.refl | apply Dh.FExt.cons | apply Dh.FExt.app)) ?_ (by repeat (first | exact Dh.KeepL.nil | apply Dh.KeepL.anc (by rfl) | apply Dh.KeepL.keep (by repeat (first | exact Take.nil | apply Take.cons (by repeat (first | exact Del.here | apply Del.there))))))
  refine Dh.JH.nil ?_
  refine Dh.JB.pv rfl trivial (fun _ => PR.eql _ rfl rfl rfl) ?_
  refine Dh.JB.pv rfl trivial (fun _ => PR.assign rfl) ?_
  refine Dh.JB.nil ?_
  refine Dh.JL.nil ?_
  refine Jq.thenN ?_
  refine Jc.ret ?_
  exact Jq.fin () (.inl rfl) rfl (RetVs.tmp rfl RetVs.nil) rfl (by repeat (first | exact Take.nil | apply Take.cons (by repeat (first | exact Del.here | apply Del.there)))) (by repeat (first | exact trivial | refine And.intro (by repeat (first | exact Mem.here | apply Mem.there)) ?_))
theorem isold_ct (b : Br) (z : BrA) (k : Kp) : Ct Tryd.prog 20 [b.v z, k.v] [] [] (fun _ : Unit => .bool (b.old k)) (fun _ => []) (fun _ => []) := by
  refine Ct.of _ Tryd.func20 Tryd.ntmps20 rfl rfl (fun X W => ?_)
  refine Jc.seq ?_
  refine Jc.region ?_
  refine Jl.box rfl (by rfl) ?_
  intro b2
  refine Jl.box rfl (by rfl) ?_
  intro b3
  refine Jl.pv (PR.assign rfl) ?_
  refine Jl.nil ?_
  refine Jq.thenN ?_
  refine Jc.seq ?_
  refine Jc.region ?_
  refine Jl.pv (PR.fieldAddr rfl tfl38_6) ?_
  refine Jl.pv (PR.load1 rfl tsh4 (by repeat (first | exact Has.here | apply Has.there)) (by rfl)) ?_
  refine Jl.pv (PR.move rfl) ?_
  refine Jl.bsplit (fun g8 => ?_) (fun g8 => ?_)
  · try replace g8 := of_decide_eq_true g8
    refine Jl.on rfl rfl ?_
    refine Jl.pv (PR.fieldAddr rfl tfl30_3) ?_
    refine Jl.on rfl rfl ?_
    refine Jl.pv (PR.fieldAddr rfl tfl24_13) ?_
    refine Jl.on rfl rfl ?_
    refine Jl.pv (PR.load1 rfl tsh4 (by repeat (first | exact Has.here | apply Has.there)) (by rfl)) ?_
    refine Jl.pv (PR.pickT rfl rfl) ?_
    refine Jl.pv (PR.assign rfl) ?_
    refine Jl.nil ?_
    refine Jq.thenN ?_
    refine Jc.seq ?_
    refine Jc.drawn [0, 1, 0, 4, 15, 31, 63, 127, 255, 511, 1023, 2047, 4095, 8191, 16383, 32767] ([(9, false), (10, false), (11, false), (12, false), (13, false), (14, false), (15, false)], []) [⟨[(0, false), (1, false), (2, false)], [], 3⟩, ⟨[(4, false), (5, false), (6, false), (7, false)], [], 8⟩] tmx (by kernel_rfl) ?_
    refine Dh.JH.cons ?_
    refine Dh.JB.pv rfl trivial (fun _ => PR.fieldAddr rfl tfl38_2) ?_
    refine Dh.JB.rd [.blk _ _ _] rfl trivial (by repeat (first | exact Take.nil | apply Take.cons (by repeat (first | exact Del.here | apply Del.there)))) (fun _ => PR.load1 rfl tsh3 Has.here (by rfl)) ?_
    refine Dh.JB.rd [.blk _ _ _] rfl trivial (by repeat (first | exact Take.nil | apply Take.cons (by repeat (first | exact Del.here | apply Del.there)))) (fun _ => PR.loadW rfl tsh30 Has.here (by rfl)) ?_
    refine Dh.JB.nil ?_
    refine Dh.JL.nil ?_
    refine Dh.JE.mk rfl (fun _ h => by cases h) (fun C2_3 => ?_)
    refine Jl.call (version_ct b z) en18 (by rfl) (by repeat (first | exact Take.nil | apply Take.cons (by repeat (first | exact Del.here | apply Del.there)))) (by repeat (first | exact trivial | refine And.intro (by repeat (first | exact Mem.here | apply Mem.there)) ?_)) ?_
    rintro ⟨⟩
    refine Jl.nil ?_
    refine Dh.Jq.segV (by repeat (first | exact Dh.FExt.refl | apply Dh.FExt.cons | apply Dh.FExt.app)) ?_ (by repeat (first | exact Dh.KeepL.nil | apply Dh.KeepL.anc (by rfl) | apply Dh.KeepL.keep (by repeat (first | exact Take.nil | apply Take.cons (by repeat (first | exact Del.here | apply Del.there))))))
    refine Dh.JH.cons ?_
    refine Dh.JB.pv rfl trivial (fun _ => PR.neq _ rfl rfl rfl) ?_
    refine Dh.JB.pv rfl trivial (fun _ => PR.move rfl) ?_
    refine Dh.JB.bsplit (fun g18 => ?_) (fun g18 => ?_)
    · try replace g18 := of_decide_eq_true g18
      refine Dh.JB.pv rfl ⟨_, rfl, rfl⟩ (fun _ => PR.fieldAddr rfl tfl38_4) ?_
      refine Dh.JB.rd [.blk _ _ _] rfl ⟨_, rfl, rfl⟩ (by repeat (first | exact Take.nil | apply Take.cons (by repeat (first | exact Del.here | apply Del.there)))) (fun _ => PR.load1 rfl tsh5 Has.here (by rfl)) ?_
      refine Dh.JB.nil ?_
      refine Dh.JL.nil ?_
      refine Dh.JE.mk rfl (fun _ h => by cases h) (fun C2_8 => ?_)
      refine Jl.on rfl rfl ?_
      refine Jl.call (pgoes_ct k.ph) en38 (by rfl) (by repeat (first | exact Take.nil | apply Take.cons (by repeat (first | exact Del.here | apply Del.there)))) (by repeat (first | exact trivial | refine And.intro (by repeat (first | exact Mem.here | apply Mem.there)) ?_)) ?_
      rintro ⟨⟩
      refine Jl.nil ?_
      refine Dh.Jq.segV (by repeat (first | exact Dh.FExt.refl | apply Dh.FExt.cons | apply Dh.FExt.app)) ?_ (by repeat (first | exact Dh.KeepL.nil | apply Dh.KeepL.anc (by rfl) | apply Dh.KeepL.keep (by repeat (first | exact Take.nil | apply Take.cons (by repeat (first | exact Del.here | apply Del.there))))))
      refine Dh.JH.nil ?_
      refine Dh.JB.pv rfl ⟨_, rfl, rfl⟩ (fun _ => PR.not rfl) ?_
      refine Dh.JB.pv rfl trivial (fun _ => PR.pickT rfl rfl) ?_
      refine Dh.JB.pv rfl trivial (fun _ => PR.move rfl) ?_
      refine Dh.JB.bsplit (fun g24 => ?_) (fun g24 => ?_)
      · try replace g24 := of_decide_eq_true g24
        refine Dh.JB.pv rfl ⟨_, rfl, rfl⟩ (fun _ => PR.move rfl) ?_
        refine Dh.JB.pv rfl ⟨_, rfl, rfl⟩ (fun _ => PR.not rfl) ?_
        refine Dh.JB.pv rfl trivial (fun _ => PR.pickT rfl rfl) ?_
        refine Dh.JB.pv rfl trivial (fun _ => PR.assign rfl) ?_
        refine Dh.JB.nil ?_
        refine Dh.JL.nil ?_
        refine Jq.thenN ?_
        refine Jc.ret ?_
        exact Jq.fin () (.inl rfl) rfl (RetVs.tmp rfl RetVs.nil) (congrArg Value.bool (by simp_all [Br.old])) (by repeat (first | exact Take.nil | apply Take.cons (by repeat (first | exact Del.here | apply Del.there)))) (by repeat (first | exact trivial | refine And.intro (by repeat (first | exact Mem.here | apply Mem.there)) ?_))
      · try replace g24 := of_decide_eq_false g24
        refine Dh.JB.off rfl ⟨_, rfl, .inr rfl⟩ ?_
        refine Dh.JB.off rfl ⟨_, rfl, .inr rfl⟩ ?_
        refine Dh.JB.pv rfl trivial (fun _ => PR.pickF rfl rfl) ?_
        refine Dh.JB.pv rfl trivial (fun _ => PR.assign rfl) ?_
        refine Dh.JB.nil ?_
        refine Dh.JL.nil ?_
        refine Jq.thenN ?_
        refine Jc.ret ?_
        exact Jq.fin () (.inl rfl) rfl (RetVs.tmp rfl RetVs.nil) (congrArg Value.bool (by simp_all [Br.old])) (by repeat (first | exact Take.nil | apply Take.cons (by repeat (first | exact Del.here | apply Del.there)))) (by repeat (first | exact trivial | refine And.intro (by repeat (first | exact Mem.here | apply Mem.there)) ?_))
    · try replace g18 := of_decide_eq_false g18
      refine Dh.JB.off rfl ⟨_, rfl, .inr rfl⟩ ?_
      refine Dh.JB.off rfl ⟨_, rfl, .inr rfl⟩ ?_
      refine Dh.JB.nil ?_
      refine Dh.JL.nil ?_
      refine Dh.JE.mk rfl (fun _ h => by cases h) (fun C2_8 => ?_)
      refine Jl.offS rfl rfl rfl ?_
      refine Jl.nil ?_
      refine Dh.Jq.segV (by repeat (first | exact Dh.FExt.refl | apply Dh.FExt.cons | apply Dh.FExt.app)) ?_ (by repeat (first | exact Dh.KeepL.nil | apply Dh.KeepL.anc (by rfl) | apply Dh.KeepL.keep (by repeat (first | exact Take.nil | apply Take.cons (by repeat (first | exact Del.here | apply Del.there))))))
      refine Dh.JH.nil ?_
      refine Dh.JB.off rfl ⟨_, rfl, .inr rfl⟩ ?_
      refine Dh.JB.pv rfl trivial (fun _ => PR.pickF rfl rfl) ?_
      refine Dh.JB.pv rfl trivial (fun _ => PR.move rfl) ?_
      refine Dh.JB.off rfl ⟨_, rfl, .inr rfl⟩ ?_
      refine Dh.JB.off rfl ⟨_, rfl, .inr rfl⟩ ?_
      refine Dh.JB.pv rfl trivial (fun _ => PR.pickF rfl rfl) ?_
      refine Dh.JB.pv rfl trivial (fun _ => PR.assign rfl) ?_
      refine Dh.JB.nil ?_
      refine Dh.JL.nil ?_
      refine Jq.thenN ?_
      refine Jc.ret ?_
      exact Jq.fin () (.inl rfl) rfl (RetVs.tmp rfl RetVs.nil) (congrArg Value.bool (by simp_all [Br.old])) (by repeat (first | exact Take.nil | apply Take.cons (by repeat (first | exact Del.here | apply Del.there)))) (by repeat (first | exact trivial | refine And.intro (by repeat (first | exact Mem.here | apply Mem.there)) ?_))
  · try replace g8 := of_decide_eq_false g8
    refine Jl.offS rfl rfl rfl ?_
    refine Jl.offS rfl rfl rfl ?_
    refine Jl.offS rfl rfl rfl ?_
    refine Jl.pv (PR.pickF rfl rfl) ?_
    refine Jl.pv (PR.assign rfl) ?_
    refine Jl.nil ?_
    refine Jq.thenN ?_
    refine Jc.seq ?_
    refine Jc.drawn [0, 1, 0, 4, 15, 31, 63, 127, 255, 511, 1023, 2047, 4095, 8191, 16383, 32767] ([(9, false), (10, false), (11, false), (12, false), (13, false), (14, false), (15, false)], []) [⟨[(0, false), (1, false), (2, false)], [], 3⟩, ⟨[(4, false), (5, false), (6, false), (7, false)], [], 8⟩] tmx (by kernel_rfl) ?_
    refine Dh.JH.cons ?_
    refine Dh.JB.pv rfl trivial (fun _ => PR.fieldAddr rfl tfl38_2) ?_
    refine Dh.JB.rd [.blk _ _ _] rfl trivial (by repeat (first | exact Take.nil | apply Take.cons (by repeat (first | exact Del.here | apply Del.there)))) (fun _ => PR.load1 rfl tsh3 Has.here (by rfl)) ?_
    refine Dh.JB.rd [.blk _ _ _] rfl trivial (by repeat (first | exact Take.nil | apply Take.cons (by repeat (first | exact Del.here | apply Del.there)))) (fun _ => PR.loadW rfl tsh30 Has.here (by rfl)) ?_
    refine Dh.JB.nil ?_
    refine Dh.JL.nil ?_
    refine Dh.JE.mk rfl (fun _ h => by cases h) (fun C2_3 => ?_)
    refine Jl.call (version_ct b z) en18 (by rfl) (by repeat (first | exact Take.nil | apply Take.cons (by repeat (first | exact Del.here | apply Del.there)))) (by repeat (first | exact trivial | refine And.intro (by repeat (first | exact Mem.here | apply Mem.there)) ?_)) ?_
    rintro ⟨⟩
    refine Jl.nil ?_
    refine Dh.Jq.segV (by repeat (first | exact Dh.FExt.refl | apply Dh.FExt.cons | apply Dh.FExt.app)) ?_ (by repeat (first | exact Dh.KeepL.nil | apply Dh.KeepL.anc (by rfl) | apply Dh.KeepL.keep (by repeat (first | exact Take.nil | apply Take.cons (by repeat (first | exact Del.here | apply Del.there))))))
    refine Dh.JH.cons ?_
    refine Dh.JB.pv rfl trivial (fun _ => PR.neq _ rfl rfl rfl) ?_
    refine Dh.JB.pv rfl trivial (fun _ => PR.move rfl) ?_
    refine Dh.JB.bsplit (fun g18 => ?_) (fun g18 => ?_)
    · try replace g18 := of_decide_eq_true g18
      refine Dh.JB.pv rfl ⟨_, rfl, rfl⟩ (fun _ => PR.fieldAddr rfl tfl38_4) ?_
      refine Dh.JB.rd [.blk _ _ _] rfl ⟨_, rfl, rfl⟩ (by repeat (first | exact Take.nil | apply Take.cons (by repeat (first | exact Del.here | apply Del.there)))) (fun _ => PR.load1 rfl tsh5 Has.here (by rfl)) ?_
      refine Dh.JB.nil ?_
      refine Dh.JL.nil ?_
      refine Dh.JE.mk rfl (fun _ h => by cases h) (fun C2_8 => ?_)
      refine Jl.on rfl rfl ?_
      refine Jl.call (pgoes_ct k.ph) en38 (by rfl) (by repeat (first | exact Take.nil | apply Take.cons (by repeat (first | exact Del.here | apply Del.there)))) (by repeat (first | exact trivial | refine And.intro (by repeat (first | exact Mem.here | apply Mem.there)) ?_)) ?_
      rintro ⟨⟩
      refine Jl.nil ?_
      refine Dh.Jq.segV (by repeat (first | exact Dh.FExt.refl | apply Dh.FExt.cons | apply Dh.FExt.app)) ?_ (by repeat (first | exact Dh.KeepL.nil | apply Dh.KeepL.anc (by rfl) | apply Dh.KeepL.keep (by repeat (first | exact Take.nil | apply Take.cons (by repeat (first | exact Del.here | apply Del.there))))))
      refine Dh.JH.nil ?_
      refine Dh.JB.pv rfl ⟨_, rfl, rfl⟩ (fun _ => PR.not rfl) ?_
      refine Dh.JB.pv rfl trivial (fun _ => PR.pickT rfl rfl) ?_
      refine Dh.JB.pv rfl trivial (fun _ => PR.move rfl) ?_
      refine Dh.JB.bsplit (fun g24 => ?_) (fun g24 => ?_)
      · try replace g24 := of_decide_eq_true g24
        refine Dh.JB.pv rfl ⟨_, rfl, rfl⟩ (fun _ => PR.move rfl) ?_
        refine Dh.JB.pv rfl ⟨_, rfl, rfl⟩ (fun _ => PR.not rfl) ?_
        refine Dh.JB.pv rfl trivial (fun _ => PR.pickT rfl rfl) ?_
        refine Dh.JB.pv rfl trivial (fun _ => PR.assign rfl) ?_
        refine Dh.JB.nil ?_
        refine Dh.JL.nil ?_
        refine Jq.thenN ?_
        refine Jc.ret ?_
        exact Jq.fin () (.inl rfl) rfl (RetVs.tmp rfl RetVs.nil) (congrArg Value.bool (by simp_all [Br.old])) (by repeat (first | exact Take.nil | apply Take.cons (by repeat (first | exact Del.here | apply Del.there)))) (by repeat (first | exact trivial | refine And.intro (by repeat (first | exact Mem.here | apply Mem.there)) ?_))
      · try replace g24 := of_decide_eq_false g24
        refine Dh.JB.off rfl ⟨_, rfl, .inr rfl⟩ ?_
        refine Dh.JB.off rfl ⟨_, rfl, .inr rfl⟩ ?_
        refine Dh.JB.pv rfl trivial (fun _ => PR.pickF rfl rfl) ?_
        refine Dh.JB.pv rfl trivial (fun _ => PR.assign rfl) ?_
        refine Dh.JB.nil ?_
        refine Dh.JL.nil ?_
        refine Jq.thenN ?_
        refine Jc.ret ?_
        exact Jq.fin () (.inl rfl) rfl (RetVs.tmp rfl RetVs.nil) (congrArg Value.bool (by simp_all [Br.old])) (by repeat (first | exact Take.nil | apply Take.cons (by repeat (first | exact Del.here | apply Del.there)))) (by repeat (first | exact trivial | refine And.intro (by repeat (first | exact Mem.here | apply Mem.there)) ?_))
    · try replace g18 := of_decide_eq_false g18
      refine Dh.JB.off rfl ⟨_, rfl, .inr rfl⟩ ?_
      refine Dh.JB.off rfl ⟨_, rfl, .inr rfl⟩ ?_
      refine Dh.JB.nil ?_
      refine Dh.JL.nil ?_
      refine Dh.JE.mk rfl (fun _ h => by cases h) (fun C2_8 => ?_)
      refine Jl.offS rfl rfl rfl ?_
      refine Jl.nil ?_
      refine Dh.Jq.segV (by repeat (first | exact Dh.FExt.refl | apply Dh.FExt.cons | apply Dh.FExt.app)) ?_ (by repeat (first | exact Dh.KeepL.nil | apply Dh.KeepL.anc (by rfl) | apply Dh.KeepL.keep (by repeat (first | exact Take.nil | apply Take.cons (by repeat (first | exact Del.here | apply Del.there))))))
      refine Dh.JH.nil ?_
      refine Dh.JB.off rfl ⟨_, rfl, .inr rfl⟩ ?_
      refine Dh.JB.pv rfl trivial (fun _ => PR.pickF rfl rfl) ?_
      refine Dh.JB.pv rfl trivial (fun _ => PR.move rfl) ?_
      refine Dh.JB.off rfl ⟨_, rfl, .inr rfl⟩ ?_
      refine Dh.JB.off rfl ⟨_, rfl, .inr rfl⟩ ?_
      refine Dh.JB.pv rfl trivial (fun _ => PR.pickF rfl rfl) ?_
      refine Dh.JB.pv rfl trivial (fun _ => PR.assign rfl) ?_
      refine Dh.JB.nil ?_
      refine Dh.JL.nil ?_
      refine Jq.thenN ?_
      refine Jc.ret ?_
      exact Jq.fin () (.inl rfl) rfl (RetVs.tmp rfl RetVs.nil) (congrArg Value.bool (by simp_all [Br.old])) (by repeat (first | exact Take.nil | apply Take.cons (by repeat (first | exact Del.here | apply Del.there)))) (by repeat (first | exact trivial | refine And.intro (by repeat (first | exact Mem.here | apply Mem.there)) ?_))
theorem ones_ct (b : Br) (z : BrA) : Ct Tryd.prog 29 [b.v z] [] [] (fun bb : Nat => .func (.func 41) #[] #[.pointer (some ⟨bb, 0, none⟩)]) (fun bb => [.blk bb 30 (b.cs z)]) (fun _ => []) := by
  refine Ct.of _ Tryd.func29 Tryd.ntmps29 rfl rfl (fun X W => ?_)
  refine Jc.seq ?_
  refine Jc.region ?_
  refine Jl.box rfl (by rfl) ?_
  intro b1
  refine Jl.pv (PR.assign rfl) ?_
  refine Jl.nil ?_
  refine Jq.thenN ?_
  refine Jc.seq ?_
  refine Jc.region ?_
  refine Jl.pv (PR.makeFunc rfl rfl) ?_
  refine Jl.pv (PR.assign rfl) ?_
  refine Jl.nil ?_
  refine Jq.thenN ?_
  refine Jc.ret ?_
  exact Jq.fin b1 (.inl rfl) rfl (RetVs.tmp rfl RetVs.nil) rfl (by repeat (first | exact Take.nil | apply Take.cons (by repeat (first | exact Del.here | apply Del.there)))) (by repeat (first | exact trivial | refine And.intro (by repeat (first | exact Mem.here | apply Mem.there)) ?_))
theorem ones1_it (b : Br) (z : BrA) (bb : Nat) (hn : b.its.length ≤ 1000000) (hm : b.kps.length ≤ 1000000) :
    It Tryd.prog 41 [.pointer (some ⟨bb, 0, none⟩)] [.blk bb 30 (b.cs z)] (b.rd z) b.ones.length (onY b.ones) := by
  obtain ⟨⟨M, cM⟩, ⟨I, cI⟩, ⟨K, cK⟩⟩ := z
  refine It.of _ Tryd.func41 Tryd.ntmps41 rfl rfl (by rfl) (by intro φ hφ; simp only [List.mem_cons, List.not_mem_nil, or_false] at hφ; rcases hφ with rfl | rfl | rfl <;> exact Fact.rd_old _ _) (fun W l cl clx hy => ?_)
  have hol := b.ones_len
  rw [hol] at hy ⊢
  refine Jc.seq ?_
  refine Jc.seq ?_
  refine Jc.region ?_
  refine Jl.pv (PR.fieldAddr rfl tfl30_4) ?_
  refine Jl.pv (PR.load1 rfl tsh25 (by repeat (first | exact Has.here | apply Has.there)) (by rfl)) ?_
  refine Jl.pv (PR.len rfl tsl25) ?_
  refine Jl.pv (PR.move rfl) ?_
  refine Jl.nil ?_
  refine Jq.thenN ?_
  refine Jc.block ?_
  refine Jc.loop (σ := { k : Nat // k ≤ b.its.length }) (fun s => [(10, .int .i64 (s.1 : Int)), (9, .int .i64 (b.its.length : Int)), (8, .slice I b.its.length cI), (1, .pointer (some ⟨bb, 0, none⟩)), (0, .func (.yield l) #[] #[])]) (fun _ => [.blk bb 30 (b.cs ((M, cM), (I, cI), (K, cK)))]) (fun s => [cl s.1, .rd M (i64s b.cf.ms), .rd I (itsV b.its), .rd K (kpsV b.kps)]) (fun s => b.its.length - s.1) ⟨0, Nat.zero_le _⟩ (by repeat (first | exact trivial | refine And.intro rfl ?_)) rfl (by repeat (first | exact trivial | refine And.intro (by repeat (first | exact Mem.here | apply Mem.there)) ?_)) ?_
  rintro ⟨k, hk⟩
  show Jc _ _ _ _ _ _ [(10, Value.int .i64 (k : Int)), (9, .int .i64 (b.its.length : Int)), (8, .slice I b.its.length cI), (1, .pointer (some ⟨bb, 0, none⟩)), (0, .func (.yield l) #[] #[])] [.blk bb 30 (b.cs ((M, cM), (I, cI), (K, cK)))] [cl k, .rd M (i64s b.cf.ms), .rd I (itsV b.its), .rd K (kpsV b.kps)]
  refine Jc.seq ?_
  refine Jc.region ?_
  refine Jl.pv (PR.lss _ rfl rfl rfl) ?_
  refine Jl.nil ?_
  refine Jq.thenN ?_
  refine Jc.seq ?_
  refine Jc.cond rfl (fun h0 => ?_) (fun h0 => ?_)
  · try replace h0 := of_decide_eq_true h0
    have hlt : k < b.its.length := by omega
    refine Jc.skip ?_
    refine Jq.thenN ?_
    refine Jc.seq ?_
    refine Jc.block ?_
    refine Jc.seq ?_
    refine Jc.region ?_
    refine Jl.pv (PR.idx k rfl rfl tsl25 (by repeat (first | exact Mem.here | apply Mem.there)) (itsV_len _) (by omega) rfl hlt) ?_
    refine Jl.pv (PR.loadRA rfl tsh43 (by repeat (first | exact Mem.here | apply Mem.there)) (by decide) (its_at hlt)) ?_
    refine Jl.alloc tze43 ?_
    intro b4
    refine Jl.storeW rfl tsh43 rfl (by rfl) (by simp [Value.oneCell', It1.cs, Kp.cs]) (by repeat (first | exact Swap.here | apply Swap.there)) (by rfl) ?_
    refine Jl.nil ?_
    refine Jq.thenN ?_
    refine Jc.seq ?_
    refine Jc.drawn [0, 0, 2, 0, 0, 24, 56, 0, 128, 384, 0, 1024, 4094, 8191, 16383] ([(14, false)], []) [⟨[(0, false), (1, false), (2, false), (3, false), (4, false), (7, false), (8, false), (9, false), (10, false), (11, false)], [], 5⟩, ⟨[(6, false), (12, false)], [], 13⟩] tmx (by kernel_rfl) ?_
    refine Dh.JH.cons ?_
    refine Dh.JB.pv rfl trivial (fun _ => PR.move rfl) ?_
    refine Dh.JB.pv rfl trivial (fun _ => PR.fieldAddr rfl tfl43_2) ?_
    refine Dh.JB.rd [.blk _ _ _] rfl trivial (by repeat (first | exact Take.nil | apply Take.cons (by repeat (first | exact Del.here | apply Del.there)))) (fun _ => PR.load1 rfl tsh3 Has.here (by rfl)) ?_
    refine Dh.JB.rd [.blk _ _ _] rfl trivial (by repeat (first | exact Take.nil | apply Take.cons (by repeat (first | exact Del.here | apply Del.there)))) (fun _ => PR.loadA rfl tsh30 Has.here (by rfl)) ?_
    refine Dh.JB.rd [.blk _ _ _] rfl trivial (by repeat (first | exact Take.nil | apply Take.cons (by repeat (first | exact Del.here | apply Del.there)))) (fun _ => PR.loadW rfl tsh43 Has.here (by rfl)) ?_
    refine Dh.JB.pv rfl trivial (fun _ => PR.fieldAddr rfl tfl43_3) ?_
    refine Dh.JB.rd [.blk _ _ _] rfl trivial (by repeat (first | exact Take.nil | apply Take.cons (by repeat (first | exact Del.here | apply Del.there)))) (fun _ => PR.load1 rfl tsh4 Has.here (by rfl)) ?_
    refine Dh.JB.pv rfl trivial (fun _ => PR.not rfl) ?_
    refine Dh.JB.pv rfl trivial (fun _ => PR.fieldAddr rfl tfl43_3) ?_
    refine Dh.JB.rd [.blk _ _ _] rfl trivial (by repeat (first | exact Take.nil | apply Take.cons (by repeat (first | exact Del.here | apply Del.there)))) (fun _ => PR.load1 rfl tsh4 Has.here (by rfl)) ?_
    refine Dh.JB.nil ?_
    refine Dh.JL.nil ?_
    refine Dh.JE.mk rfl (fun _ h => by cases h) (fun C3_5 => ?_)
    refine Jl.call (meant_ct b ((M, cM), (I, cI), (K, cK)) b.its[k]) en21 (by rfl) (by repeat (first | exact Take.nil | apply Take.cons (by repeat (first | exact Del.here | apply Del.there)))) (by repeat (first | exact trivial | refine And.intro (by repeat (first | exact Mem.here | apply Mem.there)) ?_)) ?_
    rintro ⟨⟩
    refine Jl.nil ?_
    refine Dh.Jq.segV (by repeat (first | exact Dh.FExt.refl | apply Dh.FExt.cons | apply Dh.FExt.app)) ?_ (by repeat (first | exact Dh.KeepL.nil | apply Dh.KeepL.anc (by rfl) | apply Dh.KeepL.keep (by repeat (first | exact Take.nil | apply Take.cons (by repeat (first | exact Del.here | apply Del.there))))))
    refine Dh.JH.cons ?_
    refine Dh.JB.pv rfl trivial (fun _ => PR.not rfl) ?_
    refine Dh.JB.pv rfl trivial (fun _ => PR.build (by rfl) tze55 tpl55_0_1_2_3 (by rfl)) ?_
    refine Dh.JB.nil ?_
    refine Dh.JL.nil ?_
    refine Dh.JE.mkY rfl (fun _ h => by cases h) (by kernel_rfl) ?_
    refine hy _ _ _ _ _ _ _ _ _ _ _ _ _ _ k (by omega) rfl (by rw [onY_I b hlt]; rfl) (by repeat (first | exact Mem.here | apply Mem.there)) rfl ?_ ?_
    · refine Jl.nil ?_
      refine Dh.Jq.segY ?_
      refine Dh.JH.nil ?_
      refine Dh.JB.pv rfl trivial (fun _ => PR.not rfl) ?_
      refine Dh.JB.nil ?_
      refine Dh.JL.nil ?_
      refine Jq.thenN ?_
      refine Jc.condF rfl ?_
      refine Jc.skip ?_
      refine Jq.blkN ?_
      refine Jq.thenN ?_
      refine Jc.region ?_
      refine Jl.pv (PR.add ((k + 1 : Nat) : Int) rfl rfl (by rw [w64 (by omega) (by omega)]; rfl)) ?_
      refine Jl.pv (PR.move rfl) ?_
      refine Jl.nil ?_
      exact Jq.againT ⟨k + 1, hlt⟩ (by simp only; omega) (by repeat (first | exact trivial | refine And.intro rfl ?_)) (by repeat (first | exact Take.nil | apply Take.cons (by repeat (first | exact Del.here | apply Del.there)))) (by repeat (first | exact trivial | refine And.intro (by repeat (first | exact Mem.here | apply Mem.there)) ?_))
    · refine Jl.nil ?_
      refine Dh.Jq.segY ?_
      refine Dh.JH.nil ?_
      refine Dh.JB.pv rfl trivial (fun _ => PR.not rfl) ?_
      refine Dh.JB.nil ?_
      refine Dh.JL.nil ?_
      refine Jq.thenN ?_
      refine Jc.condT rfl ?_
      refine Jc.ret ?_
      refine Jq.blkR ?_
      refine Jq.thenR ?_
      refine Jq.thenR ?_
      refine Jq.blkR ?_
      refine Jq.thenR ?_
      exact Jq.itStop (k := k) (.inl rfl) (by omega) (by repeat (first | exact Mem.here | apply Mem.there))
  · try replace h0 := of_decide_eq_false h0
    obtain rfl : k = b.its.length := by omega
    refine Jc.exit ?_
    refine Jq.thenX ?_
    refine Jq.thenX ?_
    refine Jq.blkX ?_
    refine Jq.thenN ?_
    refine Jc.seq ?_
    refine Jc.region ?_
    refine Jl.pv (PR.fieldAddr rfl tfl30_5) ?_
    refine Jl.pv (PR.load1 rfl tsh26 (by repeat (first | exact Has.here | apply Has.there)) (by rfl)) ?_
    refine Jl.pv (PR.len rfl tsl26) ?_
    refine Jl.pv (PR.move rfl) ?_
    refine Jl.nil ?_
    refine Jq.thenN ?_
    refine Jc.block ?_
    refine Jc.loop (σ := { k : Nat // k ≤ b.kps.length }) (fun s => [(33, .int .i64 (s.1 : Int)), (32, .int .i64 (b.kps.length : Int)), (31, .slice K b.kps.length cK), (1, .pointer (some ⟨bb, 0, none⟩)), (0, .func (.yield l) #[] #[])]) (fun _ => [.blk bb 30 (b.cs ((M, cM), (I, cI), (K, cK)))]) (fun s => [cl (b.its.length + s.1), .rd M (i64s b.cf.ms), .rd I (itsV b.its), .rd K (kpsV b.kps)]) (fun s => b.kps.length - s.1) ⟨0, Nat.zero_le _⟩ (by repeat (first | exact trivial | refine And.intro rfl ?_)) rfl (by repeat (first | exact trivial | refine And.intro (by repeat (first | exact Mem.here | apply Mem.there)) ?_)) ?_
    rintro ⟨k, hk⟩
    show Jc _ _ _ _ _ _ [(33, Value.int .i64 (k : Int)), (32, .int .i64 (b.kps.length : Int)), (31, .slice K b.kps.length cK), (1, .pointer (some ⟨bb, 0, none⟩)), (0, .func (.yield l) #[] #[])] [.blk bb 30 (b.cs ((M, cM), (I, cI), (K, cK)))] [cl (b.its.length + k), .rd M (i64s b.cf.ms), .rd I (itsV b.its), .rd K (kpsV b.kps)]
    refine Jc.seq ?_
    refine Jc.region ?_
    refine Jl.pv (PR.lss _ rfl rfl rfl) ?_
    refine Jl.nil ?_
    refine Jq.thenN ?_
    refine Jc.seq ?_
    refine Jc.cond rfl (fun h1 => ?_) (fun h1 => ?_)
    · try replace h1 := of_decide_eq_true h1
      have hlt : k < b.kps.length := by omega
      refine Jc.skip ?_
      refine Jq.thenN ?_
      refine Jc.seq ?_
      refine Jc.block ?_
      refine Jc.seq ?_
      refine Jc.region ?_
      refine Jl.pv (PR.idx k rfl rfl tsl26 (by repeat (first | exact Mem.here | apply Mem.there)) (kpsV_len _) (by omega) rfl hlt) ?_
      refine Jl.pv (PR.loadRA rfl tsh38 (by repeat (first | exact Mem.here | apply Mem.there)) (by decide) (kps_at hlt)) ?_
      refine Jl.alloc tze38 ?_
      intro b6
      refine Jl.storeW rfl tsh38 rfl (by rfl) (by simp [Value.oneCell', It1.cs, Kp.cs]) (by repeat (first | exact Swap.here | apply Swap.there)) (by rfl) ?_
      refine Jl.nil ?_
      refine Jq.thenN ?_
      refine Jc.seq ?_
      refine Jc.drawn [0, 0, 2, 0, 0, 24, 0, 64, 248, 0, 512, 1536, 0, 4096, 12288, 32766, 65535, 131071] ([(17, false)], []) [⟨[(0, false), (1, false), (2, false), (3, false), (4, false), (6, false), (7, false), (9, false), (10, false), (11, false), (12, false), (13, false), (14, false)], [], 5⟩, ⟨[], [], 8⟩, ⟨[(15, false)], [], 16⟩] tmx (by kernel_rfl) ?_
      refine Dh.JH.cons ?_
      refine Dh.JB.pv rfl trivial (fun _ => PR.move rfl) ?_
      refine Dh.JB.pv rfl trivial (fun _ => PR.fieldAddr rfl tfl38_3) ?_
      refine Dh.JB.rd [.blk _ _ _] rfl trivial (by repeat (first | exact Take.nil | apply Take.cons (by repeat (first | exact Del.here | apply Del.there)))) (fun _ => PR.load1 rfl tsh3 Has.here (by rfl)) ?_
      refine Dh.JB.rd [.blk _ _ _] rfl trivial (by repeat (first | exact Take.nil | apply Take.cons (by repeat (first | exact Del.here | apply Del.there)))) (fun _ => PR.loadA rfl tsh30 Has.here (by rfl)) ?_
      refine Dh.JB.rd [.blk _ _ _] rfl trivial (by repeat (first | exact Take.nil | apply Take.cons (by repeat (first | exact Del.here | apply Del.there)))) (fun _ => PR.loadW rfl tsh38 Has.here (by rfl)) ?_
      refine Dh.JB.pv rfl trivial (fun _ => PR.fieldAddr rfl tfl38_4) ?_
      refine Dh.JB.rd [.blk _ _ _] rfl trivial (by repeat (first | exact Take.nil | apply Take.cons (by repeat (first | exact Del.here | apply Del.there)))) (fun _ => PR.load1 rfl tsh5 Has.here (by rfl)) ?_
      refine Dh.JB.pv rfl trivial (fun _ => PR.fieldAddr rfl tfl38_4) ?_
      refine Dh.JB.rd [.blk _ _ _] rfl trivial (by repeat (first | exact Take.nil | apply Take.cons (by repeat (first | exact Del.here | apply Del.there)))) (fun _ => PR.load1 rfl tsh5 Has.here (by rfl)) ?_
      refine Dh.JB.pv rfl trivial (fun _ => PR.eql (a := (b.kps[k].ph.toNat : Int)) (b := 9) (decide (b.kps[k].ph.toNat = 9)) rfl rfl (by rw [decide_eq_decide]; omega)) ?_
      refine Dh.JB.pv rfl trivial (fun _ => PR.fieldAddr rfl tfl38_4) ?_
      refine Dh.JB.rd [.blk _ _ _] rfl trivial (by repeat (first | exact Take.nil | apply Take.cons (by repeat (first | exact Del.here | apply Del.there)))) (fun _ => PR.load1 rfl tsh5 Has.here (by rfl)) ?_
      refine Dh.JB.pv rfl trivial (fun _ => PR.eql (a := (b.kps[k].ph.toNat : Int)) (b := 4) (decide (b.kps[k].ph.toNat = 4)) rfl rfl (by rw [decide_eq_decide]; omega)) ?_
      refine Dh.JB.nil ?_
      refine Dh.JL.nil ?_
      refine Dh.JE.mk rfl (fun _ h => by cases h) (fun C8_5 => ?_)
      refine Jl.call (isold_ct b ((M, cM), (I, cI), (K, cK)) b.kps[k]) en20 (by rfl) (by repeat (first | exact Take.nil | apply Take.cons (by repeat (first | exact Del.here | apply Del.there)))) (by repeat (first | exact trivial | refine And.intro (by repeat (first | exact Mem.here | apply Mem.there)) ?_)) ?_
      rintro ⟨⟩
      refine Jl.nil ?_
      refine Dh.Jq.segV (by repeat (first | exact Dh.FExt.refl | apply Dh.FExt.cons | apply Dh.FExt.app)) ?_ (by repeat (first | exact Dh.KeepL.nil | apply Dh.KeepL.anc (by rfl) | apply Dh.KeepL.keep (by repeat (first | exact Take.nil | apply Take.cons (by repeat (first | exact Del.here | apply Del.there))))))
      refine Dh.JH.cons ?_
      refine Dh.JB.nil ?_
      refine Dh.JL.nil ?_
      refine Dh.JE.mk rfl (fun _ h => by cases h) (fun C8_8 => ?_)
      refine Jl.call (pstands_ct b.kps[k].ph) en42 (by rfl) (by repeat (first | exact Take.nil | apply Take.cons (by repeat (first | exact Del.here | apply Del.there)))) (by repeat (first | exact trivial | refine And.intro (by repeat (first | exact Mem.here | apply Mem.there)) ?_)) ?_
      rintro ⟨⟩
      refine Jl.nil ?_
      refine Dh.Jq.segV (by repeat (first | exact Dh.FExt.refl | apply Dh.FExt.cons | apply Dh.FExt.app)) ?_ (by repeat (first | exact Dh.KeepL.nil | apply Dh.KeepL.anc (by rfl) | apply Dh.KeepL.keep (by repeat (first | exact Take.nil | apply Take.cons (by repeat (first | exact Del.here | apply Del.there))))))
      refine Dh.JH.cons ?_
      refine Dh.JB.pv rfl trivial (fun _ => PR.build (by rfl) tze55 tpl55_0_1_2_3_4 (by rfl)) ?_
      refine Dh.JB.nil ?_
      refine Dh.JL.nil ?_
      refine Dh.JE.mkY rfl (fun _ h => by cases h) (by kernel_rfl) ?_
      refine hy _ _ _ _ _ _ _ _ _ _ _ _ _ _ (b.its.length + k) (by omega) rfl (by rw [onY_K b hlt]; rfl) (by repeat (first | exact Mem.here | apply Mem.there)) rfl ?_ ?_
      · refine Jl.nil ?_
        refine Dh.Jq.segY ?_
        refine Dh.JH.nil ?_
        refine Dh.JB.pv rfl trivial (fun _ => PR.not rfl) ?_
        refine Dh.JB.nil ?_
        refine Dh.JL.nil ?_
        refine Jq.thenN ?_
        refine Jc.condF rfl ?_
        refine Jc.skip ?_
        refine Jq.blkN ?_
        refine Jq.thenN ?_
        refine Jc.region ?_
        refine Jl.pv (PR.add ((k + 1 : Nat) : Int) rfl rfl (by rw [w64 (by omega) (by omega)]; rfl)) ?_
        refine Jl.pv (PR.move rfl) ?_
        refine Jl.nil ?_
        exact Jq.againT ⟨k + 1, hlt⟩ (by simp only; omega) (by repeat (first | exact trivial | refine And.intro rfl ?_)) (by repeat (first | exact Take.nil | apply Take.cons (by repeat (first | exact Del.here | apply Del.there)))) (by repeat (first | exact trivial | refine And.intro (by repeat (first | exact Mem.here | apply Mem.there)) ?_))
      · refine Jl.nil ?_
        refine Dh.Jq.segY ?_
        refine Dh.JH.nil ?_
        refine Dh.JB.pv rfl trivial (fun _ => PR.not rfl) ?_
        refine Dh.JB.nil ?_
        refine Dh.JL.nil ?_
        refine Jq.thenN ?_
        refine Jc.condT rfl ?_
        refine Jc.ret ?_
        refine Jq.blkR ?_
        refine Jq.thenR ?_
        refine Jq.thenR ?_
        refine Jq.blkR ?_
        exact Jq.itStop (k := b.its.length + k) (.inl rfl) (by omega) (by repeat (first | exact Mem.here | apply Mem.there))
    · try replace h1 := of_decide_eq_false h1
      obtain rfl : k = b.kps.length := by omega
      refine Jc.exit ?_
      refine Jq.thenX ?_
      refine Jq.thenX ?_
      refine Jq.blkX ?_
      exact Jq.itDone (.inr rfl) (by repeat (first | exact Mem.here | apply Mem.there))
/-- The functions of the table. -/
def ctF : Nat → FuncId
  | 0 => 24 | 1 => 25 | 2 => 26 | 3 => 27 | _ => 28
theorem is0_ct (o : On) : Ct Tryd.prog 24 [o.v] [] [] (fun _ : Unit => .bool (o.is 0)) (fun _ => []) (fun _ => []) := by
  refine Ct.of _ Tryd.func24 Tryd.ntmps24 rfl rfl (fun X W => ?_)
  refine Jc.seq ?_
  refine Jc.region ?_
  refine Jl.box rfl (by rfl) ?_
  intro b1
  refine Jl.pv (PR.assign rfl) ?_
  refine Jl.nil ?_
  refine Jq.thenN ?_
  refine Jc.seq ?_
  refine Jc.region ?_
  refine Jl.pv (PR.assign rfl) ?_
  refine Jl.nil ?_
  refine Jq.thenN ?_
  refine Jc.ret ?_
  exact Jq.fin () (.inl rfl) rfl (RetVs.tmp rfl RetVs.nil) rfl (by repeat (first | exact Take.nil | apply Take.cons (by repeat (first | exact Del.here | apply Del.there)))) (by repeat (first | exact trivial | refine And.intro (by repeat (first | exact Mem.here | apply Mem.there)) ?_))
theorem is1_ct (o : On) : Ct Tryd.prog 25 [o.v] [] [] (fun _ : Unit => .bool (o.is 1)) (fun _ => []) (fun _ => []) := by
  refine Ct.of _ Tryd.func25 Tryd.ntmps25 rfl rfl (fun X W => ?_)
  refine Jc.seq ?_
  refine Jc.region ?_
  refine Jl.box rfl (by rfl) ?_
  intro b1
  refine Jl.pv (PR.assign rfl) ?_
  refine Jl.nil ?_
  refine Jq.thenN ?_
  refine Jc.seq ?_
  refine Jc.region ?_
  refine Jl.pv (PR.fieldAddr rfl tfl55_1) ?_
  refine Jl.pv (PR.load1 rfl tsh4 (by repeat (first | exact Has.here | apply Has.there)) (by rfl)) ?_
  refine Jl.pv (PR.assign rfl) ?_
  refine Jl.nil ?_
  refine Jq.thenN ?_
  refine Jc.ret ?_
  exact Jq.fin () (.inl rfl) rfl (RetVs.tmp rfl RetVs.nil) rfl (by repeat (first | exact Take.nil | apply Take.cons (by repeat (first | exact Del.here | apply Del.there)))) (by repeat (first | exact trivial | refine And.intro (by repeat (first | exact Mem.here | apply Mem.there)) ?_))
theorem is2_ct (o : On) : Ct Tryd.prog 26 [o.v] [] [] (fun _ : Unit => .bool (o.is 2)) (fun _ => []) (fun _ => []) := by
  refine Ct.of _ Tryd.func26 Tryd.ntmps26 rfl rfl (fun X W => ?_)
  refine Jc.seq ?_
  refine Jc.region ?_
  refine Jl.box rfl (by rfl) ?_
  intro b1
  refine Jl.pv (PR.assign rfl) ?_
  refine Jl.nil ?_
  refine Jq.thenN ?_
  refine Jc.seq ?_
  refine Jc.region ?_
  refine Jl.pv (PR.fieldAddr rfl tfl55_2) ?_
  refine Jl.pv (PR.load1 rfl tsh4 (by repeat (first | exact Has.here | apply Has.there)) (by rfl)) ?_
  refine Jl.pv (PR.assign rfl) ?_
  refine Jl.nil ?_
  refine Jq.thenN ?_
  refine Jc.ret ?_
  exact Jq.fin () (.inl rfl) rfl (RetVs.tmp rfl RetVs.nil) rfl (by repeat (first | exact Take.nil | apply Take.cons (by repeat (first | exact Del.here | apply Del.there)))) (by repeat (first | exact trivial | refine And.intro (by repeat (first | exact Mem.here | apply Mem.there)) ?_))
theorem is3_ct (o : On) : Ct Tryd.prog 27 [o.v] [] [] (fun _ : Unit => .bool (o.is 3)) (fun _ => []) (fun _ => []) := by
  refine Ct.of _ Tryd.func27 Tryd.ntmps27 rfl rfl (fun X W => ?_)
  refine Jc.seq ?_
  refine Jc.region ?_
  refine Jl.box rfl (by rfl) ?_
  intro b1
  refine Jl.pv (PR.assign rfl) ?_
  refine Jl.nil ?_
  refine Jq.thenN ?_
  refine Jc.seq ?_
  refine Jc.region ?_
  refine Jl.pv (PR.fieldAddr rfl tfl55_3) ?_
  refine Jl.pv (PR.load1 rfl tsh4 (by repeat (first | exact Has.here | apply Has.there)) (by rfl)) ?_
  refine Jl.pv (PR.assign rfl) ?_
  refine Jl.nil ?_
  refine Jq.thenN ?_
  refine Jc.ret ?_
  exact Jq.fin () (.inl rfl) rfl (RetVs.tmp rfl RetVs.nil) rfl (by repeat (first | exact Take.nil | apply Take.cons (by repeat (first | exact Del.here | apply Del.there)))) (by repeat (first | exact trivial | refine And.intro (by repeat (first | exact Mem.here | apply Mem.there)) ?_))
theorem is4_ct (o : On) : Ct Tryd.prog 28 [o.v] [] [] (fun _ : Unit => .bool (o.is 4)) (fun _ => []) (fun _ => []) := by
  refine Ct.of _ Tryd.func28 Tryd.ntmps28 rfl rfl (fun X W => ?_)
  refine Jc.seq ?_
  refine Jc.region ?_
  refine Jl.box rfl (by rfl) ?_
  intro b1
  refine Jl.pv (PR.assign rfl) ?_
  refine Jl.nil ?_
  refine Jq.thenN ?_
  refine Jc.seq ?_
  refine Jc.region ?_
  refine Jl.pv (PR.fieldAddr rfl tfl55_4) ?_
  refine Jl.pv (PR.load1 rfl tsh4 (by repeat (first | exact Has.here | apply Has.there)) (by rfl)) ?_
  refine Jl.pv (PR.assign rfl) ?_
  refine Jl.nil ?_
  refine Jq.thenN ?_
  refine Jc.ret ?_
  exact Jq.fin () (.inl rfl) rfl (RetVs.tmp rfl RetVs.nil) rfl (by repeat (first | exact Take.nil | apply Take.cons (by repeat (first | exact Del.here | apply Del.there)))) (by repeat (first | exact trivial | refine And.intro (by repeat (first | exact Mem.here | apply Mem.there)) ?_))
theorem is_ct (o : On) : ∀ {j : Nat}, j < 5 → Ct Tryd.prog (ctF j) [o.v] [] [] (fun _ : Unit => .bool (o.is j)) (fun _ => []) (fun _ => []) ∧ ∀ args w, (callFunc (ctF j) args).run Tryd.prog w = .ok (.enter (ctF j) args) w
  | 0, _ => ⟨is0_ct o, en24⟩ | 1, _ => ⟨is1_ct o, en25⟩ | 2, _ => ⟨is2_ct o, en26⟩ | 3, _ => ⟨is3_ct o, en27⟩ | 4, _ => ⟨is4_ct o, en28⟩
  | j + 5, h => by omega
/-- The table's cells. -/
def tellV (b : Nat) : List Value := [.pointer (some ⟨b, 4, none⟩), .func (.func (ctF 0)) #[] #[], .pointer (some ⟨b, 1, none⟩), .func (.func (ctF 1)) #[] #[], .pointer (some ⟨b, 2, none⟩), .func (.func (ctF 2)) #[] #[], .pointer (some ⟨b, 3, none⟩), .func (.func (ctF 3)) #[] #[], .pointer (some ⟨b, 5, none⟩), .func (.func (ctF 4)) #[] #[]]
theorem tell_f (b : Nat) : ∀ {j : Nat}, j < 5 → (tellV b)[0 + j * 2 + 1]? = some (.func (.func (ctF j)) #[] #[])
  | 0, _ => rfl | 1, _ => rfl | 2, _ => rfl | 3, _ => rfl | 4, _ => rfl
  | j + 5, h => by omega
theorem tell_p (b : Nat) : ∀ {j : Nat}, j < 5 → (tellV b)[0 + j * 2 + 0]? = some (.pointer (some ⟨b, ctOff j, none⟩))
  | 0, _ => rfl | 1, _ => rfl | 2, _ => rfl | 3, _ => rfl | 4, _ => rfl
  | j + 5, h => by omega
abbrev ctZ : List Value := [.int .i64 0, .int .i64 0, .int .i64 0, .int .i64 0, .int .i64 0, .int .i64 0, .int .i64 0, .int .i64 0, .int .i64 0]
theorem Del.mid (m : Res) (ms : List Res) : ∀ l : List Res, Del m (l ++ m :: ms) (l ++ ms)
  | [] => Del.here
  | _ :: l => Del.there (Del.mid m ms l)
theorem Take.tail : ∀ (ms l : List Res), Take ms (l ++ ms) l
  | [], l => by rw [List.append_nil]; exact Take.nil
  | m :: ms, l => Take.cons (Del.mid m ms l) (Take.tail ms l)
theorem Take.rot (a b c d e m : Res) (ms : List Res) : Take (a :: b :: c :: d :: e :: m :: ms) (m :: a :: b :: c :: d :: e :: ms) [] :=
  Take.cons (Del.there Del.here) (Take.cons (Del.there Del.here) (Take.cons (Del.there Del.here) (Take.cons (Del.there Del.here) (Take.cons (Del.there Del.here) (Take.cons Del.here (Take.tail ms [] : Take ms ms []))))))
abbrev CtS := (Nat × Nat × Nat) × List Nat × { j : Nat // j < 5 }
theorem countof_ct (b : Br) (z : BrA) (hn : b.its.length ≤ 1000) (hm : b.kps.length ≤ 1000) (hms : b.cf.ms.length ≤ 1000) : Ct Tryd.prog 10 [b.v z] [] (b.rd z ++ [.lim]) (fun _ : Unit => .agg b.counts.toArray) (fun _ => []) (fun _ => []) := by
  have hol := b.ones_len
  refine Ct.of _ Tryd.func10 Tryd.ntmps10 rfl rfl (fun X W => ?_)
  refine Jc.seq ?_
  refine Jc.region ?_
  refine Jl.box rfl (by rfl) ?_
  intro b1
  refine Jl.alloc tze34 ?_
  intro b2
  refine Jl.nil ?_
  refine Jq.thenN ?_
  refine Jc.scopeN (σ := CtS) (fun s => (74, s.2.1)) (fun s => [(1, Value.pointer (some ⟨b1, 0, none⟩)), (2, .pointer (some ⟨b2, 0, none⟩)), (3, .pointer (some ⟨s.1.1, 0, none⟩)), (4, .pointer (some ⟨s.1.2.1, 0, none⟩)), (5, .pointer (some ⟨s.1.2.2, 0, none⟩))]) (fun s => (.blk s.1.2.2 3 [.int .i64 (s.2.2.1 : Int)] :: .blk s.1.2.1 58 (tellV s.1.1) :: .blk s.1.1 34 (ctG b.ver b.cf.d b.cf.flr b.cf.bnd (cntG b s.2.2.1 0)) :: .blk b2 34 ctZ :: .blk b1 30 (b.cs z) :: marksOf s.2.1)) (fun _ => b.rd z) (fun s => 5 - s.2.2.1) (l := 0) rfl ?_ ?_
  · rintro ⟨⟨b3, b4, b5⟩, ds, j, hj⟩
    show Jc _ _ _ _ _ _ [(1, Value.pointer (some ⟨b1, 0, none⟩)), (2, .pointer (some ⟨b2, 0, none⟩)), (3, .pointer (some ⟨b3, 0, none⟩)), (4, .pointer (some ⟨b4, 0, none⟩)), (5, .pointer (some ⟨b5, 0, none⟩))] (.blk b5 3 [.int .i64 (j : Int)] :: .blk b4 58 (tellV b3) :: .blk b3 34 (ctG b.ver b.cf.d b.cf.flr b.cf.bnd (cntG b j 0)) :: .blk b2 34 ctZ :: .blk b1 30 (b.cs z) :: marksOf ds) (b.rd z)
    refine Jc.seq ?_
    refine Jc.seq ?_
    refine Jc.region ?_
    refine Jl.pv (PR.loadW rfl tsh30 (by repeat (first | exact Has.here | apply Has.there)) (by rfl)) ?_
    refine Jl.call (ones_ct b z) en29 (by rfl) (by repeat (first | exact Take.nil | apply Take.cons (by repeat (first | exact Del.here | apply Del.there)))) (by repeat (first | exact trivial | refine And.intro (by repeat (first | exact Mem.here | apply Mem.there)) ?_)) ?_
    rintro b31
    refine Jl.nil ?_
    refine Jq.thenN ?_
    refine Jc.block ?_
    refine Jc.range (σ := Nat) (τ := Empty) (Inv := fun k s => s = k) (Rs := fun k => (.blk b5 3 [.int .i64 (j : Int)] :: .blk b4 58 (tellV b3) :: .blk b3 34 (ctG b.ver b.cf.d b.cf.flr b.cf.bnd (cntG b j k)) :: .blk b2 34 ctZ :: .blk b1 30 (b.cs z) :: marksOf ds)) (Φs := fun _ => b.rd z) (InvX := fun _ _ x => x.elim) (RsX := fun x => x.elim) (ΦsX := fun x => x.elim) (vals := onY b.ones) rfl en41 (ones1_it b z b31 (by omega) (by omega)) (by repeat (first | exact Take.nil | apply Take.cons (by repeat (first | exact Del.here | apply Del.there)))) (by repeat (first | exact trivial | refine And.intro (by repeat (first | exact Mem.here | apply Mem.there)) ?_)) (fun _ => rfl) rfl 0 rfl rfl (by repeat (first | exact trivial | refine And.intro (by repeat (first | exact Mem.here | apply Mem.there)) ?_)) ?_ ?_ ?_
    · rintro k s hk hs l' C1
      obtain rfl : s = k := hs
      rw [onY_at hk]
      show Jc _ _ _ _ _ _ (psetL [32] [b.ones[s].v] _) (.blk b5 3 [.int .i64 (j : Int)] :: .blk b4 58 (tellV b3) :: .blk b3 34 (ctG b.ver b.cf.d b.cf.flr b.cf.bnd (cntG b j s)) :: .blk b2 34 ctZ :: .blk b1 30 (b.cs z) :: marksOf ds) (b.rd z)
      refine Jc.region ?_
      refine Jl.alloc tze55 ?_
      intro b6
      refine Jl.storeW rfl tsh55 rfl (by rfl) (by first | exact Br.cs_one _ _ | simp [Value.oneCell', On.cs]) (by repeat (first | exact Swap.here | apply Swap.there)) (by rfl) ?_
      refine Jl.nil ?_
      refine Jq.assigned (fun C2 => ?_)
      refine Jc.block ?_
      refine Jc.seq ?_
      refine Jc.drawn [0, 1, 3, 7, 0, 31] ([], []) [⟨[(0, false), (1, false), (2, false), (3, false), (4, false)], [], 5⟩] tmx (by kernel_rfl) ?_
      refine Dh.JH.cons ?_
      refine Dh.JB.rd [.blk _ _ _] rfl trivial (by repeat (first | exact Take.nil | apply Take.cons (by repeat (first | exact Del.here | apply Del.there)))) (fun _ => PR.load1 rfl tsh3 Has.here (by rfl)) ?_
      refine Dh.JB.pv rfl trivial (fun _ => PR.idxA j rfl rfl tar58 rfl hj) ?_
      refine Dh.JB.pv rfl trivial (fun _ => PR.fieldAddr rfl tfl57_1) ?_
      refine Dh.JB.rd [.blk _ _ _] rfl trivial (by repeat (first | exact Take.nil | apply Take.cons (by repeat (first | exact Del.here | apply Del.there)))) (fun _ => PR.load1 rfl tsh56 Has.here (tell_f b3 hj)) ?_
      refine Dh.JB.rd [.blk _ _ _] rfl trivial (by repeat (first | exact Take.nil | apply Take.cons (by repeat (first | exact Del.here | apply Del.there)))) (fun _ => PR.loadW rfl tsh55 Has.here (by rfl)) ?_
      refine Dh.JB.nil ?_
      refine Dh.JL.nil ?_
      refine Dh.JE.mk rfl (fun _ h => by cases h) (fun C6_5 => ?_)
      refine Jl.callv (is_ct b.ones[s] hj).1 (is_ct b.ones[s] hj).2 rfl (by rfl) (by rfl) (by repeat (first | exact Take.nil | apply Take.cons (by repeat (first | exact Del.here | apply Del.there)))) (by repeat (first | exact trivial | refine And.intro (by repeat (first | exact Mem.here | apply Mem.there)) ?_)) ?_
      rintro ⟨⟩
      refine Jl.nil ?_
      refine Dh.Jq.segV (by repeat (first | exact Dh.FExt.refl | apply Dh.FExt.cons | apply Dh.FExt.app)) ?_ (by repeat (first | exact Dh.KeepL.nil | apply Dh.KeepL.anc (by rfl) | apply Dh.KeepL.keep (by repeat (first | exact Take.nil | apply Take.cons (by repeat (first | exact Del.here | apply Del.there))))))
      refine Dh.JH.nil ?_
      refine Dh.JB.nil ?_
      refine Dh.JL.nil ?_
      refine Jq.thenN ?_
      refine Jc.cond rfl (fun h0 => ?_) (fun h0 => ?_)
      · try replace h0 := of_decide_eq_true h0
        refine Jc.region ?_
        refine Jl.pv (PR.load1 rfl tsh3 (by repeat (first | exact Has.here | apply Has.there)) (by rfl)) ?_
        refine Jl.pv (PR.idxA j rfl rfl tar58 rfl hj) ?_
        refine Jl.pv (PR.fieldAddr rfl tfl57_0) ?_
        refine Jl.pv (PR.load1 rfl tsh53 (by repeat (first | exact Has.here | apply Has.there)) (tell_p b3 hj)) ?_
        refine Jl.pv (PR.nilCheck rfl) ?_
        refine Jl.pv (PR.load1 rfl tsh3 (by repeat (first | exact Has.here | apply Has.there)) (ctG_at _ _ _ _ _ hj)) ?_
        refine Jl.pv (PR.add ((cntG b j s j + 1 : Nat) : Int) rfl rfl (w64 (by rw [cntG_self]; omega) (by have := List.countP_le_length (p := fun o : On => o.is j) (l := b.ones.take s); rw [List.length_take] at this; rw [cntG_self]; omega))) ?_
        refine Jl.pv (PR.nilCheck rfl) ?_
        refine Jl.store1 rfl tsh3 rfl (by rfl) (by repeat (first | exact Swap.here | apply Swap.there)) (ctG_put _ _ _ _ _ _ hj) ?_
        refine Jl.nil ?_
        refine Jq.blkN ?_
        rw [cntG_yes hk h0]
        refine Jq.drop Del.here ?_
        exact Jq.next (s + 1) rfl rfl (by repeat (first | exact trivial | refine And.intro (by repeat (first | exact Mem.here | apply Mem.there)) ?_))
      · try replace h0 := of_decide_eq_false h0
        refine Jc.skip ?_
        refine Jq.blkN ?_
        rw [← cntG_no hk h0]
        refine Jq.drop Del.here ?_
        exact Jq.next (s + 1) rfl rfl (by repeat (first | exact trivial | refine And.intro (by repeat (first | exact Mem.here | apply Mem.there)) ?_))
    · rintro s D0 rfl
      rw [cntG_end]
      refine Jq.blkN ?_
      refine Jq.thenN ?_
      refine Jc.seq ?_
      refine Jc.seq ?_
      refine Jc.region ?_
      refine Jl.pv (PR.load1 rfl tsh3 (by repeat (first | exact Has.here | apply Has.there)) (by rfl)) ?_
      refine Jl.pv (PR.add ((j + 1 : Nat) : Int) rfl rfl (by rw [w64 (by omega) (by omega)]; rfl)) ?_
      refine Jl.store1 rfl tsh3 rfl (by rfl) (by repeat (first | exact Swap.here | apply Swap.there)) (by rfl) ?_
      refine Jl.nil ?_
      refine Jq.thenN ?_
      refine Jc.seq ?_
      refine Jc.region ?_
      refine Jl.pv (PR.load1 rfl tsh3 (by repeat (first | exact Has.here | apply Has.there)) (by rfl)) ?_
      refine Jl.pv (PR.lss (decide (j + 1 < 5)) rfl rfl (by rw [decide_eq_decide]; omega)) ?_
      refine Jl.nil ?_
      refine Jq.thenN ?_
      refine Jc.cond rfl (fun h1 => ?_) (fun h1 => ?_)
      · try replace h1 := of_decide_eq_true h1
        refine Jc.goto ?_
        refine Jq.thenG ?_
        have hj' : j + 1 < 5 := by simpa using h1
        refine Jq.lessR (Take.rot _ _ _ _ _ _ _) ?_
        exact Jq.jmpBN (s := (⟨(b3, b4, b5), ds, j, hj⟩ : CtS)) ⟨(b3, b4, b5), D0 :: ds, j + 1, hj'⟩ rfl (by simp only; omega) (by repeat (first | exact trivial | refine And.intro rfl ?_)) rfl (by repeat (first | exact trivial | refine And.intro (by repeat (first | exact Mem.here | apply Mem.there)) ?_))
      · try replace h1 := of_decide_eq_false h1
        obtain rfl : j = 4 := by simp at h1; omega
        rw [cntG_done]
        refine Jc.skip ?_
        refine Jq.thenN ?_
        refine Jc.seq ?_
        refine Jc.seq ?_
        refine Jc.region ?_
        refine Jl.pv (PR.fieldAddr rfl tfl30_6) ?_
        refine Jl.pv (PR.fieldAddr rfl tfl28_0) ?_
        refine Jl.pv (PR.load1 rfl tsh5 (by repeat (first | exact Has.here | apply Has.there)) (by rfl)) ?_
        refine Jl.pv (PR.eql b.act rfl rfl (by rw [Br.act, decide_eq_decide]; omega)) ?_
        refine Jl.pv (PR.move rfl) ?_
        refine Jl.bsplit (fun g55 => ?_) (fun g55 => ?_)
        · try replace g55 := of_decide_eq_true g55
          refine Jl.on rfl rfl ?_
          refine Jl.pv (PR.fieldAddr rfl tfl30_6) ?_
          refine Jl.on rfl rfl ?_
          refine Jl.pv (PR.fieldAddr rfl tfl28_4) ?_
          refine Jl.on rfl rfl ?_
          refine Jl.pv (PR.load1 rfl tsh4 (by repeat (first | exact Has.here | apply Has.there)) (by rfl)) ?_
          refine Jl.on rfl rfl ?_
          refine Jl.pv (PR.not rfl) ?_
          refine Jl.pv (PR.pickT rfl rfl) ?_
          refine Jl.pv (PR.move rfl) ?_
          refine Jl.bsplit (fun g61 => ?_) (fun g61 => ?_)
          · try replace g61 := of_decide_eq_true g61
            refine Jl.on rfl rfl ?_
            refine Jl.pv (PR.fieldAddr rfl tfl34_1) ?_
            refine Jl.on rfl rfl ?_
            refine Jl.pv (PR.load1 rfl tsh3 (by repeat (first | exact Has.here | apply Has.there)) (by rfl)) ?_
            refine Jl.on rfl rfl ?_
            refine Jl.pv (PR.gtr _ rfl rfl rfl) ?_
            refine Jl.pv (PR.pickT rfl rfl) ?_
            refine Jl.nil ?_
            refine Jq.thenN ?_
            refine Jc.cond rfl (fun h2 => ?_) (fun h2 => ?_)
            · try replace h2 := of_decide_eq_true h2
              refine Jc.region ?_
              refine Jl.pv (PR.fieldAddr rfl tfl34_6) ?_
              refine Jl.pv (PR.load1 rfl tsh3 (by repeat (first | exact Has.here | apply Has.there)) (by rfl)) ?_
              refine Jl.pv (PR.fieldAddr rfl tfl30_3) ?_
              refine Jl.pv (PR.fieldAddr rfl tfl24_2) ?_
              refine Jl.pv (PR.load1 rfl tsh3 (by repeat (first | exact Has.here | apply Has.there)) (by rfl)) ?_
              refine Jl.pv (PR.add (IntKind.i64.wrap (b.cf.d + b.cf.su)) rfl rfl rfl) ?_
              refine Jl.pv (PR.fieldAddr rfl tfl34_6) ?_
              refine Jl.store1 rfl tsh3 rfl (by rfl) (by repeat (first | exact Swap.here | apply Swap.there)) (by rfl) ?_
              refine Jl.nil ?_
              refine Jq.thenN ?_
              refine Jc.seq ?_
              refine Jc.region ?_
              refine Jl.pv (PR.loadA rfl tsh34 (by repeat (first | exact Has.here | apply Has.there)) (by rfl)) ?_
              refine Jl.storeW rfl tsh34 rfl (by rfl) (by first | exact Br.cs_one _ _ | simp [Value.oneCell', On.cs]) (by repeat (first | exact Swap.here | apply Swap.there)) (by rfl) ?_
              refine Jl.nil ?_
              refine Jq.thenN ?_
              refine Jc.ret ?_
              refine Jq.jmpR ?_
              exact Jq.finM (Ds := D0 :: ds) () (.inl rfl) rfl (Take.cons Del.here (Take.tail (marksOf ds) [_, _, _, _, _])) (RetVs.cellA rfl (by repeat (first | exact Has.here | apply Has.there)) tsh34 (by rfl) RetVs.nil) (by simp_all [Br.counts, Br.want, Br.more, Br.act, retval]) Take.nil trivial
            · try replace h2 := of_decide_eq_false h2
              refine Jc.skip ?_
              refine Jq.thenN ?_
              refine Jc.seq ?_
              refine Jc.region ?_
              refine Jl.pv (PR.loadA rfl tsh34 (by repeat (first | exact Has.here | apply Has.there)) (by rfl)) ?_
              refine Jl.storeW rfl tsh34 rfl (by rfl) (by first | exact Br.cs_one _ _ | simp [Value.oneCell', On.cs]) (by repeat (first | exact Swap.here | apply Swap.there)) (by rfl) ?_
              refine Jl.nil ?_
              refine Jq.thenN ?_
              refine Jc.ret ?_
              refine Jq.jmpR ?_
              exact Jq.finM (Ds := D0 :: ds) () (.inl rfl) rfl (Take.cons Del.here (Take.tail (marksOf ds) [_, _, _, _, _])) (RetVs.cellA rfl (by repeat (first | exact Has.here | apply Has.there)) tsh34 (by rfl) RetVs.nil) (by simp_all [Br.counts, Br.want, Br.more, Br.act, retval]) Take.nil trivial
          · try replace g61 := of_decide_eq_false g61
            refine Jl.offS rfl rfl rfl ?_
            refine Jl.offS rfl rfl rfl ?_
            refine Jl.offS rfl rfl rfl ?_
            refine Jl.pv (PR.pickF rfl rfl) ?_
            refine Jl.nil ?_
            refine Jq.thenN ?_
            refine Jc.condF rfl ?_
            refine Jc.skip ?_
            refine Jq.thenN ?_
            refine Jc.seq ?_
            refine Jc.region ?_
            refine Jl.pv (PR.loadA rfl tsh34 (by repeat (first | exact Has.here | apply Has.there)) (by rfl)) ?_
            refine Jl.storeW rfl tsh34 rfl (by rfl) (by first | exact Br.cs_one _ _ | simp [Value.oneCell', On.cs]) (by repeat (first | exact Swap.here | apply Swap.there)) (by rfl) ?_
            refine Jl.nil ?_
            refine Jq.thenN ?_
            refine Jc.ret ?_
            refine Jq.jmpR ?_
            exact Jq.finM (Ds := D0 :: ds) () (.inl rfl) rfl (Take.cons Del.here (Take.tail (marksOf ds) [_, _, _, _, _])) (RetVs.cellA rfl (by repeat (first | exact Has.here | apply Has.there)) tsh34 (by rfl) RetVs.nil) (by simp_all [Br.counts, Br.want, Br.more, Br.act, retval]) Take.nil trivial
        · try replace g55 := of_decide_eq_false g55
          refine Jl.offS rfl rfl rfl ?_
          refine Jl.offS rfl rfl rfl ?_
          refine Jl.offS rfl rfl rfl ?_
          refine Jl.offS rfl rfl rfl ?_
          refine Jl.pv (PR.pickF rfl rfl) ?_
          refine Jl.pv (PR.move rfl) ?_
          refine Jl.offS rfl rfl rfl ?_
          refine Jl.offS rfl rfl rfl ?_
          refine Jl.offS rfl rfl rfl ?_
          refine Jl.pv (PR.pickF rfl rfl) ?_
          refine Jl.nil ?_
          refine Jq.thenN ?_
          refine Jc.condF rfl ?_
          refine Jc.skip ?_
          refine Jq.thenN ?_
          refine Jc.seq ?_
          refine Jc.region ?_
          refine Jl.pv (PR.loadA rfl tsh34 (by repeat (first | exact Has.here | apply Has.there)) (by rfl)) ?_
          refine Jl.storeW rfl tsh34 rfl (by rfl) (by first | exact Br.cs_one _ _ | simp [Value.oneCell', On.cs]) (by repeat (first | exact Swap.here | apply Swap.there)) (by rfl) ?_
          refine Jl.nil ?_
          refine Jq.thenN ?_
          refine Jc.ret ?_
          refine Jq.jmpR ?_
          exact Jq.finM (Ds := D0 :: ds) () (.inl rfl) rfl (Take.cons Del.here (Take.tail (marksOf ds) [_, _, _, _, _])) (RetVs.cellA rfl (by repeat (first | exact Has.here | apply Has.there)) tsh34 (by rfl) RetVs.nil) (by simp_all [Br.counts, Br.want, Br.more, Br.act, retval]) Take.nil trivial
    · exact fun _ _ t => t.elim
  · intro hfirst0
    refine Jc.seq ?_
    refine Jc.drawn [0, 1, 0, 4, 12, 0, 32, 99, 0, 256, 995, 2047, 0, 8191] ([], []) [⟨[(0, false), (2, false), (3, false), (4, false), (5, false), (6, false), (8, false), (9, false), (12, true)], [], 1⟩, ⟨[], [], 7⟩, ⟨[], [], 10⟩, ⟨[(11, false)], [12], 13⟩] tmx (by kernel_rfl) ?_
    refine Dh.JH.cons ?_
    refine Dh.JB.rd [.blk _ _ _] rfl trivial (by repeat (first | exact Take.nil | apply Take.cons (by repeat (first | exact Del.here | apply Del.there)))) (fun _ => PR.loadW rfl tsh30 Has.here (by rfl)) ?_
    refine Dh.JB.pv rfl trivial (fun _ => PR.fieldAddr rfl tfl30_3) ?_
    refine Dh.JB.pv rfl trivial (fun _ => PR.fieldAddr rfl tfl24_0) ?_
    refine Dh.JB.rd [.blk _ _ _] rfl trivial (by repeat (first | exact Take.nil | apply Take.cons (by repeat (first | exact Del.here | apply Del.there)))) (fun _ => PR.load1 rfl tsh3 Has.here (by rfl)) ?_
    refine Dh.JB.pv rfl trivial (fun _ => PR.fieldAddr rfl tfl30_3) ?_
    refine Dh.JB.rd [.blk _ _ _] rfl trivial (by repeat (first | exact Take.nil | apply Take.cons (by repeat (first | exact Del.here | apply Del.there)))) (fun _ => PR.loadA rfl tsh24 Has.here (by rfl)) ?_
    refine Dh.JB.pv rfl trivial (fun _ => PR.fieldAddr rfl tfl30_3) ?_
    refine Dh.JB.rd [.blk _ _ _] rfl trivial (by repeat (first | exact Take.nil | apply Take.cons (by repeat (first | exact Del.here | apply Del.there)))) (fun _ => PR.loadA rfl tsh24 Has.here (by rfl)) ?_
    refine Dh.JB.alloc rfl trivial tze34 ?_
    refine Dh.JB.nil ?_
    refine Dh.JL.nil ?_
    refine Dh.JE.mk rfl (fun _ h => by cases h) (fun C1_1 => ?_)
    refine Jl.call (version_ct b z) en18 (by rfl) (by repeat (first | exact Take.nil | apply Take.cons (by repeat (first | exact Del.here | apply Del.there)))) (by repeat (first | exact trivial | refine And.intro (by repeat (first | exact Mem.here | apply Mem.there)) ?_)) ?_
    rintro ⟨⟩
    refine Jl.nil ?_
    refine Dh.Jq.segV (by repeat (first | exact Dh.FExt.refl | apply Dh.FExt.cons | apply Dh.FExt.app)) ?_ (by repeat (first | exact Dh.KeepL.nil | apply Dh.KeepL.anc (by rfl) | apply Dh.KeepL.keep (by repeat (first | exact Take.nil | apply Take.cons (by repeat (first | exact Del.here | apply Del.there))))))
    refine Dh.JH.cons ?_
    refine Dh.JB.nil ?_
    refine Dh.JL.nil ?_
    refine Dh.JE.mk rfl (fun _ h => by cases h) (fun C1_7 => ?_)
    refine Jl.call (cfloorR_ct b.cf z.1 (by omega)) en22 (by rfl) (by repeat (first | exact Take.nil | apply Take.cons (by repeat (first | exact Del.here | apply Del.there)))) (by repeat (first | exact trivial | refine And.intro (by repeat (first | exact Mem.here | apply Mem.there)) ?_)) ?_
    rintro ⟨⟩
    refine Jl.nil ?_
    refine Dh.Jq.segV (by repeat (first | exact Dh.FExt.refl | apply Dh.FExt.cons | apply Dh.FExt.app)) ?_ (by repeat (first | exact Dh.KeepL.nil | apply Dh.KeepL.anc (by rfl) | apply Dh.KeepL.keep (by repeat (first | exact Take.nil | apply Take.cons (by repeat (first | exact Del.here | apply Del.there))))))
    refine Dh.JH.cons ?_
    refine Dh.JB.nil ?_
    refine Dh.JL.nil ?_
    refine Dh.JE.mk rfl (fun _ h => by cases h) (fun C1_10 => ?_)
    refine Jl.call (cbound_ct b.cf z.1 (by omega)) en23 (by rfl) (by repeat (first | exact Take.nil | apply Take.cons (by repeat (first | exact Del.here | apply Del.there)))) (by repeat (first | exact trivial | refine And.intro (by repeat (first | exact Mem.here | apply Mem.there)) ?_)) ?_
    rintro ⟨⟩
    refine Jl.nil ?_
    refine Dh.Jq.segV (by repeat (first | exact Dh.FExt.refl | apply Dh.FExt.cons | apply Dh.FExt.app)) ?_ (by repeat (first | exact Dh.KeepL.nil | apply Dh.KeepL.anc (by rfl) | apply Dh.KeepL.keep (by repeat (first | exact Take.nil | apply Take.cons (by repeat (first | exact Del.here | apply Del.there))))))
    refine Dh.JH.cons ?_
    refine Dh.JB.pv rfl trivial (fun _ => PR.build (by rfl) tze34 tpl34_0_6_7_8 (by rfl)) ?_
    refine Dh.JB.nil ?_
    refine Dh.JL.ptr rfl (by repeat (first | exact Dh.es_here | apply Dh.es_there)) (fun b3 => ?_)
    refine Dh.JL.nil ?_
    refine Dh.JE.mk rfl (fun _ h => by cases h) (fun C1_13 => ?_)
    refine Jl.storeW rfl tsh34 rfl (by rfl) (by first | exact Br.cs_one _ _ | simp [Value.oneCell', On.cs]) (by repeat (first | exact Swap.here | apply Swap.there)) (by rfl) ?_
    refine Jl.nil ?_
    refine Dh.Jq.segN (by repeat (first | exact Dh.FExt.refl | apply Dh.FExt.cons | apply Dh.FExt.app)) ?_ (by repeat (first | exact Dh.KeepL.nil | apply Dh.KeepL.anc (by rfl) | apply Dh.KeepL.keep (by repeat (first | exact Take.nil | apply Take.cons (by repeat (first | exact Del.here | apply Del.there))))))
    refine Dh.JH.nil ?_
    refine Dh.JB.nil ?_
    refine Dh.JL.nil ?_
    refine Jq.thenN ?_
    refine Jc.seq ?_
    refine Jc.region ?_
    refine Jl.pv (PR.fieldAddr rfl tfl34_4) ?_
    refine Jl.pv (PR.build (by rfl) tze57 tpl57_0_1 (by rfl)) ?_
    refine Jl.pv (PR.fieldAddr rfl tfl34_1) ?_
    refine Jl.pv (PR.build (by rfl) tze57 tpl57_0_1 (by rfl)) ?_
    refine Jl.pv (PR.fieldAddr rfl tfl34_2) ?_
    refine Jl.pv (PR.build (by rfl) tze57 tpl57_0_1 (by rfl)) ?_
    refine Jl.pv (PR.fieldAddr rfl tfl34_3) ?_
    refine Jl.pv (PR.build (by rfl) tze57 tpl57_0_1 (by rfl)) ?_
    refine Jl.pv (PR.fieldAddr rfl tfl34_5) ?_
    refine Jl.pv (PR.build (by rfl) tze57 tpl57_0_1 (by rfl)) ?_
    refine Jl.pv (PR.build (by rfl) tze58 tpl58_0_1_2_3_4 (by rfl)) ?_
    refine Jl.alloc tze58 ?_
    intro b4
    refine Jl.storeW rfl tsh58 rfl (by rfl) (by first | exact Br.cs_one _ _ | simp [Value.oneCell', On.cs]) (by repeat (first | exact Swap.here | apply Swap.there)) (by rfl) ?_
    refine Jl.nil ?_
    refine Jq.thenN ?_
    refine Jc.seq ?_
    refine Jc.region ?_
    refine Jl.alloc tze3 ?_
    intro b5
    refine Jl.store1 rfl tsh3 rfl (by rfl) (by repeat (first | exact Swap.here | apply Swap.there)) (by rfl) ?_
    refine Jl.nil ?_
    refine Jq.thenN ?_
    refine Jc.seq ?_
    refine Jc.label ?_
    refine Jq.thenN ?_
    exact Jc.atN hfirst0 ⟨(b3, b4, b5), [], 0, by omega⟩ rfl (by repeat (first | exact trivial | refine And.intro rfl ?_)) rfl (by repeat (first | exact trivial | refine And.intro (by repeat (first | exact Mem.here | apply Mem.there)) ?_))
end Go.Proofs.YtiebgcahdnaekaaDoor
