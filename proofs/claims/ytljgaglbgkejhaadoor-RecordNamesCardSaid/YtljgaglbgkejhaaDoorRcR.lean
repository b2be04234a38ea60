/-
Contracts of the reference of records.
-/
import Derived.Test.YtljgaglbgkejhaaDoorRcB
import Derived.Test.YtljgaglbgkejhaaDoorNumU
namespace Go.Proofs.YtljgaglbgkejhaaDoor
set_option linter.unusedVariables false
open Go.RowKit
attribute [local irreducible] Res.blk Res.row Fact.rd
def rlo (k : Nat) : Int := if 1 ≤ k ∧ k < 17 then ((bndAt k).1 : Int) else -1
def rhi (k : Nat) : Int := if 1 ≤ k ∧ k < 17 then ((bndAt k).2 : Int) else -1

theorem rmany0_ct : Ct Tryd.prog 31 [.int .u8 ((0 : Nat) : Int)] [] [] (fun _ : Unit => .tuple #[.int .i64 (rlo 0), .int .i64 (rhi 0)]) (fun _ => []) (fun _ => []) := by
  refine Ct.of _ Tryd.func31 Tryd.ntmps31 rfl rfl (fun X W => ?_)
  refine Jc.seq ?_
  refine Jc.region ?_
  refine Jl.pv (PR.assign rfl) ?_
  refine Jl.pv (PR.assign rfl) ?_
  refine Jl.nil ?_
  refine Jq.thenN ?_
  refine Jc.seq ?_
  refine Jc.seq ?_
  refine Jc.region ?_
  refine Jl.pv (PR.move rfl) ?_
  refine Jl.nil ?_
  refine Jq.thenN ?_
  refine Jc.block ?_
  refine Jc.seq ?_
  refine Jc.region ?_
  refine Jl.pv (PR.eql false rfl rfl rfl) ?_
  refine Jl.pv (PR.assign rfl) ?_
  refine Jl.nil ?_
  refine Jq.thenN ?_
  refine Jc.condF rfl ?_
  refine Jc.seq ?_
  refine Jc.seq ?_
  refine Jc.region ?_
  refine Jl.pv (PR.eql false rfl rfl rfl) ?_
  refine Jl.pv (PR.assign rfl) ?_
  refine Jl.nil ?_
  refine Jq.thenN ?_
  refine Jc.condF rfl ?_
  refine Jc.seq ?_
  refine Jc.region ?_
  refine Jl.pv (PR.eql false rfl rfl rfl) ?_
  refine Jl.pv (PR.assign rfl) ?_
  refine Jl.nil ?_
  refine Jq.thenN ?_
  refine Jc.condF rfl ?_
  refine Jc.seq ?_
  refine Jc.region ?_
  refine Jl.pv (PR.eql false rfl rfl rfl) ?_
  refine Jl.pv (PR.assign rfl) ?_
  refine Jl.nil ?_
  refine Jq.thenN ?_
  refine Jc.condF rfl ?_
  refine Jc.seq ?_
  refine Jc.region ?_
  refine Jl.pv (PR.eql false rfl rfl rfl) ?_
  refine Jl.pv (PR.assign rfl) ?_
  refine Jl.nil ?_
  refine Jq.thenN ?_
  refine Jc.condF rfl ?_
  refine Jc.region ?_
  refine Jl.pv (PR.eql false rfl rfl rfl) ?_
  refine Jl.pv (PR.assign rfl) ?_
  refine Jl.nil ?_
  refine Jq.thenN ?_
  refine Jc.condF rfl ?_
  refine Jc.seq ?_
  refine Jc.seq ?_
  refine Jc.region ?_
  refine Jl.pv (PR.eql false rfl rfl rfl) ?_
  refine Jl.pv (PR.assign rfl) ?_
  refine Jl.nil ?_
  refine Jq.thenN ?_
  refine Jc.condF rfl ?_
  refine Jc.seq ?_
  refine Jc.region ?_
  refine Jl.pv (PR.eql false rfl rfl rfl) ?_
  refine Jl.pv (PR.assign rfl) ?_
  refine Jl.nil ?_
  refine Jq.thenN ?_
  refine Jc.condF rfl ?_
  refine Jc.seq ?_
  refine Jc.region ?_
  refine Jl.pv (PR.eql false rfl rfl rfl) ?_
  refine Jl.pv (PR.assign rfl) ?_
  refine Jl.nil ?_
  refine Jq.thenN ?_
  refine Jc.condF rfl ?_
  refine Jc.region ?_
  refine Jl.pv (PR.eql false rfl rfl rfl) ?_
  refine Jl.pv (PR.assign rfl) ?_
  refine Jl.nil ?_
  refine Jq.thenN ?_
  refine Jc.condF rfl ?_
  refine Jc.seq ?_
  refine Jc.seq ?_
  refine Jc.region ?_
  refine Jl.pv (PR.eql false rfl rfl rfl) ?_
  refine Jl.pv (PR.assign rfl) ?_
  refine Jl.nil ?_
  refine Jq.thenN ?_
  refine Jc.condF rfl ?_
  refine Jc.region ?_
  refine Jl.pv (PR.eql false rfl rfl rfl) ?_
  refine Jl.pv (PR.assign rfl) ?_
  refine Jl.nil ?_
  refine Jq.thenN ?_
  refine Jc.condF rfl ?_
  refine Jc.seq ?_
  refine Jc.seq ?_
  refine Jc.region ?_
  refine Jl.pv (PR.eql false rfl rfl rfl) ?_
  refine Jl.pv (PR.assign rfl) ?_
  refine Jl.nil ?_
  refine Jq.thenN ?_
  refine Jc.condF rfl ?_
  refine Jc.seq ?_
  refine Jc.region ?_
  refine Jl.pv (PR.eql false rfl rfl rfl) ?_
  refine Jl.pv (PR.assign rfl) ?_
  refine Jl.nil ?_
  refine Jq.thenN ?_
  refine Jc.condF rfl ?_
  refine Jc.region ?_
  refine Jl.pv (PR.eql false rfl rfl rfl) ?_
  refine Jl.pv (PR.assign rfl) ?_
  refine Jl.nil ?_
  refine Jq.thenN ?_
  refine Jc.condF rfl ?_
  refine Jc.seq ?_
  refine Jc.region ?_
  refine Jl.pv (PR.eql false rfl rfl rfl) ?_
  refine Jl.pv (PR.assign rfl) ?_
  refine Jl.nil ?_
  refine Jq.thenN ?_
  refine Jc.condF rfl ?_
  refine Jc.skip ?_
  refine Jq.blkN ?_
  refine Jq.thenN ?_
  refine Jc.seq ?_
  refine Jc.region ?_
  refine Jl.pv (PR.assign rfl) ?_
  refine Jl.pv (PR.assign rfl) ?_
  refine Jl.nil ?_
  refine Jq.thenN ?_
  refine Jc.ret ?_
  exact Jq.fin () (.inl rfl) rfl (RetVs.tmp rfl (RetVs.tmp rfl RetVs.nil)) rfl (by repeat (first | exact Take.nil | apply Take.cons (by repeat (first | exact Del.here | apply Del.there)))) (by repeat (first | exact trivial | refine And.intro (by repeat (first | exact Mem.here | apply Mem.there)) ?_))
theorem rmany1_ct : Ct Tryd.prog 31 [.int .u8 ((1 : Nat) : Int)] [] [] (fun _ : Unit => .tuple #[.int .i64 (rlo 1), .int .i64 (rhi 1)]) (fun _ => []) (fun _ => []) := by
  refine Ct.of _ Tryd.func31 Tryd.ntmps31 rfl rfl (fun X W => ?_)
  refine Jc.seq ?_
  refine Jc.region ?_
  refine Jl.pv (PR.assign rfl) ?_
  refine Jl.pv (PR.assign rfl) ?_
  refine Jl.nil ?_
  refine Jq.thenN ?_
  refine Jc.seq ?_
  refine Jc.seq ?_
  refine Jc.region ?_
  refine Jl.pv (PR.move rfl) ?_
  refine Jl.nil ?_
  refine Jq.thenN ?_
  refine Jc.block ?_
  refine Jc.seq ?_
  refine Jc.region ?_
  refine Jl.pv (PR.eql false rfl rfl rfl) ?_
  refine Jl.pv (PR.assign rfl) ?_
  refine Jl.nil ?_
  refine Jq.thenN ?_
  refine Jc.condF rfl ?_
  refine Jc.seq ?_
  refine Jc.seq ?_
  refine Jc.region ?_
  refine Jl.pv (PR.eql true rfl rfl rfl) ?_
  refine Jl.pv (PR.assign rfl) ?_
  refine Jl.nil ?_
  refine Jq.thenN ?_
  refine Jc.condT rfl ?_
  refine Jc.skip ?_
  refine Jq.thenN ?_
  refine Jc.condT rfl ?_
  refine Jc.seq ?_
  refine Jc.region ?_
  refine Jl.pv (PR.assign rfl) ?_
  refine Jl.pv (PR.assign rfl) ?_
  refine Jl.nil ?_
  refine Jq.thenN ?_
  refine Jc.ret ?_
  refine Jq.blkR ?_
  refine Jq.thenR ?_
  exact Jq.fin () (.inl rfl) rfl (RetVs.tmp rfl (RetVs.tmp rfl RetVs.nil)) rfl (by repeat (first | exact Take.nil | apply Take.cons (by repeat (first | exact Del.here | apply Del.there)))) (by repeat (first | exact trivial | refine And.intro (by repeat (first | exact Mem.here | apply Mem.there)) ?_))
  -- hint not used: k9
  -- hint not used: k10
  -- hint not used: k11
  -- hint not used: k12
  -- hint not used: k14
  -- hint not used: k15
  -- hint not used: k16
  -- hint not used: k17
  -- hint not used: k19
  -- hint not used: k20
  -- hint not used: k22
  -- hint not used: k23
  -- hint not used: k24
  -- hint not used: k26
theorem rmany2_ct : Ct Tryd.prog 31 [.int .u8 ((2 : Nat) : Int)] [] [] (fun _ : Unit => .tuple #[.int .i64 (rlo 2), .int .i64 (rhi 2)]) (fun _ => []) (fun _ => []) := by
  refine Ct.of _ Tryd.func31 Tryd.ntmps31 rfl rfl (fun X W => ?_)
  refine Jc.seq ?_
  refine Jc.region ?_
  refine Jl.pv (PR.assign rfl) ?_
  refine Jl.pv (PR.assign rfl) ?_
  refine Jl.nil ?_
  refine Jq.thenN ?_
  refine Jc.seq ?_
  refine Jc.seq ?_
  refine Jc.region ?_
  refine Jl.pv (PR.move rfl) ?_
  refine Jl.nil ?_
  refine Jq.thenN ?_
  refine Jc.block ?_
  refine Jc.seq ?_
  refine Jc.region ?_
  refine Jl.pv (PR.eql true rfl rfl rfl) ?_
  refine Jl.pv (PR.assign rfl) ?_
  refine Jl.nil ?_
  refine Jq.thenN ?_
  refine Jc.condT rfl ?_
  refine Jc.seq ?_
  refine Jc.region ?_
  refine Jl.pv (PR.assign rfl) ?_
  refine Jl.pv (PR.assign rfl) ?_
  refine Jl.nil ?_
  refine Jq.thenN ?_
  refine Jc.ret ?_
  refine Jq.blkR ?_
  refine Jq.thenR ?_
  exact Jq.fin () (.inl rfl) rfl (RetVs.tmp rfl (RetVs.tmp rfl RetVs.nil)) rfl (by repeat (first | exact Take.nil | apply Take.cons (by repeat (first | exact Del.here | apply Del.there)))) (by repeat (first | exact trivial | refine And.intro (by repeat (first | exact Mem.here | apply Mem.there)) ?_))
  -- hint not used: k8
  -- hint not used: k9
  -- hint not used: k10
  -- hint not used: k11
  -- hint not used: k12
  -- hint not used: k14
  -- hint not used: k15
  -- hint not used: k16
  -- hint not used: k17
  -- hint not used: k19
  -- hint not used: k20
  -- hint not used: k22
  -- hint not used: k23
  -- hint not used: k24
  -- hint not used: k26
theorem rmany3_ct : Ct Tryd.prog 31 [.int .u8 ((3 : Nat) : Int)] [] [] (fun _ : Unit => .tuple #[.int .i64 (rlo 3), .int .i64 (rhi 3)]) (fun _ => []) (fun _ => []) := by
  refine Ct.of _ Tryd.func31 Tryd.ntmps31 rfl rfl (fun X W => ?_)
  refine Jc.seq ?_
  refine Jc.region ?_
  refine Jl.pv (PR.assign rfl) ?_
  refine Jl.pv (PR.assign rfl) ?_
  refine Jl.nil ?_
  refine Jq.thenN ?_
  refine Jc.seq ?_
  refine Jc.seq ?_
  refine Jc.region ?_
  refine Jl.pv (PR.move rfl) ?_
  refine Jl.nil ?_
  refine Jq.thenN ?_
  refine Jc.block ?_
  refine Jc.seq ?_
  refine Jc.region ?_
  refine Jl.pv (PR.eql false rfl rfl rfl) ?_
  refine Jl.pv (PR.assign rfl) ?_
  refine Jl.nil ?_
  refine Jq.thenN ?_
  refine Jc.condF rfl ?_
  refine Jc.seq ?_
  refine Jc.seq ?_
  refine Jc.region ?_
  refine Jl.pv (PR.eql false rfl rfl rfl) ?_
  refine Jl.pv (PR.assign rfl) ?_
  refine Jl.nil ?_
  refine Jq.thenN ?_
  refine Jc.condF rfl ?_
  refine Jc.seq ?_
  refine Jc.region ?_
  refine Jl.pv (PR.eql false rfl rfl rfl) ?_
  refine Jl.pv (PR.assign rfl) ?_
  refine Jl.nil ?_
  refine Jq.thenN ?_
  refine Jc.condF rfl ?_
  refine Jc.seq ?_
  refine Jc.region ?_
  refine Jl.pv (PR.eql false rfl rfl rfl) ?_
  refine Jl.pv (PR.assign rfl) ?_
  refine Jl.nil ?_
  refine Jq.thenN ?_
  refine Jc.condF rfl ?_
  refine Jc.seq ?_
  refine Jc.region ?_
  refine Jl.pv (PR.eql false rfl rfl rfl) ?_
  refine Jl.pv (PR.assign rfl) ?_
  refine Jl.nil ?_
  refine Jq.thenN ?_
  refine Jc.condF rfl ?_
  refine Jc.region ?_
  refine Jl.pv (PR.eql false rfl rfl rfl) ?_
  refine Jl.pv (PR.assign rfl) ?_
  refine Jl.nil ?_
  refine Jq.thenN ?_
  refine Jc.condF rfl ?_
  refine Jc.seq ?_
  refine Jc.seq ?_
  refine Jc.region ?_
  refine Jl.pv (PR.eql false rfl rfl rfl) ?_
  refine Jl.pv (PR.assign rfl) ?_
  refine Jl.nil ?_
  refine Jq.thenN ?_
  refine Jc.condF rfl ?_
  refine Jc.seq ?_
  refine Jc.region ?_
  refine Jl.pv (PR.eql false rfl rfl rfl) ?_
  refine Jl.pv (PR.assign rfl) ?_
  refine Jl.nil ?_
  refine Jq.thenN ?_
  refine Jc.condF rfl ?_
  refine Jc.seq ?_
  refine Jc.region ?_
  refine Jl.pv (PR.eql false rfl rfl rfl) ?_
  refine Jl.pv (PR.assign rfl) ?_
  refine Jl.nil ?_
  refine Jq.thenN ?_
  refine Jc.condF rfl ?_
  refine Jc.region ?_
  refine Jl.pv (PR.eql false rfl rfl rfl) ?_
  refine Jl.pv (PR.assign rfl) ?_
  refine Jl.nil ?_
  refine Jq.thenN ?_
  refine Jc.condF rfl ?_
  refine Jc.seq ?_
  refine Jc.seq ?_
  refine Jc.region ?_
  refine Jl.pv (PR.eql false rfl rfl rfl) ?_
  refine Jl.pv (PR.assign rfl) ?_
  refine Jl.nil ?_
  refine Jq.thenN ?_
  refine Jc.condF rfl ?_
  refine Jc.region ?_
  refine Jl.pv (PR.eql false rfl rfl rfl) ?_
  refine Jl.pv (PR.assign rfl) ?_
  refine Jl.nil ?_
  refine Jq.thenN ?_
  refine Jc.condF rfl ?_
  refine Jc.seq ?_
  refine Jc.seq ?_
  refine Jc.region ?_
  refine Jl.pv (PR.eql true rfl rfl rfl) ?_
  refine Jl.pv (PR.assign rfl) ?_
  refine Jl.nil ?_
  refine Jq.thenN ?_
  refine Jc.condT rfl ?_
  refine Jc.skip ?_
  refine Jq.thenN ?_
  refine Jc.condT rfl ?_
  refine Jc.seq ?_
  refine Jc.region ?_
  refine Jl.pv (PR.assign rfl) ?_
  refine Jl.pv (PR.assign rfl) ?_
  refine Jl.nil ?_
  refine Jq.thenN ?_
  refine Jc.ret ?_
  refine Jq.blkR ?_
  refine Jq.thenR ?_
  exact Jq.fin () (.inl rfl) rfl (RetVs.tmp rfl (RetVs.tmp rfl RetVs.nil)) rfl (by repeat (first | exact Take.nil | apply Take.cons (by repeat (first | exact Del.here | apply Del.there)))) (by repeat (first | exact trivial | refine And.intro (by repeat (first | exact Mem.here | apply Mem.there)) ?_))
  -- hint not used: k23
  -- hint not used: k24
  -- hint not used: k26
theorem rmany4_ct : Ct Tryd.prog 31 [.int .u8 ((4 : Nat) : Int)] [] [] (fun _ : Unit => .tuple #[.int .i64 (rlo 4), .int .i64 (rhi 4)]) (fun _ => []) (fun _ => []) := by
  refine Ct.of _ Tryd.func31 Tryd.ntmps31 rfl rfl (fun X W => ?_)
  refine Jc.seq ?_
  refine Jc.region ?_
  refine Jl.pv (PR.assign rfl) ?_
  refine Jl.pv (PR.assign rfl) ?_
  refine Jl.nil ?_
  refine Jq.thenN ?_
  refine Jc.seq ?_
  refine Jc.seq ?_
  refine Jc.region ?_
  refine Jl.pv (PR.move rfl) ?_
  refine Jl.nil ?_
  refine Jq.thenN ?_
  refine Jc.block ?_
  refine Jc.seq ?_
  refine Jc.region ?_
  refine Jl.pv (PR.eql false rfl rfl rfl) ?_
  refine Jl.pv (PR.assign rfl) ?_
  refine Jl.nil ?_
  refine Jq.thenN ?_
  refine Jc.condF rfl ?_
  refine Jc.seq ?_
  refine Jc.seq ?_
  refine Jc.region ?_
  refine Jl.pv (PR.eql false rfl rfl rfl) ?_
  refine Jl.pv (PR.assign rfl) ?_
  refine Jl.nil ?_
  refine Jq.thenN ?_
  refine Jc.condF rfl ?_
  refine Jc.seq ?_
  refine Jc.region ?_
  refine Jl.pv (PR.eql false rfl rfl rfl) ?_
  refine Jl.pv (PR.assign rfl) ?_
  refine Jl.nil ?_
  refine Jq.thenN ?_
  refine Jc.condF rfl ?_
  refine Jc.seq ?_
  refine Jc.region ?_
  refine Jl.pv (PR.eql false rfl rfl rfl) ?_
  refine Jl.pv (PR.assign rfl) ?_
  refine Jl.nil ?_
  refine Jq.thenN ?_
  refine Jc.condF rfl ?_
  refine Jc.seq ?_
  refine Jc.region ?_
  refine Jl.pv (PR.eql false rfl rfl rfl) ?_
  refine Jl.pv (PR.assign rfl) ?_
  refine Jl.nil ?_
  refine Jq.thenN ?_
  refine Jc.condF rfl ?_
  refine Jc.region ?_
  refine Jl.pv (PR.eql false rfl rfl rfl) ?_
  refine Jl.pv (PR.assign rfl) ?_
  refine Jl.nil ?_
  refine Jq.thenN ?_
  refine Jc.condF rfl ?_
  refine Jc.seq ?_
  refine Jc.seq ?_
  refine Jc.region ?_
  refine Jl.pv (PR.eql false rfl rfl rfl) ?_
  refine Jl.pv (PR.assign rfl) ?_
  refine Jl.nil ?_
  refine Jq.thenN ?_
  refine Jc.condF rfl ?_
  refine Jc.seq ?_
  refine Jc.region ?_
  refine Jl.pv (PR.eql false rfl rfl rfl) ?_
  refine Jl.pv (PR.assign rfl) ?_
  refine Jl.nil ?_
  refine Jq.thenN ?_
  refine Jc.condF rfl ?_
  refine Jc.seq ?_
  refine Jc.region ?_
  refine Jl.pv (PR.eql false rfl rfl rfl) ?_
  refine Jl.pv (PR.assign rfl) ?_
  refine Jl.nil ?_
  refine Jq.thenN ?_
  refine Jc.condF rfl ?_
  refine Jc.region ?_
  refine Jl.pv (PR.eql false rfl rfl rfl) ?_
  refine Jl.pv (PR.assign rfl) ?_
  refine Jl.nil ?_
  refine Jq.thenN ?_
  refine Jc.condF rfl ?_
  refine Jc.seq ?_
  refine Jc.seq ?_
  refine Jc.region ?_
  refine Jl.pv (PR.eql false rfl rfl rfl) ?_
  refine Jl.pv (PR.assign rfl) ?_
  refine Jl.nil ?_
  refine Jq.thenN ?_
  refine Jc.condF rfl ?_
  refine Jc.region ?_
  refine Jl.pv (PR.eql false rfl rfl rfl) ?_
  refine Jl.pv (PR.assign rfl) ?_
  refine Jl.nil ?_
  refine Jq.thenN ?_
  refine Jc.condF rfl ?_
  refine Jc.seq ?_
  refine Jc.seq ?_
  refine Jc.region ?_
  refine Jl.pv (PR.eql false rfl rfl rfl) ?_
  refine Jl.pv (PR.assign rfl) ?_
  refine Jl.nil ?_
  refine Jq.thenN ?_
  refine Jc.condF rfl ?_
  refine Jc.seq ?_
  refine Jc.region ?_
  refine Jl.pv (PR.eql true rfl rfl rfl) ?_
  refine Jl.pv (PR.assign rfl) ?_
  refine Jl.nil ?_
  refine Jq.thenN ?_
  refine Jc.condT rfl ?_
  refine Jc.skip ?_
  refine Jq.thenN ?_
  refine Jc.condT rfl ?_
  refine Jc.seq ?_
  refine Jc.region ?_
  refine Jl.pv (PR.assign rfl) ?_
  refine Jl.pv (PR.assign rfl) ?_
  refine Jl.nil ?_
  refine Jq.thenN ?_
  refine Jc.ret ?_
  refine Jq.blkR ?_
  refine Jq.thenR ?_
  exact Jq.fin () (.inl rfl) rfl (RetVs.tmp rfl (RetVs.tmp rfl RetVs.nil)) rfl (by repeat (first | exact Take.nil | apply Take.cons (by repeat (first | exact Del.here | apply Del.there)))) (by repeat (first | exact trivial | refine And.intro (by repeat (first | exact Mem.here | apply Mem.there)) ?_))
  -- hint not used: k24
  -- hint not used: k26
theorem rmany5_ct : Ct Tryd.prog 31 [.int .u8 ((5 : Nat) : Int)] [] [] (fun _ : Unit => .tuple #[.int .i64 (rlo 5), .int .i64 (rhi 5)]) (fun _ => []) (fun _ => []) := by
  refine Ct.of _ Tryd.func31 Tryd.ntmps31 rfl rfl (fun X W => ?_)
  refine Jc.seq ?_
  refine Jc.region ?_
  refine Jl.pv (PR.assign rfl) ?_
  refine Jl.pv (PR.assign rfl) ?_
  refine Jl.nil ?_
  refine Jq.thenN ?_
  refine Jc.seq ?_
  refine Jc.seq ?_
  refine Jc.region ?_
  refine Jl.pv (PR.move rfl) ?_
  refine Jl.nil ?_
  refine Jq.thenN ?_
  refine Jc.block ?_
  refine Jc.seq ?_
  refine Jc.region ?_
  refine Jl.pv (PR.eql false rfl rfl rfl) ?_
  refine Jl.pv (PR.assign rfl) ?_
  refine Jl.nil ?_
  refine Jq.thenN ?_
  refine Jc.condF rfl ?_
  refine Jc.seq ?_
  refine Jc.seq ?_
  refine Jc.region ?_
  refine Jl.pv (PR.eql false rfl rfl rfl) ?_
  refine Jl.pv (PR.assign rfl) ?_
  refine Jl.nil ?_
  refine Jq.thenN ?_
  refine Jc.condF rfl ?_
  refine Jc.seq ?_
  refine Jc.region ?_
  refine Jl.pv (PR.eql false rfl rfl rfl) ?_
  refine Jl.pv (PR.assign rfl) ?_
  refine Jl.nil ?_
  refine Jq.thenN ?_
  refine Jc.condF rfl ?_
  refine Jc.seq ?_
  refine Jc.region ?_
  refine Jl.pv (PR.eql false rfl rfl rfl) ?_
  refine Jl.pv (PR.assign rfl) ?_
  refine Jl.nil ?_
  refine Jq.thenN ?_
  refine Jc.condF rfl ?_
  refine Jc.seq ?_
  refine Jc.region ?_
  refine Jl.pv (PR.eql false rfl rfl rfl) ?_
  refine Jl.pv (PR.assign rfl) ?_
  refine Jl.nil ?_
  refine Jq.thenN ?_
  refine Jc.condF rfl ?_
  refine Jc.region ?_
  refine Jl.pv (PR.eql false rfl rfl rfl) ?_
  refine Jl.pv (PR.assign rfl) ?_
  refine Jl.nil ?_
  refine Jq.thenN ?_
  refine Jc.condF rfl ?_
  refine Jc.seq ?_
  refine Jc.seq ?_
  refine Jc.region ?_
  refine Jl.pv (PR.eql true rfl rfl rfl) ?_
  refine Jl.pv (PR.assign rfl) ?_
  refine Jl.nil ?_
  refine Jq.thenN ?_
  refine Jc.condT rfl ?_
  refine Jc.skip ?_
  refine Jq.thenN ?_
  refine Jc.condT rfl ?_
  refine Jc.seq ?_
  refine Jc.region ?_
  refine Jl.pv (PR.assign rfl) ?_
  refine Jl.pv (PR.assign rfl) ?_
  refine Jl.nil ?_
  refine Jq.thenN ?_
  refine Jc.ret ?_
  refine Jq.blkR ?_
  refine Jq.thenR ?_
  exact Jq.fin () (.inl rfl) rfl (RetVs.tmp rfl (RetVs.tmp rfl RetVs.nil)) rfl (by repeat (first | exact Take.nil | apply Take.cons (by repeat (first | exact Del.here | apply Del.there)))) (by repeat (first | exact trivial | refine And.intro (by repeat (first | exact Mem.here | apply Mem.there)) ?_))
  -- hint not used: k15
  -- hint not used: k16
  -- hint not used: k17
  -- hint not used: k19
  -- hint not used: k20
  -- hint not used: k22
  -- hint not used: k23
  -- hint not used: k24
  -- hint not used: k26
theorem rmany6_ct : Ct Tryd.prog 31 [.int .u8 ((6 : Nat) : Int)] [] [] (fun _ : Unit => .tuple #[.int .i64 (rlo 6), .int .i64 (rhi 6)]) (fun _ => []) (fun _ => []) := by
  refine Ct.of _ Tryd.func31 Tryd.ntmps31 rfl rfl (fun X W => ?_)
  refine Jc.seq ?_
  refine Jc.region ?_
  refine Jl.pv (PR.assign rfl) ?_
  refine Jl.pv (PR.assign rfl) ?_
  refine Jl.nil ?_
  refine Jq.thenN ?_
  refine Jc.seq ?_
  refine Jc.seq ?_
  refine Jc.region ?_
  refine Jl.pv (PR.move rfl) ?_
  refine Jl.nil ?_
  refine Jq.thenN ?_
  refine Jc.block ?_
  refine Jc.seq ?_
  refine Jc.region ?_
  refine Jl.pv (PR.eql false rfl rfl rfl) ?_
  refine Jl.pv (PR.assign rfl) ?_
  refine Jl.nil ?_
  refine Jq.thenN ?_
  refine Jc.condF rfl ?_
  refine Jc.seq ?_
  refine Jc.seq ?_
  refine Jc.region ?_
  refine Jl.pv (PR.eql false rfl rfl rfl) ?_
  refine Jl.pv (PR.assign rfl) ?_
  refine Jl.nil ?_
  refine Jq.thenN ?_
  refine Jc.condF rfl ?_
  refine Jc.seq ?_
  refine Jc.region ?_
  refine Jl.pv (PR.eql false rfl rfl rfl) ?_
  refine Jl.pv (PR.assign rfl) ?_
  refine Jl.nil ?_
  refine Jq.thenN ?_
  refine Jc.condF rfl ?_
  refine Jc.seq ?_
  refine Jc.region ?_
  refine Jl.pv (PR.eql false rfl rfl rfl) ?_
  refine Jl.pv (PR.assign rfl) ?_
  refine Jl.nil ?_
  refine Jq.thenN ?_
  refine Jc.condF rfl ?_
  refine Jc.seq ?_
  refine Jc.region ?_
  refine Jl.pv (PR.eql false rfl rfl rfl) ?_
  refine Jl.pv (PR.assign rfl) ?_
  refine Jl.nil ?_
  refine Jq.thenN ?_
  refine Jc.condF rfl ?_
  refine Jc.region ?_
  refine Jl.pv (PR.eql false rfl rfl rfl) ?_
  refine Jl.pv (PR.assign rfl) ?_
  refine Jl.nil ?_
  refine Jq.thenN ?_
  refine Jc.condF rfl ?_
  refine Jc.seq ?_
  refine Jc.seq ?_
  refine Jc.region ?_
  refine Jl.pv (PR.eql false rfl rfl rfl) ?_
  refine Jl.pv (PR.assign rfl) ?_
  refine Jl.nil ?_
  refine Jq.thenN ?_
  refine Jc.condF rfl ?_
  refine Jc.seq ?_
  refine Jc.region ?_
  refine Jl.pv (PR.eql false rfl rfl rfl) ?_
  refine Jl.pv (PR.assign rfl) ?_
  refine Jl.nil ?_
  refine Jq.thenN ?_
  refine Jc.condF rfl ?_
  refine Jc.seq ?_
  refine Jc.region ?_
  refine Jl.pv (PR.eql false rfl rfl rfl) ?_
  refine Jl.pv (PR.assign rfl) ?_
  refine Jl.nil ?_
  refine Jq.thenN ?_
  refine Jc.condF rfl ?_
  refine Jc.region ?_
  refine Jl.pv (PR.eql false rfl rfl rfl) ?_
  refine Jl.pv (PR.assign rfl) ?_
  refine Jl.nil ?_
  refine Jq.thenN ?_
  refine Jc.condF rfl ?_
  refine Jc.seq ?_
  refine Jc.seq ?_
  refine Jc.region ?_
  refine Jl.pv (PR.eql false rfl rfl rfl) ?_
  refine Jl.pv (PR.assign rfl) ?_
  refine Jl.nil ?_
  refine Jq.thenN ?_
  refine Jc.condF rfl ?_
  refine Jc.region ?_
  refine Jl.pv (PR.eql false rfl rfl rfl) ?_
  refine Jl.pv (PR.assign rfl) ?_
  refine Jl.nil ?_
  refine Jq.thenN ?_
  refine Jc.condF rfl ?_
  refine Jc.seq ?_
  refine Jc.seq ?_
  refine Jc.region ?_
  refine Jl.pv (PR.eql false rfl rfl rfl) ?_
  refine Jl.pv (PR.assign rfl) ?_
  refine Jl.nil ?_
  refine Jq.thenN ?_
  refine Jc.condF rfl ?_
  refine Jc.seq ?_
  refine Jc.region ?_
  refine Jl.pv (PR.eql false rfl rfl rfl) ?_
  refine Jl.pv (PR.assign rfl) ?_
  refine Jl.nil ?_
  refine Jq.thenN ?_
  refine Jc.condF rfl ?_
  refine Jc.region ?_
  refine Jl.pv (PR.eql true rfl rfl rfl) ?_
  refine Jl.pv (PR.assign rfl) ?_
  refine Jl.nil ?_
  refine Jq.thenN ?_
  refine Jc.condT rfl ?_
  refine Jc.seq ?_
  refine Jc.region ?_
  refine Jl.pv (PR.assign rfl) ?_
  refine Jl.pv (PR.assign rfl) ?_
  refine Jl.nil ?_
  refine Jq.thenN ?_
  refine Jc.ret ?_
  refine Jq.blkR ?_
  refine Jq.thenR ?_
  exact Jq.fin () (.inl rfl) rfl (RetVs.tmp rfl (RetVs.tmp rfl RetVs.nil)) rfl (by repeat (first | exact Take.nil | apply Take.cons (by repeat (first | exact Del.here | apply Del.there)))) (by repeat (first | exact trivial | refine And.intro (by repeat (first | exact Mem.here | apply Mem.there)) ?_))
  -- hint not used: k26
theorem rmany7_ct : Ct Tryd.prog 31 [.int .u8 ((7 : Nat) : Int)] [] [] (fun _ : Unit => .tuple #[.int .i64 (rlo 7), .int .i64 (rhi 7)]) (fun _ => []) (fun _ => []) := by
  refine Ct.of _ Tryd.func31 Tryd.ntmps31 rfl rfl (fun X W => ?_)
  refine Jc.seq ?_
  refine Jc.region ?_
  refine Jl.pv (PR.assign rfl) ?_
  refine Jl.pv (PR.assign rfl) ?_
  refine Jl.nil ?_
  refine Jq.thenN ?_
  refine Jc.seq ?_
  refine Jc.seq ?_
  refine Jc.region ?_
  refine Jl.pv (PR.move rfl) ?_
  refine Jl.nil ?_
  refine Jq.thenN ?_
  refine Jc.block ?_
  refine Jc.seq ?_
  refine Jc.region ?_
  refine Jl.pv (PR.eql false rfl rfl rfl) ?_
  refine Jl.pv (PR.assign rfl) ?_
  refine Jl.nil ?_
  refine Jq.thenN ?_
  refine Jc.condF rfl ?_
  refine Jc.seq ?_
  refine Jc.seq ?_
  refine Jc.region ?_
  refine Jl.pv (PR.eql false rfl rfl rfl) ?_
  refine Jl.pv (PR.assign rfl) ?_
  refine Jl.nil ?_
  refine Jq.thenN ?_
  refine Jc.condF rfl ?_
  refine Jc.seq ?_
  refine Jc.region ?_
  refine Jl.pv (PR.eql false rfl rfl rfl) ?_
  refine Jl.pv (PR.assign rfl) ?_
  refine Jl.nil ?_
  refine Jq.thenN ?_
  refine Jc.condF rfl ?_
  refine Jc.seq ?_
  refine Jc.region ?_
  refine Jl.pv (PR.eql false rfl rfl rfl) ?_
  refine Jl.pv (PR.assign rfl) ?_
  refine Jl.nil ?_
  refine Jq.thenN ?_
  refine Jc.condF rfl ?_
  refine Jc.seq ?_
  refine Jc.region ?_
  refine Jl.pv (PR.eql false rfl rfl rfl) ?_
  refine Jl.pv (PR.assign rfl) ?_
  refine Jl.nil ?_
  refine Jq.thenN ?_
  refine Jc.condF rfl ?_
  refine Jc.region ?_
  refine Jl.pv (PR.eql false rfl rfl rfl) ?_
  refine Jl.pv (PR.assign rfl) ?_
  refine Jl.nil ?_
  refine Jq.thenN ?_
  refine Jc.condF rfl ?_
  refine Jc.seq ?_
  refine Jc.seq ?_
  refine Jc.region ?_
  refine Jl.pv (PR.eql false rfl rfl rfl) ?_
  refine Jl.pv (PR.assign rfl) ?_
  refine Jl.nil ?_
  refine Jq.thenN ?_
  refine Jc.condF rfl ?_
  refine Jc.seq ?_
  refine Jc.region ?_
  refine Jl.pv (PR.eql true rfl rfl rfl) ?_
  refine Jl.pv (PR.assign rfl) ?_
  refine Jl.nil ?_
  refine Jq.thenN ?_
  refine Jc.condT rfl ?_
  refine Jc.skip ?_
  refine Jq.thenN ?_
  refine Jc.condT rfl ?_
  refine Jc.seq ?_
  refine Jc.region ?_
  refine Jl.pv (PR.assign rfl) ?_
  refine Jl.pv (PR.assign rfl) ?_
  refine Jl.nil ?_
  refine Jq.thenN ?_
  refine Jc.ret ?_
  refine Jq.blkR ?_
  refine Jq.thenR ?_
  exact Jq.fin () (.inl rfl) rfl (RetVs.tmp rfl (RetVs.tmp rfl RetVs.nil)) rfl (by repeat (first | exact Take.nil | apply Take.cons (by repeat (first | exact Del.here | apply Del.there)))) (by repeat (first | exact trivial | refine And.intro (by repeat (first | exact Mem.here | apply Mem.there)) ?_))
  -- hint not used: k16
  -- hint not used: k17
  -- hint not used: k19
  -- hint not used: k20
  -- hint not used: k22
  -- hint not used: k23
  -- hint not used: k24
  -- hint not used: k26
theorem rmany8_ct : Ct Tryd.prog 31 [.int .u8 ((8 : Nat) : Int)] [] [] (fun _ : Unit => .tuple #[.int .i64 (rlo 8), .int .i64 (rhi 8)]) (fun _ => []) (fun _ => []) := by
  refine Ct.of _ Tryd.func31 Tryd.ntmps31 rfl rfl (fun X W => ?_)
  refine Jc.seq ?_
  refine Jc.region ?_
  refine Jl.pv (PR.assign rfl) ?_
  refine Jl.pv (PR.assign rfl) ?_
  refine Jl.nil ?_
  refine Jq.thenN ?_
  refine Jc.seq ?_
  refine Jc.seq ?_
  refine Jc.region ?_
  refine Jl.pv (PR.move rfl) ?_
  refine Jl.nil ?_
  refine Jq.thenN ?_
  refine Jc.block ?_
  refine Jc.seq ?_
  refine Jc.region ?_
  refine Jl.pv (PR.eql false rfl rfl rfl) ?_
  refine Jl.pv (PR.assign rfl) ?_
  refine Jl.nil ?_
  refine Jq.thenN ?_
  refine Jc.condF rfl ?_
  refine Jc.seq ?_
  refine Jc.seq ?_
  refine Jc.region ?_
  refine Jl.pv (PR.eql false rfl rfl rfl) ?_
  refine Jl.pv (PR.assign rfl) ?_
  refine Jl.nil ?_
  refine Jq.thenN ?_
  refine Jc.condF rfl ?_
  refine Jc.seq ?_
  refine Jc.region ?_
  refine Jl.pv (PR.eql false rfl rfl rfl) ?_
  refine Jl.pv (PR.assign rfl) ?_
  refine Jl.nil ?_
  refine Jq.thenN ?_
  refine Jc.condF rfl ?_
  refine Jc.seq ?_
  refine Jc.region ?_
  refine Jl.pv (PR.eql false rfl rfl rfl) ?_
  refine Jl.pv (PR.assign rfl) ?_
  refine Jl.nil ?_
  refine Jq.thenN ?_
  refine Jc.condF rfl ?_
  refine Jc.seq ?_
  refine Jc.region ?_
  refine Jl.pv (PR.eql false rfl rfl rfl) ?_
  refine Jl.pv (PR.assign rfl) ?_
  refine Jl.nil ?_
  refine Jq.thenN ?_
  refine Jc.condF rfl ?_
  refine Jc.region ?_
  refine Jl.pv (PR.eql false rfl rfl rfl) ?_
  refine Jl.pv (PR.assign rfl) ?_
  refine Jl.nil ?_
  refine Jq.thenN ?_
  refine Jc.condF rfl ?_
  refine Jc.seq ?_
  refine Jc.seq ?_
  refine Jc.region ?_
  refine Jl.pv (PR.eql false rfl rfl rfl) ?_
  refine Jl.pv (PR.assign rfl) ?_
  refine Jl.nil ?_
  refine Jq.thenN ?_
  refine Jc.condF rfl ?_
  refine Jc.seq ?_
  refine Jc.region ?_
  refine Jl.pv (PR.eql false rfl rfl rfl) ?_
  refine Jl.pv (PR.assign rfl) ?_
  refine Jl.nil ?_
  refine Jq.thenN ?_
  refine Jc.condF rfl ?_
  refine Jc.seq ?_
  refine Jc.region ?_
  refine Jl.pv (PR.eql false rfl rfl rfl) ?_
  refine Jl.pv (PR.assign rfl) ?_
  refine Jl.nil ?_
  refine Jq.thenN ?_
  refine Jc.condF rfl ?_
  refine Jc.region ?_
  refine Jl.pv (PR.eql false rfl rfl rfl) ?_
  refine Jl.pv (PR.assign rfl) ?_
  refine Jl.nil ?_
  refine Jq.thenN ?_
  refine Jc.condF rfl ?_
  refine Jc.seq ?_
  refine Jc.seq ?_
  refine Jc.region ?_
  refine Jl.pv (PR.eql false rfl rfl rfl) ?_
  refine Jl.pv (PR.assign rfl) ?_
  refine Jl.nil ?_
  refine Jq.thenN ?_
  refine Jc.condF rfl ?_
  refine Jc.region ?_
  refine Jl.pv (PR.eql false rfl rfl rfl) ?_
  refine Jl.pv (PR.assign rfl) ?_
  refine Jl.nil ?_
  refine Jq.thenN ?_
  refine Jc.condF rfl ?_
  refine Jc.seq ?_
  refine Jc.seq ?_
  refine Jc.region ?_
  refine Jl.pv (PR.eql false rfl rfl rfl) ?_
  refine Jl.pv (PR.assign rfl) ?_
  refine Jl.nil ?_
  refine Jq.thenN ?_
  refine Jc.condF rfl ?_
  refine Jc.seq ?_
  refine Jc.region ?_
  refine Jl.pv (PR.eql false rfl rfl rfl) ?_
  refine Jl.pv (PR.assign rfl) ?_
  refine Jl.nil ?_
  refine Jq.thenN ?_
  refine Jc.condF rfl ?_
  refine Jc.region ?_
  refine Jl.pv (PR.eql false rfl rfl rfl) ?_
  refine Jl.pv (PR.assign rfl) ?_
  refine Jl.nil ?_
  refine Jq.thenN ?_
  refine Jc.condF rfl ?_
  refine Jc.seq ?_
  refine Jc.region ?_
  refine Jl.pv (PR.eql true rfl rfl rfl) ?_
  refine Jl.pv (PR.assign rfl) ?_
  refine Jl.nil ?_
  refine Jq.thenN ?_
  refine Jc.condT rfl ?_
  refine Jc.seq ?_
  refine Jc.region ?_
  refine Jl.pv (PR.assign rfl) ?_
  refine Jl.pv (PR.assign rfl) ?_
  refine Jl.nil ?_
  refine Jq.thenN ?_
  refine Jc.ret ?_
  refine Jq.blkR ?_
  refine Jq.thenR ?_
  exact Jq.fin () (.inl rfl) rfl (RetVs.tmp rfl (RetVs.tmp rfl RetVs.nil)) rfl (by repeat (first | exact Take.nil | apply Take.cons (by repeat (first | exact Del.here | apply Del.there)))) (by repeat (first | exact trivial | refine And.intro (by repeat (first | exact Mem.here | apply Mem.there)) ?_))
theorem rmany9_ct : Ct Tryd.prog 31 [.int .u8 ((9 : Nat) : Int)] [] [] (fun _ : Unit => .tuple #[.int .i64 (rlo 9), .int .i64 (rhi 9)]) (fun _ => []) (fun _ => []) := by
  refine Ct.of _ Tryd.func31 Tryd.ntmps31 rfl rfl (fun X W => ?_)
  refine Jc.seq ?_
  refine Jc.region ?_
  refine Jl.pv (PR.assign rfl) ?_
  refine Jl.pv (PR.assign rfl) ?_
  refine Jl.nil ?_
  refine Jq.thenN ?_
  refine Jc.seq ?_
  refine Jc.seq ?_
  refine Jc.region ?_
  refine Jl.pv (PR.move rfl) ?_
  refine Jl.nil ?_
  refine Jq.thenN ?_
  refine Jc.block ?_
  refine Jc.seq ?_
  refine Jc.region ?_
  refine Jl.pv (PR.eql false rfl rfl rfl) ?_
  refine Jl.pv (PR.assign rfl) ?_
  refine Jl.nil ?_
  refine Jq.thenN ?_
  refine Jc.condF rfl ?_
  refine Jc.seq ?_
  refine Jc.seq ?_
  refine Jc.region ?_
  refine Jl.pv (PR.eql false rfl rfl rfl) ?_
  refine Jl.pv (PR.assign rfl) ?_
  refine Jl.nil ?_
  refine Jq.thenN ?_
  refine Jc.condF rfl ?_
  refine Jc.seq ?_
  refine Jc.region ?_
  refine Jl.pv (PR.eql false rfl rfl rfl) ?_
  refine Jl.pv (PR.assign rfl) ?_
  refine Jl.nil ?_
  refine Jq.thenN ?_
  refine Jc.condF rfl ?_
  refine Jc.seq ?_
  refine Jc.region ?_
  refine Jl.pv (PR.eql false rfl rfl rfl) ?_
  refine Jl.pv (PR.assign rfl) ?_
  refine Jl.nil ?_
  refine Jq.thenN ?_
  refine Jc.condF rfl ?_
  refine Jc.seq ?_
  refine Jc.region ?_
  refine Jl.pv (PR.eql false rfl rfl rfl) ?_
  refine Jl.pv (PR.assign rfl) ?_
  refine Jl.nil ?_
  refine Jq.thenN ?_
  refine Jc.condF rfl ?_
  refine Jc.region ?_
  refine Jl.pv (PR.eql false rfl rfl rfl) ?_
  refine Jl.pv (PR.assign rfl) ?_
  refine Jl.nil ?_
  refine Jq.thenN ?_
  refine Jc.condF rfl ?_
  refine Jc.seq ?_
  refine Jc.seq ?_
  refine Jc.region ?_
  refine Jl.pv (PR.eql false rfl rfl rfl) ?_
  refine Jl.pv (PR.assign rfl) ?_
  refine Jl.nil ?_
  refine Jq.thenN ?_
  refine Jc.condF rfl ?_
  refine Jc.seq ?_
  refine Jc.region ?_
  refine Jl.pv (PR.eql false rfl rfl rfl) ?_
  refine Jl.pv (PR.assign rfl) ?_
  refine Jl.nil ?_
  refine Jq.thenN ?_
  refine Jc.condF rfl ?_
  refine Jc.seq ?_
  refine Jc.region ?_
  refine Jl.pv (PR.eql false rfl rfl rfl) ?_
  refine Jl.pv (PR.assign rfl) ?_
  refine Jl.nil ?_
  refine Jq.thenN ?_
  refine Jc.condF rfl ?_
  refine Jc.region ?_
  refine Jl.pv (PR.eql false rfl rfl rfl) ?_
  refine Jl.pv (PR.assign rfl) ?_
  refine Jl.nil ?_
  refine Jq.thenN ?_
  refine Jc.condF rfl ?_
  refine Jc.seq ?_
  refine Jc.seq ?_
  refine Jc.region ?_
  refine Jl.pv (PR.eql true rfl rfl rfl) ?_
  refine Jl.pv (PR.assign rfl) ?_
  refine Jl.nil ?_
  refine Jq.thenN ?_
  refine Jc.condT rfl ?_
  refine Jc.skip ?_
  refine Jq.thenN ?_
  refine Jc.condT rfl ?_
  refine Jc.seq ?_
  refine Jc.region ?_
  refine Jl.pv (PR.assign rfl) ?_
  refine Jl.pv (PR.assign rfl) ?_
  refine Jl.nil ?_
  refine Jq.thenN ?_
  refine Jc.ret ?_
  refine Jq.blkR ?_
  refine Jq.thenR ?_
  exact Jq.fin () (.inl rfl) rfl (RetVs.tmp rfl (RetVs.tmp rfl RetVs.nil)) rfl (by repeat (first | exact Take.nil | apply Take.cons (by repeat (first | exact Del.here | apply Del.there)))) (by repeat (first | exact trivial | refine And.intro (by repeat (first | exact Mem.here | apply Mem.there)) ?_))
  -- hint not used: k20
  -- hint not used: k22
  -- hint not used: k23
  -- hint not used: k24
  -- hint not used: k26
theorem rmany10_ct : Ct Tryd.prog 31 [.int .u8 ((10 : Nat) : Int)] [] [] (fun _ : Unit => .tuple #[.int .i64 (rlo 10), .int .i64 (rhi 10)]) (fun _ => []) (fun _ => []) := by
  refine Ct.of _ Tryd.func31 Tryd.ntmps31 rfl rfl (fun X W => ?_)
  refine Jc.seq ?_
  refine Jc.region ?_
  refine Jl.pv (PR.assign rfl) ?_
  refine Jl.pv (PR.assign rfl) ?_
  refine Jl.nil ?_
  refine Jq.thenN ?_
  refine Jc.seq ?_
  refine Jc.seq ?_
  refine Jc.region ?_
  refine Jl.pv (PR.move rfl) ?_
  refine Jl.nil ?_
  refine Jq.thenN ?_
  refine Jc.block ?_
  refine Jc.seq ?_
  refine Jc.region ?_
  refine Jl.pv (PR.eql false rfl rfl rfl) ?_
  refine Jl.pv (PR.assign rfl) ?_
  refine Jl.nil ?_
  refine Jq.thenN ?_
  refine Jc.condF rfl ?_
  refine Jc.seq ?_
  refine Jc.seq ?_
  refine Jc.region ?_
  refine Jl.pv (PR.eql false rfl rfl rfl) ?_
  refine Jl.pv (PR.assign rfl) ?_
  refine Jl.nil ?_
  refine Jq.thenN ?_
  refine Jc.condF rfl ?_
  refine Jc.seq ?_
  refine Jc.region ?_
  refine Jl.pv (PR.eql false rfl rfl rfl) ?_
  refine Jl.pv (PR.assign rfl) ?_
  refine Jl.nil ?_
  refine Jq.thenN ?_
  refine Jc.condF rfl ?_
  refine Jc.seq ?_
  refine Jc.region ?_
  refine Jl.pv (PR.eql false rfl rfl rfl) ?_
  refine Jl.pv (PR.assign rfl) ?_
  refine Jl.nil ?_
  refine Jq.thenN ?_
  refine Jc.condF rfl ?_
  refine Jc.seq ?_
  refine Jc.region ?_
  refine Jl.pv (PR.eql false rfl rfl rfl) ?_
  refine Jl.pv (PR.assign rfl) ?_
  refine Jl.nil ?_
  refine Jq.thenN ?_
  refine Jc.condF rfl ?_
  refine Jc.region ?_
  refine Jl.pv (PR.eql false rfl rfl rfl) ?_
  refine Jl.pv (PR.assign rfl) ?_
  refine Jl.nil ?_
  refine Jq.thenN ?_
  refine Jc.condF rfl ?_
  refine Jc.seq ?_
  refine Jc.seq ?_
  refine Jc.region ?_
  refine Jl.pv (PR.eql false rfl rfl rfl) ?_
  refine Jl.pv (PR.assign rfl) ?_
  refine Jl.nil ?_
  refine Jq.thenN ?_
  refine Jc.condF rfl ?_
  refine Jc.seq ?_
  refine Jc.region ?_
  refine Jl.pv (PR.eql false rfl rfl rfl) ?_
  refine Jl.pv (PR.assign rfl) ?_
  refine Jl.nil ?_
  refine Jq.thenN ?_
  refine Jc.condF rfl ?_
  refine Jc.seq ?_
  refine Jc.region ?_
  refine Jl.pv (PR.eql true rfl rfl rfl) ?_
  refine Jl.pv (PR.assign rfl) ?_
  refine Jl.nil ?_
  refine Jq.thenN ?_
  refine Jc.condT rfl ?_
  refine Jc.skip ?_
  refine Jq.thenN ?_
  refine Jc.condT rfl ?_
  refine Jc.seq ?_
  refine Jc.region ?_
  refine Jl.pv (PR.assign rfl) ?_
  refine Jl.pv (PR.assign rfl) ?_
  refine Jl.nil ?_
  refine Jq.thenN ?_
  refine Jc.ret ?_
  refine Jq.blkR ?_
  refine Jq.thenR ?_
  exact Jq.fin () (.inl rfl) rfl (RetVs.tmp rfl (RetVs.tmp rfl RetVs.nil)) rfl (by repeat (first | exact Take.nil | apply Take.cons (by repeat (first | exact Del.here | apply Del.there)))) (by repeat (first | exact trivial | refine And.intro (by repeat (first | exact Mem.here | apply Mem.there)) ?_))
  -- hint not used: k17
  -- hint not used: k19
  -- hint not used: k20
  -- hint not used: k22
  -- hint not used: k23
  -- hint not used: k24
  -- hint not used: k26
theorem rmany11_ct : Ct Tryd.prog 31 [.int .u8 ((11 : Nat) : Int)] [] [] (fun _ : Unit => .tuple #[.int .i64 (rlo 11), .int .i64 (rhi 11)]) (fun _ => []) (fun _ => []) := by
  refine Ct.of _ Tryd.func31 Tryd.ntmps31 rfl rfl (fun X W => ?_)
  refine Jc.seq ?_
  refine Jc.region ?_
  refine Jl.pv (PR.assign rfl) ?_
  refine Jl.pv (PR.assign rfl) ?_
  refine Jl.nil ?_
  refine Jq.thenN ?_
  refine Jc.seq ?_
  refine Jc.seq ?_
  refine Jc.region ?_
  refine Jl.pv (PR.move rfl) ?_
  refine Jl.nil ?_
  refine Jq.thenN ?_
  refine Jc.block ?_
  refine Jc.seq ?_
  refine Jc.region ?_
  refine Jl.pv (PR.eql false rfl rfl rfl) ?_
  refine Jl.pv (PR.assign rfl) ?_
  refine Jl.nil ?_
  refine Jq.thenN ?_
  refine Jc.condF rfl ?_
  refine Jc.seq ?_
  refine Jc.seq ?_
  refine Jc.region ?_
  refine Jl.pv (PR.eql false rfl rfl rfl) ?_
  refine Jl.pv (PR.assign rfl) ?_
  refine Jl.nil ?_
  refine Jq.thenN ?_
  refine Jc.condF rfl ?_
  refine Jc.seq ?_
  refine Jc.region ?_
  refine Jl.pv (PR.eql false rfl rfl rfl) ?_
  refine Jl.pv (PR.assign rfl) ?_
  refine Jl.nil ?_
  refine Jq.thenN ?_
  refine Jc.condF rfl ?_
  refine Jc.seq ?_
  refine Jc.region ?_
  refine Jl.pv (PR.eql false rfl rfl rfl) ?_
  refine Jl.pv (PR.assign rfl) ?_
  refine Jl.nil ?_
  refine Jq.thenN ?_
  refine Jc.condF rfl ?_
  refine Jc.seq ?_
  refine Jc.region ?_
  refine Jl.pv (PR.eql false rfl rfl rfl) ?_
  refine Jl.pv (PR.assign rfl) ?_
  refine Jl.nil ?_
  refine Jq.thenN ?_
  refine Jc.condF rfl ?_
  refine Jc.region ?_
  refine Jl.pv (PR.eql false rfl rfl rfl) ?_
  refine Jl.pv (PR.assign rfl) ?_
  refine Jl.nil ?_
  refine Jq.thenN ?_
  refine Jc.condF rfl ?_
  refine Jc.seq ?_
  refine Jc.seq ?_
  refine Jc.region ?_
  refine Jl.pv (PR.eql false rfl rfl rfl) ?_
  refine Jl.pv (PR.assign rfl) ?_
  refine Jl.nil ?_
  refine Jq.thenN ?_
  refine Jc.condF rfl ?_
  refine Jc.seq ?_
  refine Jc.region ?_
  refine Jl.pv (PR.eql false rfl rfl rfl) ?_
  refine Jl.pv (PR.assign rfl) ?_
  refine Jl.nil ?_
  refine Jq.thenN ?_
  refine Jc.condF rfl ?_
  refine Jc.seq ?_
  refine Jc.region ?_
  refine Jl.pv (PR.eql false rfl rfl rfl) ?_
  refine Jl.pv (PR.assign rfl) ?_
  refine Jl.nil ?_
  refine Jq.thenN ?_
  refine Jc.condF rfl ?_
  refine Jc.region ?_
  refine Jl.pv (PR.eql false rfl rfl rfl) ?_
  refine Jl.pv (PR.assign rfl) ?_
  refine Jl.nil ?_
  refine Jq.thenN ?_
  refine Jc.condF rfl ?_
  refine Jc.seq ?_
  refine Jc.seq ?_
  refine Jc.region ?_
  refine Jl.pv (PR.eql false rfl rfl rfl) ?_
  refine Jl.pv (PR.assign rfl) ?_
  refine Jl.nil ?_
  refine Jq.thenN ?_
  refine Jc.condF rfl ?_
  refine Jc.region ?_
  refine Jl.pv (PR.eql true rfl rfl rfl) ?_
  refine Jl.pv (PR.assign rfl) ?_
  refine Jl.nil ?_
  refine Jq.thenN ?_
  refine Jc.condT rfl ?_
  refine Jc.seq ?_
  refine Jc.region ?_
  refine Jl.pv (PR.assign rfl) ?_
  refine Jl.pv (PR.assign rfl) ?_
  refine Jl.nil ?_
  refine Jq.thenN ?_
  refine Jc.ret ?_
  refine Jq.blkR ?_
  refine Jq.thenR ?_
  exact Jq.fin () (.inl rfl) rfl (RetVs.tmp rfl (RetVs.tmp rfl RetVs.nil)) rfl (by repeat (first | exact Take.nil | apply Take.cons (by repeat (first | exact Del.here | apply Del.there)))) (by repeat (first | exact trivial | refine And.intro (by repeat (first | exact Mem.here | apply Mem.there)) ?_))
  -- hint not used: k22
  -- hint not used: k23
  -- hint not used: k24
  -- hint not used: k26
theorem rmany12_ct : Ct Tryd.prog 31 [.int .u8 ((12 : Nat) : Int)] [] [] (fun _ : Unit => .tuple #[.int .i64 (rlo 12), .int .i64 (rhi 12)]) (fun _ => []) (fun _ => []) := by
  refine Ct.of _ Tryd.func31 Tryd.ntmps31 rfl rfl (fun X W => ?_)
  refine Jc.seq ?_
  refine Jc.region ?_
  refine Jl.pv (PR.assign rfl) ?_
  refine Jl.pv (PR.assign rfl) ?_
  refine Jl.nil ?_
  refine Jq.thenN ?_
  refine Jc.seq ?_
  refine Jc.seq ?_
  refine Jc.region ?_
  refine Jl.pv (PR.move rfl) ?_
  refine Jl.nil ?_
  refine Jq.thenN ?_
  refine Jc.block ?_
  refine Jc.seq ?_
  refine Jc.region ?_
  refine Jl.pv (PR.eql false rfl rfl rfl) ?_
  refine Jl.pv (PR.assign rfl) ?_
  refine Jl.nil ?_
  refine Jq.thenN ?_
  refine Jc.condF rfl ?_
  refine Jc.seq ?_
  refine Jc.seq ?_
  refine Jc.region ?_
  refine Jl.pv (PR.eql false rfl rfl rfl) ?_
  refine Jl.pv (PR.assign rfl) ?_
  refine Jl.nil ?_
  refine Jq.thenN ?_
  refine Jc.condF rfl ?_
  refine Jc.seq ?_
  refine Jc.region ?_
  refine Jl.pv (PR.eql true rfl rfl rfl) ?_
  refine Jl.pv (PR.assign rfl) ?_
  refine Jl.nil ?_
  refine Jq.thenN ?_
  refine Jc.condT rfl ?_
  refine Jc.skip ?_
  refine Jq.thenN ?_
  refine Jc.condT rfl ?_
  refine Jc.seq ?_
  refine Jc.region ?_
  refine Jl.pv (PR.assign rfl) ?_
  refine Jl.pv (PR.assign rfl) ?_
  refine Jl.nil ?_
  refine Jq.thenN ?_
  refine Jc.ret ?_
  refine Jq.blkR ?_
  refine Jq.thenR ?_
  exact Jq.fin () (.inl rfl) rfl (RetVs.tmp rfl (RetVs.tmp rfl RetVs.nil)) rfl (by repeat (first | exact Take.nil | apply Take.cons (by repeat (first | exact Del.here | apply Del.there)))) (by repeat (first | exact trivial | refine And.intro (by repeat (first | exact Mem.here | apply Mem.there)) ?_))
  -- hint not used: k10
  -- hint not used: k11
  -- hint not used: k12
  -- hint not used: k14
  -- hint not used: k15
  -- hint not used: k16
  -- hint not used: k17
  -- hint not used: k19
  -- hint not used: k20
  -- hint not used: k22
  -- hint not used: k23
  -- hint not used: k24
  -- hint not used: k26
theorem rmany13_ct : Ct Tryd.prog 31 [.int .u8 ((13 : Nat) : Int)] [] [] (fun _ : Unit => .tuple #[.int .i64 (rlo 13), .int .i64 (rhi 13)]) (fun _ => []) (fun _ => []) := by
  refine Ct.of _ Tryd.func31 Tryd.ntmps31 rfl rfl (fun X W => ?_)
  refine Jc.seq ?_
  refine Jc.region ?_
  refine Jl.pv (PR.assign rfl) ?_
  refine Jl.pv (PR.assign rfl) ?_
  refine Jl.nil ?_
  refine Jq.thenN ?_
  refine Jc.seq ?_
  refine Jc.seq ?_
  refine Jc.region ?_
  refine Jl.pv (PR.move rfl) ?_
  refine Jl.nil ?_
  refine Jq.thenN ?_
  refine Jc.block ?_
  refine Jc.seq ?_
  refine Jc.region ?_
  refine Jl.pv (PR.eql false rfl rfl rfl) ?_
  refine Jl.pv (PR.assign rfl) ?_
  refine Jl.nil ?_
  refine Jq.thenN ?_
  refine Jc.condF rfl ?_
  refine Jc.seq ?_
  refine Jc.seq ?_
  refine Jc.region ?_
  refine Jl.pv (PR.eql false rfl rfl rfl) ?_
  refine Jl.pv (PR.assign rfl) ?_
  refine Jl.nil ?_
  refine Jq.thenN ?_
  refine Jc.condF rfl ?_
  refine Jc.seq ?_
  refine Jc.region ?_
  refine Jl.pv (PR.eql false rfl rfl rfl) ?_
  refine Jl.pv (PR.assign rfl) ?_
  refine Jl.nil ?_
  refine Jq.thenN ?_
  refine Jc.condF rfl ?_
  refine Jc.seq ?_
  refine Jc.region ?_
  refine Jl.pv (PR.eql true rfl rfl rfl) ?_
  refine Jl.pv (PR.assign rfl) ?_
  refine Jl.nil ?_
  refine Jq.thenN ?_
  refine Jc.condT rfl ?_
  refine Jc.skip ?_
  refine Jq.thenN ?_
  refine Jc.condT rfl ?_
  refine Jc.seq ?_
  refine Jc.region ?_
  refine Jl.pv (PR.assign rfl) ?_
  refine Jl.pv (PR.assign rfl) ?_
  refine Jl.nil ?_
  refine Jq.thenN ?_
  refine Jc.ret ?_
  refine Jq.blkR ?_
  refine Jq.thenR ?_
  exact Jq.fin () (.inl rfl) rfl (RetVs.tmp rfl (RetVs.tmp rfl RetVs.nil)) rfl (by repeat (first | exact Take.nil | apply Take.cons (by repeat (first | exact Del.here | apply Del.there)))) (by repeat (first | exact trivial | refine And.intro (by repeat (first | exact Mem.here | apply Mem.there)) ?_))
  -- hint not used: k11
  -- hint not used: k12
  -- hint not used: k14
  -- hint not used: k15
  -- hint not used: k16
  -- hint not used: k17
  -- hint not used: k19
  -- hint not used: k20
  -- hint not used: k22
  -- hint not used: k23
  -- hint not used: k24
  -- hint not used: k26
theorem rmany14_ct : Ct Tryd.prog 31 [.int .u8 ((14 : Nat) : Int)] [] [] (fun _ : Unit => .tuple #[.int .i64 (rlo 14), .int .i64 (rhi 14)]) (fun _ => []) (fun _ => []) := by
  refine Ct.of _ Tryd.func31 Tryd.ntmps31 rfl rfl (fun X W => ?_)
  refine Jc.seq ?_
  refine Jc.region ?_
  refine Jl.pv (PR.assign rfl) ?_
  refine Jl.pv (PR.assign rfl) ?_
  refine Jl.nil ?_
  refine Jq.thenN ?_
  refine Jc.seq ?_
  refine Jc.seq ?_
  refine Jc.region ?_
  refine Jl.pv (PR.move rfl) ?_
  refine Jl.nil ?_
  refine Jq.thenN ?_
  refine Jc.block ?_
  refine Jc.seq ?_
  refine Jc.region ?_
  refine Jl.pv (PR.eql false rfl rfl rfl) ?_
  refine Jl.pv (PR.assign rfl) ?_
  refine Jl.nil ?_
  refine Jq.thenN ?_
  refine Jc.condF rfl ?_
  refine Jc.seq ?_
  refine Jc.seq ?_
  refine Jc.region ?_
  refine Jl.pv (PR.eql false rfl rfl rfl) ?_
  refine Jl.pv (PR.assign rfl) ?_
  refine Jl.nil ?_
  refine Jq.thenN ?_
  refine Jc.condF rfl ?_
  refine Jc.seq ?_
  refine Jc.region ?_
  refine Jl.pv (PR.eql false rfl rfl rfl) ?_
  refine Jl.pv (PR.assign rfl) ?_
  refine Jl.nil ?_
  refine Jq.thenN ?_
  refine Jc.condF rfl ?_
  refine Jc.seq ?_
  refine Jc.region ?_
  refine Jl.pv (PR.eql false rfl rfl rfl) ?_
  refine Jl.pv (PR.assign rfl) ?_
  refine Jl.nil ?_
  refine Jq.thenN ?_
  refine Jc.condF rfl ?_
  refine Jc.seq ?_
  refine Jc.region ?_
  refine Jl.pv (PR.eql false rfl rfl rfl) ?_
  refine Jl.pv (PR.assign rfl) ?_
  refine Jl.nil ?_
  refine Jq.thenN ?_
  refine Jc.condF rfl ?_
  refine Jc.region ?_
  refine Jl.pv (PR.eql false rfl rfl rfl) ?_
  refine Jl.pv (PR.assign rfl) ?_
  refine Jl.nil ?_
  refine Jq.thenN ?_
  refine Jc.condF rfl ?_
  refine Jc.seq ?_
  refine Jc.seq ?_
  refine Jc.region ?_
  refine Jl.pv (PR.eql false rfl rfl rfl) ?_
  refine Jl.pv (PR.assign rfl) ?_
  refine Jl.nil ?_
  refine Jq.thenN ?_
  refine Jc.condF rfl ?_
  refine Jc.seq ?_
  refine Jc.region ?_
  refine Jl.pv (PR.eql false rfl rfl rfl) ?_
  refine Jl.pv (PR.assign rfl) ?_
  refine Jl.nil ?_
  refine Jq.thenN ?_
  refine Jc.condF rfl ?_
  refine Jc.seq ?_
  refine Jc.region ?_
  refine Jl.pv (PR.eql false rfl rfl rfl) ?_
  refine Jl.pv (PR.assign rfl) ?_
  refine Jl.nil ?_
  refine Jq.thenN ?_
  refine Jc.condF rfl ?_
  refine Jc.region ?_
  refine Jl.pv (PR.eql true rfl rfl rfl) ?_
  refine Jl.pv (PR.assign rfl) ?_
  refine Jl.nil ?_
  refine Jq.thenN ?_
  refine Jc.condT rfl ?_
  refine Jc.seq ?_
  refine Jc.region ?_
  refine Jl.pv (PR.assign rfl) ?_
  refine Jl.pv (PR.assign rfl) ?_
  refine Jl.nil ?_
  refine Jq.thenN ?_
  refine Jc.ret ?_
  refine Jq.blkR ?_
  refine Jq.thenR ?_
  exact Jq.fin () (.inl rfl) rfl (RetVs.tmp rfl (RetVs.tmp rfl RetVs.nil)) rfl (by repeat (first | exact Take.nil | apply Take.cons (by repeat (first | exact Del.here | apply Del.there)))) (by repeat (first | exact trivial | refine And.intro (by repeat (first | exact Mem.here | apply Mem.there)) ?_))
  -- hint not used: k19
  -- hint not used: k20
  -- hint not used: k22
  -- hint not used: k23
  -- hint not used: k24
  -- hint not used: k26
theorem rmany15_ct : Ct Tryd.prog 31 [.int .u8 ((15 : Nat) : Int)] [] [] (fun _ : Unit => .tuple #[.int .i64 (rlo 15), .int .i64 (rhi 15)]) (fun _ => []) (fun _ => []) := by
  refine Ct.of _ Tryd.func31 Tryd.ntmps31 rfl rfl (fun X W => ?_)
  refine Jc.seq ?_
  refine Jc.region ?_
  refine Jl.pv (PR.assign rfl) ?_
  refine Jl.pv (PR.assign rfl) ?_
  refine Jl.nil ?_
  refine Jq.thenN ?_
  refine Jc.seq ?_
  refine Jc.seq ?_
  refine Jc.region ?_
  refine Jl.pv (PR.move rfl) ?_
  refine Jl.nil ?_
  refine Jq.thenN ?_
  refine Jc.block ?_
  refine Jc.seq ?_
  refine Jc.region ?_
  refine Jl.pv (PR.eql false rfl rfl rfl) ?_
  refine Jl.pv (PR.assign rfl) ?_
  refine Jl.nil ?_
  refine Jq.thenN ?_
  refine Jc.condF rfl ?_
  refine Jc.seq ?_
  refine Jc.seq ?_
  refine Jc.region ?_
  refine Jl.pv (PR.eql false rfl rfl rfl) ?_
  refine Jl.pv (PR.assign rfl) ?_
  refine Jl.nil ?_
  refine Jq.thenN ?_
  refine Jc.condF rfl ?_
  refine Jc.seq ?_
  refine Jc.region ?_
  refine Jl.pv (PR.eql false rfl rfl rfl) ?_
  refine Jl.pv (PR.assign rfl) ?_
  refine Jl.nil ?_
  refine Jq.thenN ?_
  refine Jc.condF rfl ?_
  refine Jc.seq ?_
  refine Jc.region ?_
  refine Jl.pv (PR.eql false rfl rfl rfl) ?_
  refine Jl.pv (PR.assign rfl) ?_
  refine Jl.nil ?_
  refine Jq.thenN ?_
  refine Jc.condF rfl ?_
  refine Jc.seq ?_
  refine Jc.region ?_
  refine Jl.pv (PR.eql true rfl rfl rfl) ?_
  refine Jl.pv (PR.assign rfl) ?_
  refine Jl.nil ?_
  refine Jq.thenN ?_
  refine Jc.condT rfl ?_
  refine Jc.skip ?_
  refine Jq.thenN ?_
  refine Jc.condT rfl ?_
  refine Jc.seq ?_
  refine Jc.region ?_
  refine Jl.pv (PR.assign rfl) ?_
  refine Jl.pv (PR.assign rfl) ?_
  refine Jl.nil ?_
  refine Jq.thenN ?_
  refine Jc.ret ?_
  refine Jq.blkR ?_
  refine Jq.thenR ?_
  exact Jq.fin () (.inl rfl) rfl (RetVs.tmp rfl (RetVs.tmp rfl RetVs.nil)) rfl (by repeat (first | exact Take.nil | apply Take.cons (by repeat (first | exact Del.here | apply Del.there)))) (by repeat (first | exact trivial | refine And.intro (by repeat (first | exact Mem.here | apply Mem.there)) ?_))
  -- hint not used: k12
  -- hint not used: k14
  -- hint not used: k15
  -- hint not used: k16
  -- hint not used: k17
  -- hint not used: k19
  -- hint not used: k20
  -- hint not used: k22
  -- hint not used: k23
  -- hint not used: k24
  -- hint not used: k26
theorem rmany16_ct : Ct Tryd.prog 31 [.int .u8 ((16 : Nat) : Int)] [] [] (fun _ : Unit => .tuple #[.int .i64 (rlo 16), .int .i64 (rhi 16)]) (fun _ => []) (fun _ => []) := by
  refine Ct.of _ Tryd.func31 Tryd.ntmps31 rfl rfl (fun X W => ?_)
  refine Jc.seq ?_
  refine Jc.region ?_
  refine Jl.pv (PR.assign rfl) ?_
  refine Jl.pv (PR.assign rfl) ?_
  refine Jl.nil ?_
  refine Jq.thenN ?_
  refine Jc.seq ?_
  refine Jc.seq ?_
  refine Jc.region ?_
  refine Jl.pv (PR.move rfl) ?_
  refine Jl.nil ?_
  refine Jq.thenN ?_
  refine Jc.block ?_
  refine Jc.seq ?_
  refine Jc.region ?_
  refine Jl.pv (PR.eql false rfl rfl rfl) ?_
  refine Jl.pv (PR.assign rfl) ?_
  refine Jl.nil ?_
  refine Jq.thenN ?_
  refine Jc.condF rfl ?_
  refine Jc.seq ?_
  refine Jc.seq ?_
  refine Jc.region ?_
  refine Jl.pv (PR.eql false rfl rfl rfl) ?_
  refine Jl.pv (PR.assign rfl) ?_
  refine Jl.nil ?_
  refine Jq.thenN ?_
  refine Jc.condF rfl ?_
  refine Jc.seq ?_
  refine Jc.region ?_
  refine Jl.pv (PR.eql false rfl rfl rfl) ?_
  refine Jl.pv (PR.assign rfl) ?_
  refine Jl.nil ?_
  refine Jq.thenN ?_
  refine Jc.condF rfl ?_
  refine Jc.seq ?_
  refine Jc.region ?_
  refine Jl.pv (PR.eql false rfl rfl rfl) ?_
  refine Jl.pv (PR.assign rfl) ?_
  refine Jl.nil ?_
  refine Jq.thenN ?_
  refine Jc.condF rfl ?_
  refine Jc.seq ?_
  refine Jc.region ?_
  refine Jl.pv (PR.eql false rfl rfl rfl) ?_
  refine Jl.pv (PR.assign rfl) ?_
  refine Jl.nil ?_
  refine Jq.thenN ?_
  refine Jc.condF rfl ?_
  refine Jc.region ?_
  refine Jl.pv (PR.eql true rfl rfl rfl) ?_
  refine Jl.pv (PR.assign rfl) ?_
  refine Jl.nil ?_
  refine Jq.thenN ?_
  refine Jc.condT rfl ?_
  refine Jc.seq ?_
  refine Jc.region ?_
  refine Jl.pv (PR.assign rfl) ?_
  refine Jl.pv (PR.assign rfl) ?_
  refine Jl.nil ?_
  refine Jq.thenN ?_
  refine Jc.ret ?_
  refine Jq.blkR ?_
  refine Jq.thenR ?_
  exact Jq.fin () (.inl rfl) rfl (RetVs.tmp rfl (RetVs.tmp rfl RetVs.nil)) rfl (by repeat (first | exact Take.nil | apply Take.cons (by repeat (first | exact Del.here | apply Del.there)))) (by repeat (first | exact trivial | refine And.intro (by repeat (first | exact Mem.here | apply Mem.there)) ?_))
  -- hint not used: k14
  -- hint not used: k15
  -- hint not used: k16
  -- hint not used: k17
  -- hint not used: k19
  -- hint not used: k20
  -- hint not used: k22
  -- hint not used: k23
  -- hint not used: k24
  -- hint not used: k26
theorem rmanyX_ct (k : Nat) (h : 17 ≤ k) : Ct Tryd.prog 31 [.int .u8 (k : Int)] [] [] (fun _ : Unit => .tuple #[.int .i64 (rlo k), .int .i64 (rhi k)]) (fun _ => []) (fun _ => []) := by
  rw [show rlo k = -1 from if_neg (by omega), show rhi k = -1 from if_neg (by omega)]
  refine Ct.of _ Tryd.func31 Tryd.ntmps31 rfl rfl (fun X W => ?_)
  refine Jc.seq ?_
  refine Jc.region ?_
  refine Jl.pv (PR.assign rfl) ?_
  refine Jl.pv (PR.assign rfl) ?_
  refine Jl.nil ?_
  refine Jq.thenN ?_
  refine Jc.seq ?_
  refine Jc.seq ?_
  refine Jc.region ?_
  refine Jl.pv (PR.move rfl) ?_
  refine Jl.nil ?_
  refine Jq.thenN ?_
  refine Jc.block ?_
  refine Jc.seq ?_
  refine Jc.region ?_
  refine Jl.pv (PR.eql false rfl rfl (by simp; omega)) ?_
  refine Jl.pv (PR.assign rfl) ?_
  refine Jl.nil ?_
  refine Jq.thenN ?_
  refine Jc.condF rfl ?_
  refine Jc.seq ?_
  refine Jc.seq ?_
  refine Jc.region ?_
  refine Jl.pv (PR.eql false rfl rfl (by simp; omega)) ?_
  refine Jl.pv (PR.assign rfl) ?_
  refine Jl.nil ?_
  refine Jq.thenN ?_
  refine Jc.condF rfl ?_
  refine Jc.seq ?_
  refine Jc.region ?_
  refine Jl.pv (PR.eql false rfl rfl (by simp; omega)) ?_
  refine Jl.pv (PR.assign rfl) ?_
  refine Jl.nil ?_
  refine Jq.thenN ?_
  refine Jc.condF rfl ?_
  refine Jc.seq ?_
  refine Jc.region ?_
  refine Jl.pv (PR.eql false rfl rfl (by simp; omega)) ?_
  refine Jl.pv (PR.assign rfl) ?_
  refine Jl.nil ?_
  refine Jq.thenN ?_
  refine Jc.condF rfl ?_
  refine Jc.seq ?_
  refine Jc.region ?_
  refine Jl.pv (PR.eql false rfl rfl (by simp; omega)) ?_
  refine Jl.pv (PR.assign rfl) ?_
  refine Jl.nil ?_
  refine Jq.thenN ?_
  refine Jc.condF rfl ?_
  refine Jc.region ?_
  refine Jl.pv (PR.eql false rfl rfl (by simp; omega)) ?_
  refine Jl.pv (PR.assign rfl) ?_
  refine Jl.nil ?_
  refine Jq.thenN ?_
  refine Jc.condF rfl ?_
  refine Jc.seq ?_
  refine Jc.seq ?_
  refine Jc.region ?_
  refine Jl.pv (PR.eql false rfl rfl (by simp; omega)) ?_
  refine Jl.pv (PR.assign rfl) ?_
  refine Jl.nil ?_
  refine Jq.thenN ?_
  refine Jc.condF rfl ?_
  refine Jc.seq ?_
  refine Jc.region ?_
  refine Jl.pv (PR.eql false rfl rfl (by simp; omega)) ?_
  refine Jl.pv (PR.assign rfl) ?_
  refine Jl.nil ?_
  refine Jq.thenN ?_
  refine Jc.condF rfl ?_
  refine Jc.seq ?_
  refine Jc.region ?_
  refine Jl.pv (PR.eql false rfl rfl (by simp; omega)) ?_
  refine Jl.pv (PR.assign rfl) ?_
  refine Jl.nil ?_
  refine Jq.thenN ?_
  refine Jc.condF rfl ?_
  refine Jc.region ?_
  refine Jl.pv (PR.eql false rfl rfl (by simp; omega)) ?_
  refine Jl.pv (PR.assign rfl) ?_
  refine Jl.nil ?_
  refine Jq.thenN ?_
  refine Jc.condF rfl ?_
  refine Jc.seq ?_
  refine Jc.seq ?_
  refine Jc.region ?_
  refine Jl.pv (PR.eql false rfl rfl (by simp; omega)) ?_
  refine Jl.pv (PR.assign rfl) ?_
  refine Jl.nil ?_
  refine Jq.thenN ?_
  refine Jc.condF rfl ?_
  refine Jc.region ?_
  refine Jl.pv (PR.eql false rfl rfl (by simp; omega)) ?_
  refine Jl.pv (PR.assign rfl) ?_
  refine Jl.nil ?_
  refine Jq.thenN ?_
  refine Jc.condF rfl ?_
  refine Jc.seq ?_
  refine Jc.seq ?_
  refine Jc.region ?_
  refine Jl.pv (PR.eql false rfl rfl (by simp; omega)) ?_
  refine Jl.pv (PR.assign rfl) ?_
  refine Jl.nil ?_
  refine Jq.thenN ?_
  refine Jc.condF rfl ?_
  refine Jc.seq ?_
  refine Jc.region ?_
  refine Jl.pv (PR.eql false rfl rfl (by simp; omega)) ?_
  refine Jl.pv (PR.assign rfl) ?_
  refine Jl.nil ?_
  refine Jq.thenN ?_
  refine Jc.condF rfl ?_
  refine Jc.region ?_
  refine Jl.pv (PR.eql false rfl rfl (by simp; omega)) ?_
  refine Jl.pv (PR.assign rfl) ?_
  refine Jl.nil ?_
  refine Jq.thenN ?_
  refine Jc.condF rfl ?_
  refine Jc.seq ?_
  refine Jc.region ?_
  refine Jl.pv (PR.eql false rfl rfl (by simp; omega)) ?_
  refine Jl.pv (PR.assign rfl) ?_
  refine Jl.nil ?_
  refine Jq.thenN ?_
  refine Jc.condF rfl ?_
  refine Jc.skip ?_
  refine Jq.blkN ?_
  refine Jq.thenN ?_
  refine Jc.seq ?_
  refine Jc.region ?_
  refine Jl.pv (PR.assign rfl) ?_
  refine Jl.pv (PR.assign rfl) ?_
  refine Jl.nil ?_
  refine Jq.thenN ?_
  refine Jc.ret ?_
  exact Jq.fin () (.inl rfl) rfl (RetVs.tmp rfl (RetVs.tmp rfl RetVs.nil)) rfl (by repeat (first | exact Take.nil | apply Take.cons (by repeat (first | exact Del.here | apply Del.there)))) (by repeat (first | exact trivial | refine And.intro (by repeat (first | exact Mem.here | apply Mem.there)) ?_))
theorem rmany_ct : ∀ (k : Nat), Ct Tryd.prog 31 [.int .u8 (k : Int)] [] [] (fun _ : Unit => .tuple #[.int .i64 (rlo k), .int .i64 (rhi k)]) (fun _ => []) (fun _ => [])
  | 0 => rmany0_ct
  | 1 => rmany1_ct
  | 2 => rmany2_ct
  | 3 => rmany3_ct
  | 4 => rmany4_ct
  | 5 => rmany5_ct
  | 6 => rmany6_ct
  | 7 => rmany7_ct
  | 8 => rmany8_ct
  | 9 => rmany9_ct
  | 10 => rmany10_ct
  | 11 => rmany11_ct
  | 12 => rmany12_ct
  | 13 => rmany13_ct
  | 14 => rmany14_ct
  | 15 => rmany15_ct
  | 16 => rmany16_ct
  | k + 17 => rmanyX_ct (k + 17) (by omega)
theorem rright_ct (r : Rc) (x : AdC) (hn : r.l.length ≤ 1000000) : Ct Tryd.prog 17 [r.v x] [] [.rd x.1 (i64s r.l)] (fun _ : Unit => .bool r.ok) (fun _ => []) (fun _ => []) := by
  obtain ⟨A, cA⟩ := x
  have hno : okLen r.k.toNat r.l.length = false → r.ok = false := fun h => by rw [Rc.ok, h]; rfl
  have hlo : ¬ (1 ≤ r.k.toNat ∧ r.k.toNat < 17) → rlo r.k.toNat = -1 ∧ rhi r.k.toNat = -1 := fun h => ⟨if_neg h, if_neg h⟩
  have hyl : 1 ≤ r.k.toNat ∧ r.k.toNat < 17 → rlo r.k.toNat = ((bndAt r.k.toNat).1 : Int) ∧ rhi r.k.toNat = ((bndAt r.k.toNat).2 : Int) := fun h => ⟨if_pos h, if_pos h⟩
  refine Ct.of _ Tryd.func17 Tryd.ntmps17 rfl rfl (fun X W => ?_)
  refine Jc.seq ?_
  refine Jc.region ?_
  refine Jl.box rfl (by rfl) ?_
  intro b1
  refine Jl.pv (PR.assign rfl) ?_
  refine Jl.nil ?_
  refine Jq.thenN ?_
  refine Jc.seq ?_
  refine Jc.region ?_
  refine Jl.pv (PR.fieldAddr rfl tfl24_0) ?_
  refine Jl.pv (PR.load1 rfl tsh5 (by repeat (first | exact Has.here | apply Has.there)) (by rfl)) ?_
  refine Jl.call (rmany_ct r.k.toNat) en31 (by rfl) (by repeat (first | exact Take.nil | apply Take.cons (by repeat (first | exact Del.here | apply Del.there)))) (by repeat (first | exact trivial | refine And.intro (by repeat (first | exact Mem.here | apply Mem.there)) ?_)) ?_
  rintro ⟨⟩
  refine Jl.pv (PR.move rfl) ?_
  refine Jl.pv (PR.extract rfl (by rfl)) ?_
  refine Jl.pv (PR.extract rfl (by rfl)) ?_
  refine Jl.pv (PR.assign rfl) ?_
  refine Jl.pv (PR.assign rfl) ?_
  refine Jl.nil ?_
  refine Jq.thenN ?_
  refine Jc.seq ?_
  refine Jc.seq ?_
  refine Jc.region ?_
  refine Jl.pv (PR.move rfl) ?_
  refine Jl.pv (PR.lss _ rfl rfl rfl) ?_
  refine Jl.pv (PR.move rfl) ?_
  refine Jl.bsplit (fun g14 => ?_) (fun g14 => ?_)
  · try replace g14 := of_decide_eq_true g14
    have hro : r.ok = false := hno (by rw [Bool.eq_false_iff, ne_eq, okLen_iff]; intro h; have := hyl h.1; omega)
    refine Jl.offS rfl rfl rfl ?_
    refine Jl.offS rfl rfl rfl ?_
    refine Jl.offS rfl rfl rfl ?_
    refine Jl.offS rfl rfl rfl ?_
    refine Jl.offS rfl rfl rfl ?_
    refine Jl.pv (PR.pickT rfl rfl) ?_
    refine Jl.pv (PR.move rfl) ?_
    refine Jl.offS rfl rfl rfl ?_
    refine Jl.offS rfl rfl rfl ?_
    refine Jl.offS rfl rfl rfl ?_
    refine Jl.offS rfl rfl rfl ?_
    refine Jl.offS rfl rfl rfl ?_
    refine Jl.pv (PR.pickT rfl rfl) ?_
    refine Jl.nil ?_
    refine Jq.thenN ?_
    refine Jc.condT rfl ?_
    refine Jc.seq ?_
    refine Jc.region ?_
    refine Jl.pv (PR.assign rfl) ?_
    refine Jl.nil ?_
    refine Jq.thenN ?_
    refine Jc.ret ?_
    refine Jq.thenR ?_
    exact Jq.fin () (.inl rfl) rfl (RetVs.tmp rfl RetVs.nil) (by rw [hro]; rfl) (by repeat (first | exact Take.nil | apply Take.cons (by repeat (first | exact Del.here | apply Del.there)))) (by repeat (first | exact trivial | refine And.intro (by repeat (first | exact Mem.here | apply Mem.there)) ?_))
  · try replace g14 := of_decide_eq_false g14
    have hin : 1 ≤ r.k.toNat ∧ r.k.toNat < 17 := Decidable.byContradiction fun h => by have := hlo h; omega
    have hy := hyl hin
    refine Jl.on rfl rfl ?_
    refine Jl.pv (PR.fieldAddr rfl tfl24_1) ?_
    refine Jl.on rfl rfl ?_
    refine Jl.pv (PR.load1 rfl tsh22 (by repeat (first | exact Has.here | apply Has.there)) (by rfl)) ?_
    refine Jl.on rfl rfl ?_
    refine Jl.pv (PR.len rfl tsl22) ?_
    refine Jl.on rfl rfl ?_
    refine Jl.pv (PR.move rfl) ?_
    refine Jl.on rfl rfl ?_
    refine Jl.pv (PR.lss _ rfl rfl rfl) ?_
    refine Jl.pv (PR.pickF rfl rfl) ?_
    refine Jl.pv (PR.move rfl) ?_
    refine Jl.bsplit (fun g21 => ?_) (fun g21 => ?_)
    · try replace g21 := of_decide_eq_true g21
      have hro : r.ok = false := hno (by rw [Bool.eq_false_iff, ne_eq, okLen_iff]; omega)
      refine Jl.offS rfl rfl rfl ?_
      refine Jl.offS rfl rfl rfl ?_
      refine Jl.offS rfl rfl rfl ?_
      refine Jl.offS rfl rfl rfl ?_
      refine Jl.offS rfl rfl rfl ?_
      refine Jl.pv (PR.pickT rfl rfl) ?_
      refine Jl.nil ?_
      refine Jq.thenN ?_
      refine Jc.condT rfl ?_
      refine Jc.seq ?_
      refine Jc.region ?_
      refine Jl.pv (PR.assign rfl) ?_
      refine Jl.nil ?_
      refine Jq.thenN ?_
      refine Jc.ret ?_
      refine Jq.thenR ?_
      exact Jq.fin () (.inl rfl) rfl (RetVs.tmp rfl RetVs.nil) (by rw [hro]; rfl) (by repeat (first | exact Take.nil | apply Take.cons (by repeat (first | exact Del.here | apply Del.there)))) (by repeat (first | exact trivial | refine And.intro (by repeat (first | exact Mem.here | apply Mem.there)) ?_))
    · try replace g21 := of_decide_eq_false g21
      refine Jl.on rfl rfl ?_
      refine Jl.pv (PR.fieldAddr rfl tfl24_1) ?_
      refine Jl.on rfl rfl ?_
      refine Jl.pv (PR.load1 rfl tsh22 (by repeat (first | exact Has.here | apply Has.there)) (by rfl)) ?_
      refine Jl.on rfl rfl ?_
      refine Jl.pv (PR.len rfl tsl22) ?_
      refine Jl.on rfl rfl ?_
      refine Jl.pv (PR.move rfl) ?_
      refine Jl.on rfl rfl ?_
      refine Jl.pv (PR.gtr _ rfl rfl rfl) ?_
      refine Jl.pv (PR.pickF rfl rfl) ?_
      refine Jl.nil ?_
      refine Jq.thenN ?_
      refine Jc.cond rfl (fun h0 => ?_) (fun h0 => ?_)
      · try replace h0 := of_decide_eq_true h0
        have hro : r.ok = false := hno (by rw [Bool.eq_false_iff, ne_eq, okLen_iff]; omega)
        refine Jc.seq ?_
        refine Jc.region ?_
        refine Jl.pv (PR.assign rfl) ?_
        refine Jl.nil ?_
        refine Jq.thenN ?_
        refine Jc.ret ?_
        refine Jq.thenR ?_
        exact Jq.fin () (.inl rfl) rfl (RetVs.tmp rfl RetVs.nil) (by rw [hro]; rfl) (by repeat (first | exact Take.nil | apply Take.cons (by repeat (first | exact Del.here | apply Del.there)))) (by repeat (first | exact trivial | refine And.intro (by repeat (first | exact Mem.here | apply Mem.there)) ?_))
      · try replace h0 := of_decide_eq_false h0
        have hol : okLen r.k.toNat r.l.length = true := okLen_iff.2 ⟨hin, by omega⟩
        refine Jc.skip ?_
        refine Jq.thenN ?_
        refine Jc.seq ?_
        refine Jc.seq ?_
        refine Jc.region ?_
        refine Jl.pv (PR.assign rfl) ?_
        refine Jl.nil ?_
        refine Jq.thenN ?_
        refine Jc.block ?_
        refine Jc.loop (σ := { k : Nat // k ≤ r.l.length ∧ ∀ j, j < k → fineN (r.l.getD j 0) = true }) (fun s => [(5, .int .i64 (s.1 : Int)), (1, .pointer (some ⟨b1, 0, none⟩))]) (fun _ => [.blk b1 24 (r.cs (A, cA))]) (fun _ => [.rd A (i64s r.l)]) (fun s => r.l.length - s.1) ⟨0, Nat.zero_le _, fun _ h => by omega⟩ (by repeat (first | exact trivial | refine And.intro rfl ?_)) rfl (by repeat (first | exact trivial | refine And.intro (by repeat (first | exact Mem.here | apply Mem.there)) ?_)) ?_
        rintro ⟨k, hk, hI⟩
        show Jc _ _ _ _ _ _ [(5, Value.int .i64 (k : Int)), (1, .pointer (some ⟨b1, 0, none⟩))] [.blk b1 24 (r.cs (A, cA))] [.rd A (i64s r.l)]
        refine Jc.seq ?_
        refine Jc.seq ?_
        refine Jc.region ?_
        refine Jl.pv (PR.move rfl) ?_
        refine Jl.pv (PR.fieldAddr rfl tfl24_1) ?_
        refine Jl.pv (PR.load1 rfl tsh22 (by repeat (first | exact Has.here | apply Has.there)) (by rfl)) ?_
        refine Jl.pv (PR.len rfl tsl22) ?_
        refine Jl.pv (PR.lss _ rfl rfl rfl) ?_
        refine Jl.nil ?_
        refine Jq.thenN ?_
        refine Jc.cond rfl (fun h1 => ?_) (fun h1 => ?_)
        · try replace h1 := of_decide_eq_true h1
          have hlt : k < r.l.length := by omega
          refine Jc.skip ?_
          refine Jq.thenN ?_
          refine Jc.seq ?_
          refine Jc.block ?_
          refine Jc.seq ?_
          refine Jc.region ?_
          refine Jl.pv (PR.fieldAddr rfl tfl24_1) ?_
          refine Jl.pv (PR.load1 rfl tsh22 (by repeat (first | exact Has.here | apply Has.there)) (by rfl)) ?_
          refine Jl.pv (PR.move rfl) ?_
          refine Jl.pv (PR.idx1 k rfl rfl tsl22 (by repeat (first | exact Mem.here | apply Mem.there)) (by simp) rfl hlt) ?_
          refine Jl.pv (PR.loadR rfl tsh3 (by repeat (first | exact Mem.here | apply Mem.there)) (getd hlt)) ?_
          refine Jl.pv (PR.lss _ rfl rfl rfl) ?_
          refine Jl.pv (PR.move rfl) ?_
          refine Jl.bsplit (fun g41 => ?_) (fun g41 => ?_)
          · try replace g41 := of_decide_eq_true g41
            have hro : r.ok = false := by rw [Bool.eq_false_iff]; intro h; have := (Rc.ok_iff.1 h).2 (r.l.getD k 0) (by rw [getDE hlt]; exact List.getElem_mem _); simp only [fineN, Bool.and_eq_true, decide_eq_true_eq] at this; omega
            refine Jl.offS rfl rfl rfl ?_
            refine Jl.offS rfl rfl rfl ?_
            refine Jl.offS rfl rfl rfl ?_
            refine Jl.offS rfl rfl rfl ?_
            refine Jl.offS rfl rfl rfl ?_
            refine Jl.offS rfl rfl rfl ?_
            refine Jl.pv (PR.pickT rfl rfl) ?_
            refine Jl.nil ?_
            refine Jq.thenN ?_
            refine Jc.condT rfl ?_
            refine Jc.seq ?_
            refine Jc.region ?_
            refine Jl.pv (PR.assign rfl) ?_
            refine Jl.nil ?_
            refine Jq.thenN ?_
            refine Jc.ret ?_
            refine Jq.blkR ?_
            refine Jq.thenR ?_
            refine Jq.thenR ?_
            refine Jq.blkR ?_
            refine Jq.thenR ?_
            exact Jq.fin () (.inl rfl) rfl (RetVs.tmp rfl RetVs.nil) (by rw [hro]; rfl) (by repeat (first | exact Take.nil | apply Take.cons (by repeat (first | exact Del.here | apply Del.there)))) (by repeat (first | exact trivial | refine And.intro (by repeat (first | exact Mem.here | apply Mem.there)) ?_))
          · try replace g41 := of_decide_eq_false g41
            refine Jl.on rfl rfl ?_
            refine Jl.pv (PR.fieldAddr rfl tfl24_1) ?_
            refine Jl.on rfl rfl ?_
            refine Jl.pv (PR.load1 rfl tsh22 (by repeat (first | exact Has.here | apply Has.there)) (by rfl)) ?_
            refine Jl.on rfl rfl ?_
            refine Jl.pv (PR.move rfl) ?_
            refine Jl.on rfl rfl ?_
            refine Jl.pv (PR.idx1 k rfl rfl tsl22 (by repeat (first | exact Mem.here | apply Mem.there)) (by simp) rfl hlt) ?_
            refine Jl.on rfl rfl ?_
            refine Jl.pv (PR.loadR rfl tsh3 (by repeat (first | exact Mem.here | apply Mem.there)) (getd hlt)) ?_
            refine Jl.on rfl rfl ?_
            refine Jl.pv (PR.gtr _ rfl rfl rfl) ?_
            refine Jl.pv (PR.pickF rfl rfl) ?_
            refine Jl.nil ?_
            refine Jq.thenN ?_
            refine Jc.cond rfl (fun h2 => ?_) (fun h2 => ?_)
            · try replace h2 := of_decide_eq_true h2
              have hro : r.ok = false := by rw [Bool.eq_false_iff]; intro h; have := (Rc.ok_iff.1 h).2 (r.l.getD k 0) (by rw [getDE hlt]; exact List.getElem_mem _); simp only [fineN, Bool.and_eq_true, decide_eq_true_eq] at this; omega
              refine Jc.seq ?_
              refine Jc.region ?_
              refine Jl.pv (PR.assign rfl) ?_
              refine Jl.nil ?_
              refine Jq.thenN ?_
              refine Jc.ret ?_
              refine Jq.blkR ?_
              refine Jq.thenR ?_
              refine Jq.thenR ?_
              refine Jq.blkR ?_
              refine Jq.thenR ?_
              exact Jq.fin () (.inl rfl) rfl (RetVs.tmp rfl RetVs.nil) (by rw [hro]; rfl) (by repeat (first | exact Take.nil | apply Take.cons (by repeat (first | exact Del.here | apply Del.there)))) (by repeat (first | exact trivial | refine And.intro (by repeat (first | exact Mem.here | apply Mem.there)) ?_))
            · try replace h2 := of_decide_eq_false h2
              refine Jc.skip ?_
              refine Jq.blkN ?_
              refine Jq.thenN ?_
              refine Jc.region ?_
              refine Jl.pv (PR.move rfl) ?_
              refine Jl.pv (PR.add ((k + 1 : Nat) : Int) rfl rfl (by rw [w64 (by omega) (by omega)]; rfl)) ?_
              refine Jl.pv (PR.assign rfl) ?_
              refine Jl.nil ?_
              refine Jq.again ⟨k + 1, hlt, fun j hj => (Nat.lt_succ_iff_lt_or_eq.1 hj).elim (hI j) (fun e => by rw [e]; simp only [fineN, Bool.and_eq_true, decide_eq_true_eq]; omega)⟩ (by simp only; omega) (by repeat (first | exact trivial | refine And.intro rfl ?_)) rfl (by repeat (first | exact trivial | refine And.intro (by repeat (first | exact Mem.here | apply Mem.there)) ?_))
        · try replace h1 := of_decide_eq_false h1
          have hro : r.ok = true := Rc.ok_iff.2 ⟨hol, fun n hn => by
            obtain ⟨j, hj, rfl⟩ := List.mem_iff_getElem.1 hn
            rw [← getDE hj]; exact hI j (by omega)⟩
          refine Jc.exit ?_
          refine Jq.thenX ?_
          refine Jq.thenX ?_
          refine Jq.blkX ?_
          refine Jq.thenN ?_
          refine Jc.seq ?_
          refine Jc.region ?_
          refine Jl.pv (PR.assign rfl) ?_
          refine Jl.nil ?_
          refine Jq.thenN ?_
          refine Jc.ret ?_
          exact Jq.fin () (.inl rfl) rfl (RetVs.tmp rfl RetVs.nil) (by rw [hro]; rfl) (by repeat (first | exact Take.nil | apply Take.cons (by repeat (first | exact Del.here | apply Del.there)))) (by repeat (first | exact trivial | refine And.intro (by repeat (first | exact Mem.here | apply Mem.there)) ?_))
theorem rofR_ct (k : UInt8) (A : Option Addr) (c : Nat) (l : List Int) (hn : l.length ≤ 1000000) : Ct Tryd.prog 24 [.int .u8 k.toNat, .slice A l.length c] [] [.rd A (i64s l)] (⟨k, l⟩ : Rc).v (fun x => [(⟨k, l⟩ : Rc).row x]) (fun _ => []) := by
  refine Ct.of _ Tryd.func24 Tryd.ntmps24 rfl rfl (fun X W => ?_)
  refine Jc.seq ?_
  refine Jc.region ?_
  refine Jl.alloc tze24 ?_
  intro b4
  refine Jl.nil ?_
  refine Jq.thenN ?_
  refine Jc.seq ?_
  refine Jc.region ?_
  refine Jl.pv (PR.move rfl) ?_
  refine Jl.buildSlice (by rfl) tsl22 tzr22_0 (by rfl) (by rfl) ?_
  intro b6
  refine Jl.pv (PR.move rfl) ?_
  refine Jl.toRow 1 0 (by repeat (first | exact Swap.here | apply Swap.there)) (by rfl) (by rfl) ?_
  refine Jl.append l.length (i64s l) rfl rfl rfl tsl22 tze3 (by rfl) (by decide) tby3 (fun _ _ => (by repeat (first | exact Swap.here | apply Swap.there))) (by repeat (first | exact Mem.here | apply Mem.there)) (by omega) rfl (by simp) (i64s_one _) (by omega) (by decide) ?_
  intro A8 c8
  refine Jl.pv (PR.build (by rfl) tze24 tpl24_0_1 (by rfl)) ?_
  refine Jl.storeW rfl tsh24 rfl (by rfl) (by simp [Value.oneCell']) (by repeat (first | exact Swap.here | apply Swap.there)) (by rfl) ?_
  refine Jl.nil ?_
  refine Jq.thenN ?_
  refine Jc.ret ?_
  exact Jq.fin (A8, c8) (.inl rfl) rfl (RetVs.cellA rfl (by repeat (first | exact Has.here | apply Has.there)) tsh24 (by rfl) RetVs.nil) rfl (by repeat (first | exact Take.nil | apply Take.cons (by repeat (first | exact Del.here | apply Del.there)))) (by repeat (first | exact trivial | refine And.intro (by repeat (first | exact Mem.here | apply Mem.there)) ?_))
theorem rsameR_ct (a b : Rc) (x y : AdC) (hn : a.l.length ≤ 1000000) : Ct Tryd.prog 15 [a.v x, b.v y] [] [.rd x.1 (i64s a.l), .rd y.1 (i64s b.l)] (fun _ : Unit => .bool (sameR a b)) (fun _ => []) (fun _ => []) := by
  obtain ⟨A, cA⟩ := x
  obtain ⟨B, cB⟩ := y
  have hno : a ≠ b → sameR a b = false := fun h => Bool.eq_false_iff.2 fun h1 => h (sameR_iff.1 h1)
  refine Ct.of _ Tryd.func15 Tryd.ntmps15 rfl rfl (fun X W => ?_)
  refine Jc.seq ?_
  refine Jc.region ?_
  refine Jl.box rfl (by rfl) ?_
  intro b2
  refine Jl.box rfl (by rfl) ?_
  intro b3
  refine Jl.pv (PR.assign rfl) ?_
  refine Jl.nil ?_
  refine Jq.thenN ?_
  refine Jc.seq ?_
  refine Jc.seq ?_
  refine Jc.region ?_
  refine Jl.pv (PR.fieldAddr rfl tfl24_0) ?_
  refine Jl.pv (PR.load1 rfl tsh5 (by repeat (first | exact Has.here | apply Has.there)) (by rfl)) ?_
  refine Jl.pv (PR.fieldAddr rfl tfl24_0) ?_
  refine Jl.pv (PR.load1 rfl tsh5 (by repeat (first | exact Has.here | apply Has.there)) (by rfl)) ?_
  refine Jl.pv (PR.neq _ rfl rfl rfl) ?_
  refine Jl.pv (PR.move rfl) ?_
  refine Jl.bsplit (fun g11 => ?_) (fun g11 => ?_)
  · try replace g11 := of_decide_eq_true g11
    refine Jl.offS rfl rfl rfl ?_
    refine Jl.offS rfl rfl rfl ?_
    refine Jl.offS rfl rfl rfl ?_
    refine Jl.offS rfl rfl rfl ?_
    refine Jl.offS rfl rfl rfl ?_
    refine Jl.offS rfl rfl rfl ?_
    refine Jl.offS rfl rfl rfl ?_
    refine Jl.pv (PR.pickT rfl rfl) ?_
    refine Jl.nil ?_
    refine Jq.thenN ?_
    refine Jc.condT rfl ?_
    refine Jc.seq ?_
    refine Jc.region ?_
    refine Jl.pv (PR.assign rfl) ?_
    refine Jl.nil ?_
    refine Jq.thenN ?_
    refine Jc.ret ?_
    refine Jq.thenR ?_
    exact Jq.fin () (.inl rfl) rfl (RetVs.tmp rfl RetVs.nil) (by rw [hno (fun h => g11 (by rw [h]))]; rfl) (by repeat (first | exact Take.nil | apply Take.cons (by repeat (first | exact Del.here | apply Del.there)))) (by repeat (first | exact trivial | refine And.intro (by repeat (first | exact Mem.here | apply Mem.there)) ?_))
  · try replace g11 := of_decide_eq_false g11
    refine Jl.on rfl rfl ?_
    refine Jl.pv (PR.fieldAddr rfl tfl24_1) ?_
    refine Jl.on rfl rfl ?_
    refine Jl.pv (PR.load1 rfl tsh22 (by repeat (first | exact Has.here | apply Has.there)) (by rfl)) ?_
    refine Jl.on rfl rfl ?_
    refine Jl.pv (PR.len rfl tsl22) ?_
    refine Jl.on rfl rfl ?_
    refine Jl.pv (PR.fieldAddr rfl tfl24_1) ?_
    refine Jl.on rfl rfl ?_
    refine Jl.pv (PR.load1 rfl tsh22 (by repeat (first | exact Has.here | apply Has.there)) (by rfl)) ?_
    refine Jl.on rfl rfl ?_
    refine Jl.pv (PR.len rfl tsl22) ?_
    refine Jl.on rfl rfl ?_
    refine Jl.pv (PR.neq _ rfl rfl rfl) ?_
    refine Jl.pv (PR.pickF rfl rfl) ?_
    refine Jl.nil ?_
    refine Jq.thenN ?_
    refine Jc.cond rfl (fun h0 => ?_) (fun h0 => ?_)
    · try replace h0 := of_decide_eq_true h0
      refine Jc.seq ?_
      refine Jc.region ?_
      refine Jl.pv (PR.assign rfl) ?_
      refine Jl.nil ?_
      refine Jq.thenN ?_
      refine Jc.ret ?_
      refine Jq.thenR ?_
      exact Jq.fin () (.inl rfl) rfl (RetVs.tmp rfl RetVs.nil) (by rw [hno (fun h => h0 (by rw [h]))]; rfl) (by repeat (first | exact Take.nil | apply Take.cons (by repeat (first | exact Del.here | apply Del.there)))) (by repeat (first | exact trivial | refine And.intro (by repeat (first | exact Mem.here | apply Mem.there)) ?_))
    · try replace h0 := of_decide_eq_false h0
      have hll : a.l.length = b.l.length := by omega
      have hkk : a.k = b.k := u8_eq.1 (Decidable.of_not_not g11)
      refine Jc.skip ?_
      refine Jq.thenN ?_
      refine Jc.seq ?_
      refine Jc.seq ?_
      refine Jc.region ?_
      refine Jl.pv (PR.assign rfl) ?_
      refine Jl.nil ?_
      refine Jq.thenN ?_
      refine Jc.block ?_
      refine Jc.loop (σ := { k : Nat // k ≤ a.l.length ∧ ∀ j, j < k → a.l[j]? = b.l[j]? }) (fun s => [(5, .int .i64 (s.1 : Int)), (2, .pointer (some ⟨b2, 0, none⟩)), (3, .pointer (some ⟨b3, 0, none⟩))]) (fun _ => [.blk b3 24 (b.cs (B, cB)), .blk b2 24 (a.cs (A, cA))]) (fun _ => [.rd A (i64s a.l), .rd B (i64s b.l)]) (fun s => a.l.length - s.1) ⟨0, Nat.zero_le _, fun _ h => by omega⟩ (by repeat (first | exact trivial | refine And.intro rfl ?_)) rfl (by repeat (first | exact trivial | refine And.intro (by repeat (first | exact Mem.here | apply Mem.there)) ?_)) ?_
      rintro ⟨k, hk, hq⟩
      show Jc _ _ _ _ _ _ [(5, Value.int .i64 (k : Int)), (2, .pointer (some ⟨b2, 0, none⟩)), (3, .pointer (some ⟨b3, 0, none⟩))] [.blk b3 24 (b.cs (B, cB)), .blk b2 24 (a.cs (A, cA))] [.rd A (i64s a.l), .rd B (i64s b.l)]
      refine Jc.seq ?_
      refine Jc.seq ?_
      refine Jc.region ?_
      refine Jl.pv (PR.move rfl) ?_
      refine Jl.pv (PR.fieldAddr rfl tfl24_1) ?_
      refine Jl.pv (PR.load1 rfl tsh22 (by repeat (first | exact Has.here | apply Has.there)) (by rfl)) ?_
      refine Jl.pv (PR.len rfl tsl22) ?_
      refine Jl.pv (PR.lss _ rfl rfl rfl) ?_
      refine Jl.nil ?_
      refine Jq.thenN ?_
      refine Jc.cond rfl (fun hlt => ?_) (fun hlt => ?_)
      · try replace hlt := of_decide_eq_true hlt
        have hlt' : k < a.l.length := by omega
        have hlt2 : k < b.l.length := by omega
        refine Jc.skip ?_
        refine Jq.thenN ?_
        refine Jc.seq ?_
        refine Jc.block ?_
        refine Jc.seq ?_
        refine Jc.drawn [0, 1, 0, 7, 15, 0, 32, 0, 224, 480, 1023] ([(0, false), (1, false), (2, false), (3, false), (4, false), (5, false), (6, false), (7, false), (8, false), (9, false), (10, false)], []) [] tmx (by kernel_rfl) ?_
        refine Dh.JH.nil ?_
        refine Dh.JB.pv rfl trivial (fun _ => PR.fieldAddr rfl tfl24_1) ?_
        refine Dh.JB.rd [.blk _ _ _] rfl trivial (by repeat (first | exact Take.nil | apply Take.cons (by repeat (first | exact Del.here | apply Del.there)))) (fun _ => PR.load1 rfl tsh22 Has.here (by rfl)) ?_
        refine Dh.JB.pv rfl trivial (fun _ => PR.move rfl) ?_
        refine Dh.JB.pv rfl trivial (fun _ => PR.idx1 k rfl rfl tsl22 (by repeat (first | exact Mem.here | apply Mem.there)) (by simp) rfl hlt') ?_
        refine Dh.JB.pv rfl trivial (fun _ => PR.loadR rfl tsh3 (by repeat (first | exact Mem.here | apply Mem.there)) (getm hlt')) ?_
        refine Dh.JB.pv rfl trivial (fun _ => PR.fieldAddr rfl tfl24_1) ?_
        refine Dh.JB.rd [.blk _ _ _] rfl trivial (by repeat (first | exact Take.nil | apply Take.cons (by repeat (first | exact Del.here | apply Del.there)))) (fun _ => PR.load1 rfl tsh22 Has.here (by rfl)) ?_
        refine Dh.JB.pv rfl trivial (fun _ => PR.move rfl) ?_
        refine Dh.JB.pv rfl trivial (fun _ => PR.idx1 k rfl rfl tsl22 (by repeat (first | exact Mem.here | apply Mem.there)) (by simp) rfl hlt2) ?_
        refine Dh.JB.pv rfl trivial (fun _ => PR.loadR rfl tsh3 (by repeat (first | exact Mem.here | apply Mem.there)) (getm hlt2)) ?_
        refine Dh.JB.pv rfl trivial (fun _ => PR.neq _ rfl rfl rfl) ?_
        refine Dh.JB.nil ?_
        refine Dh.JL.nil ?_
        refine Jq.thenN ?_
        refine Jc.cond rfl (fun h2 => ?_) (fun h2 => ?_)
        · try replace h2 := of_decide_eq_true h2
          refine Jc.seq ?_
          refine Jc.region ?_
          refine Jl.pv (PR.assign rfl) ?_
          refine Jl.nil ?_
          refine Jq.thenN ?_
          refine Jc.ret ?_
          refine Jq.blkR ?_
          refine Jq.thenR ?_
          refine Jq.thenR ?_
          refine Jq.blkR ?_
          refine Jq.thenR ?_
          exact Jq.fin () (.inl rfl) rfl (RetVs.tmp rfl RetVs.nil) (by rw [hno (fun h => h2 (by subst h; rfl))]; rfl) (by repeat (first | exact Take.nil | apply Take.cons (by repeat (first | exact Del.here | apply Del.there)))) (by repeat (first | exact trivial | refine And.intro (by repeat (first | exact Mem.here | apply Mem.there)) ?_))
        · try replace h2 := of_decide_eq_false h2
          refine Jc.skip ?_
          refine Jq.blkN ?_
          refine Jq.thenN ?_
          refine Jc.region ?_
          refine Jl.pv (PR.move rfl) ?_
          refine Jl.pv (PR.add ((k + 1 : Nat) : Int) rfl rfl (by rw [w64 (by omega) (by omega)]; rfl)) ?_
          refine Jl.pv (PR.assign rfl) ?_
          refine Jl.nil ?_
          refine Jq.again ⟨k + 1, hlt', fun j h => ?_⟩ (by simp only; omega) (by repeat (first | exact trivial | refine And.intro rfl ?_)) rfl (by repeat (first | exact trivial | refine And.intro (by repeat (first | exact Mem.here | apply Mem.there)) ?_))
          rcases Nat.lt_or_ge j k with h1 | h1
          · exact hq j h1
          · obtain rfl : j = k := by omega
            rw [List.getElem?_eq_getElem hlt', List.getElem?_eq_getElem hlt2, Decidable.of_not_not h2]
      · try replace hlt := of_decide_eq_false hlt
        have hms : a.l = b.l := List.ext_getElem? fun j => by
          rcases Nat.lt_or_ge j k with h1 | h1
          · exact hq j h1
          · rw [List.getElem?_eq_none (by omega), List.getElem?_eq_none (by omega)]
        refine Jc.exit ?_
        refine Jq.thenX ?_
        refine Jq.thenX ?_
        refine Jq.blkX ?_
        refine Jq.thenN ?_
        refine Jc.seq ?_
        refine Jc.region ?_
        refine Jl.pv (PR.assign rfl) ?_
        refine Jl.nil ?_
        refine Jq.thenN ?_
        refine Jc.ret ?_
        exact Jq.fin () (.inl rfl) rfl (RetVs.tmp rfl RetVs.nil) (by rw [show sameR a b = true by simp [sameR, hkk, hms]]; rfl) (by repeat (first | exact Take.nil | apply Take.cons (by repeat (first | exact Del.here | apply Del.there)))) (by repeat (first | exact trivial | refine And.intro (by repeat (first | exact Mem.here | apply Mem.there)) ?_))
theorem rallR_ct (L : Option Addr) (cL : Nat) (zs : Rcs) (hn : zs.length ≤ 1000000) (hl : ∀ z ∈ zs, z.2.l.length ≤ 1000000) : Ct Tryd.prog 22 [.slice L zs.length cL] [] [.rd L (rcsV zs), .rcs zs] (fun _ : Unit => .bool (okAll zs)) (fun _ => []) (fun _ => []) := by
  refine Ct.of _ Tryd.func22 Tryd.ntmps22 rfl rfl (fun X W => ?_)
  refine Jc.seq ?_
  refine Jc.region ?_
  refine Jl.pv (PR.assign rfl) ?_
  refine Jl.nil ?_
  refine Jq.thenN ?_
  refine Jc.seq ?_
  refine Jc.seq ?_
  refine Jc.region ?_
  refine Jl.pv (PR.assign rfl) ?_
  refine Jl.nil ?_
  refine Jq.thenN ?_
  refine Jc.block ?_
  refine Jc.loop (σ := { k : Nat // k ≤ zs.length ∧ ∀ j, j < k → (h : j < zs.length) → zs[j].2.ok = true }) (fun s => [(3, .int .i64 (s.1 : Int)), (0, .slice L zs.length cL)]) (fun _ => []) (fun _ => [.rd L (rcsV zs), .rcs zs]) (fun s => zs.length - s.1) ⟨0, Nat.zero_le _, fun _ h _ => by omega⟩ (by repeat (first | exact trivial | refine And.intro rfl ?_)) rfl (by repeat (first | exact trivial | refine And.intro (by repeat (first | exact Mem.here | apply Mem.there)) ?_)) ?_
  rintro ⟨k, hk, hq⟩
  show Jc _ _ _ _ _ _ [(3, Value.int .i64 (k : Int)), (0, .slice L zs.length cL)] [] [.rd L (rcsV zs), .rcs zs]
  refine Jc.seq ?_
  refine Jc.seq ?_
  refine Jc.region ?_
  refine Jl.pv (PR.move rfl) ?_
  refine Jl.pv (PR.move rfl) ?_
  refine Jl.pv (PR.len rfl tsl25) ?_
  refine Jl.pv (PR.lss _ rfl rfl rfl) ?_
  refine Jl.nil ?_
  refine Jq.thenN ?_
  refine Jc.cond rfl (fun hlt => ?_) (fun hlt => ?_)
  · try replace hlt := of_decide_eq_true hlt
    have hlt' : k < zs.length := by omega
    refine Jc.fact (.rd zs[k].1.1 (i64s zs[k].2.l)) (φ := .rcs zs) (by repeat (first | exact Mem.here | apply Mem.there)) (fun X W h => h _ (List.getElem_mem _)) ?_
    refine Jc.skip ?_
    refine Jq.thenN ?_
    refine Jc.seq ?_
    refine Jc.block ?_
    refine Jc.seq ?_
    refine Jc.region ?_
    refine Jl.pv (PR.move rfl) ?_
    refine Jl.pv (PR.move rfl) ?_
    refine Jl.pv (PR.idx k rfl rfl tsl25 (by repeat (first | exact Mem.here | apply Mem.there)) (rcsV_len zs) (by omega) rfl hlt') ?_
    refine Jl.pv (PR.loadRA rfl tsh24 (by repeat (first | exact Mem.here | apply Mem.there)) (by decide) (rcs_at hlt')) ?_
    refine Jl.call (rright_ct zs[k].2 zs[k].1 (hl _ (List.getElem_mem _))) en17 (by rfl) (by repeat (first | exact Take.nil | apply Take.cons (by repeat (first | exact Del.here | apply Del.there)))) (by repeat (first | exact trivial | refine And.intro (by repeat (first | exact Mem.here | apply Mem.there)) ?_)) ?_
    rintro ⟨⟩
    refine Jl.pv (PR.not rfl) ?_
    refine Jl.nil ?_
    refine Jq.thenN ?_
    refine Jc.cond rfl (fun h1 => ?_) (fun h1 => ?_)
    · try replace h1 := of_decide_eq_true h1
      refine Jc.seq ?_
      refine Jc.region ?_
      refine Jl.pv (PR.assign rfl) ?_
      refine Jl.nil ?_
      refine Jq.thenN ?_
      refine Jc.ret ?_
      refine Jq.blkR ?_
      refine Jq.thenR ?_
      refine Jq.thenR ?_
      refine Jq.blkR ?_
      refine Jq.thenR ?_
      exact Jq.fin () (.inl rfl) rfl (RetVs.tmp rfl RetVs.nil) (by rw [show okAll zs = false from List.all_eq_false.2 ⟨zs[k], List.getElem_mem _, by rw [not_true h1]; simp⟩]; rfl) (by repeat (first | exact Take.nil | apply Take.cons (by repeat (first | exact Del.here | apply Del.there)))) (by repeat (first | exact trivial | refine And.intro (by repeat (first | exact Mem.here | apply Mem.there)) ?_))
    · try replace h1 := of_decide_eq_false h1
      refine Jc.skip ?_
      refine Jq.blkN ?_
      refine Jq.thenN ?_
      refine Jc.region ?_
      refine Jl.pv (PR.move rfl) ?_
      refine Jl.pv (PR.add ((k + 1 : Nat) : Int) rfl rfl (by rw [w64 (by omega) (by omega)]; rfl)) ?_
      refine Jl.pv (PR.assign rfl) ?_
      refine Jl.nil ?_
      refine Jq.again ⟨k + 1, hlt', fun j hj h => (Nat.lt_succ_iff_lt_or_eq.1 hj).elim (fun h1 => hq j h1 h) (fun e => by subst e; exact not_false h1)⟩ (by simp only; omega) (by repeat (first | exact trivial | refine And.intro rfl ?_)) rfl (by repeat (first | exact trivial | refine And.intro (by repeat (first | exact Mem.here | apply Mem.there)) ?_))
  · try replace hlt := of_decide_eq_false hlt
    have hall : okAll zs = true := List.all_eq_true.2 fun z hz => by
      obtain ⟨j, hj, rfl⟩ := List.mem_iff_getElem.1 hz
      exact hq j (by omega) hj
    refine Jc.exit ?_
    refine Jq.thenX ?_
    refine Jq.thenX ?_
    refine Jq.blkX ?_
    refine Jq.thenN ?_
    refine Jc.seq ?_
    refine Jc.region ?_
    refine Jl.pv (PR.assign rfl) ?_
    refine Jl.nil ?_
    refine Jq.thenN ?_
    refine Jc.ret ?_
    exact Jq.fin () (.inl rfl) rfl (RetVs.tmp rfl RetVs.nil) (by rw [hall]; rfl) (by repeat (first | exact Take.nil | apply Take.cons (by repeat (first | exact Del.here | apply Del.there)))) (by repeat (first | exact trivial | refine And.intro (by repeat (first | exact Mem.here | apply Mem.there)) ?_))
end Go.Proofs.YtljgaglbgkejhaaDoor
