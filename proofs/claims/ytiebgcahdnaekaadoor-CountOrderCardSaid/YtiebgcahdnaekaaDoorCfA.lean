/-
Contracts of herd/conf: within, floor, fields, Check, Floor, Bound.
-/
import Derived.Test.YtiebgcahdnaekaaDoorJi
import Derived.Test.YtiebgcahdnaekaaDoorTy
import Derived.Test.YtiebgcahdnaekaaDoorJp
import Derived.Test.YtiebgcahdnaekaaDoorJk
import Derived.Test.YtiebgcahdnaekaaDoorCfP
namespace Go.Proofs.YtiebgcahdnaekaaDoor
set_option linter.unusedVariables false
open Go.RowKit
attribute [local irreducible] Res.blk Res.row Fact.rd
abbrev Fact.lim : Fact := .rd (some ⟨0, 0, none⟩) limV
theorem cwithin_ct (n lo hi : Int) : Ct Tryd.prog 48 [.int .i64 n, .agg #[.int .i64 lo, .int .i64 hi]] [] [] (fun _ : Unit => .bool (inB n (lo, hi))) (fun _ => []) (fun _ => []) := by
  refine Ct.of _ Tryd.func48 Tryd.ntmps48 rfl rfl (fun X W => ?_)
  refine Jc.seq ?_
  refine Jc.region ?_
  refine Jl.box rfl (by rfl) ?_
  intro b3
  refine Jl.pv (PR.assign rfl) ?_
  refine Jl.nil ?_
  refine Jq.thenN ?_
  refine Jc.seq ?_
  refine Jc.region ?_
  refine Jl.pv (PR.move rfl) ?_
  refine Jl.pv (PR.fieldAddr rfl tfl79_0) ?_
  refine Jl.pv (PR.load1 rfl tsh3 (by repeat (first | exact Has.here | apply Has.there)) (by rfl)) ?_
  refine Jl.pv (PR.geq _ rfl rfl rfl) ?_
  refine Jl.pv (PR.move rfl) ?_
  refine Jl.bsplit (fun g9 => ?_) (fun g9 => ?_)
  · try replace g9 := of_decide_eq_true g9
    refine Jl.on rfl rfl ?_
    refine Jl.pv (PR.move rfl) ?_
    refine Jl.on rfl rfl ?_
    refine Jl.pv (PR.fieldAddr rfl tfl79_1) ?_
    refine Jl.on rfl rfl ?_
    refine Jl.pv (PR.load1 rfl tsh3 (by repeat (first | exact Has.here | apply Has.there)) (by rfl)) ?_
    refine Jl.on rfl rfl ?_
    refine Jl.pv (PR.leq _ rfl rfl rfl) ?_
    refine Jl.pv (PR.pickT rfl rfl) ?_
    refine Jl.pv (PR.assign rfl) ?_
    refine Jl.nil ?_
    refine Jq.thenN ?_
    refine Jc.ret ?_
    exact Jq.fin () (.inl rfl) rfl (RetVs.tmp rfl RetVs.nil) (by simp [retval, inB]; omega) (by repeat (first | exact Take.nil | apply Take.cons (by repeat (first | exact Del.here | apply Del.there)))) (by repeat (first | exact trivial | refine And.intro (by repeat (first | exact Mem.here | apply Mem.there)) ?_))
  · try replace g9 := of_decide_eq_false g9
    refine Jl.offS rfl rfl rfl ?_
    refine Jl.offS rfl rfl rfl ?_
    refine Jl.offS rfl rfl rfl ?_
    refine Jl.offS rfl rfl rfl ?_
    refine Jl.pv (PR.pickF rfl rfl) ?_
    refine Jl.pv (PR.assign rfl) ?_
    refine Jl.nil ?_
    refine Jq.thenN ?_
    refine Jc.ret ?_
    exact Jq.fin () (.inl rfl) rfl (RetVs.tmp rfl RetVs.nil) (by simp [retval, inB]; omega) (by repeat (first | exact Take.nil | apply Take.cons (by repeat (first | exact Del.here | apply Del.there)))) (by repeat (first | exact trivial | refine And.intro (by repeat (first | exact Mem.here | apply Mem.there)) ?_))
theorem cfloor_ct (c : Cf) (x : AdC) (h1 : 0 ≤ c.d ∧ c.d ≤ 6) (h2 : 0 ≤ c.mn ∧ c.mn ≤ 100) : Ct Tryd.prog 40 [c.v x] [] [] (fun _ : Unit => .int .i64 c.fl) (fun _ => []) (fun _ => []) := by
  have hdm := dm_le h1 h2
  refine Ct.of _ Tryd.func40 Tryd.ntmps40 rfl rfl (fun X W => ?_)
  refine Jc.seq ?_
  refine Jc.region ?_
  refine Jl.box rfl (by rfl) ?_
  intro b1
  refine Jl.pv (PR.assign rfl) ?_
  refine Jl.nil ?_
  refine Jq.thenN ?_
  refine Jc.seq ?_
  refine Jc.region ?_
  refine Jl.pv (PR.fieldAddr rfl tfl24_0) ?_
  refine Jl.pv (PR.load1 rfl tsh3 (by repeat (first | exact Has.here | apply Has.there)) (by rfl)) ?_
  refine Jl.pv (PR.fieldAddr rfl tfl24_1) ?_
  refine Jl.pv (PR.load1 rfl tsh3 (by repeat (first | exact Has.here | apply Has.there)) (by rfl)) ?_
  refine Jl.pv (PR.mul _ rfl rfl (w64 (by omega) (by omega))) ?_
  refine Jl.pv (PR.add _ rfl rfl (w64 (by omega) (by omega))) ?_
  refine Jl.pv (PR.quo c.fl rfl rfl (by decide) (by rw [Int.tdiv_eq_ediv_of_nonneg (by omega)]; exact w64 (by omega) (by omega))) ?_
  refine Jl.pv (PR.assign rfl) ?_
  refine Jl.nil ?_
  refine Jq.thenN ?_
  refine Jc.ret ?_
  exact Jq.fin () (.inl rfl) rfl (RetVs.tmp rfl RetVs.nil) rfl (by repeat (first | exact Take.nil | apply Take.cons (by repeat (first | exact Del.here | apply Del.there)))) (by repeat (first | exact trivial | refine And.intro (by repeat (first | exact Mem.here | apply Mem.there)) ?_))
theorem fields_ct (b : Nat) : Ct Tryd.prog 47 [.pointer (some ⟨b, 0, none⟩)] [] [] (fun bb : Nat => .func (.func 49) #[] #[.pointer (some ⟨bb, 0, none⟩)]) (fun bb => [.blk bb 76 [.pointer (some ⟨b, 0, none⟩)]]) (fun _ => []) := by
  refine Ct.of _ Tryd.func47 Tryd.ntmps47 rfl rfl (fun X W => ?_)
  refine Jc.seq ?_
  refine Jc.region ?_
  refine Jl.box rfl (by rfl) ?_
  intro b1
  refine Jl.pv (PR.assign rfl) ?_
  refine Jl.nil ?_
  refine Jq.thenN ?_
  refine Jc.seq ?_
  refine Jc.region ?_
  refine Jl.pv (PR.makeFunc rfl rfl) ?_
  refine Jl.pv (PR.assign rfl) ?_
  refine Jl.nil ?_
  refine Jq.thenN ?_
  refine Jc.ret ?_
  exact Jq.fin b1 (.inl rfl) rfl (RetVs.tmp rfl RetVs.nil) rfl (by repeat (first | exact Take.nil | apply Take.cons (by repeat (first | exact Del.here | apply Del.there)))) (by repeat (first | exact trivial | refine And.intro (by repeat (first | exact Mem.here | apply Mem.there)) ?_))
def ptrs (b : Nat) : List Value := [.pointer (some ⟨b, 0, none⟩), .pointer (some ⟨b, 1, none⟩), .pointer (some ⟨b, 2, none⟩), .pointer (some ⟨b, 3, none⟩), .pointer (some ⟨b, 4, none⟩), .pointer (some ⟨b, 5, none⟩), .pointer (some ⟨b, 6, none⟩), .pointer (some ⟨b, 7, none⟩), .pointer (some ⟨b, 8, none⟩), .pointer (some ⟨b, 9, none⟩), .pointer (some ⟨b, 10, none⟩), .pointer (some ⟨b, 11, none⟩), .pointer (some ⟨b, 12, none⟩)]
theorem ptr_at (b : Nat) : ∀ {k : Nat}, k < 13 → (ptrs b)[k]? = some (.pointer (some ⟨b, k, none⟩))
  | 0, _ => rfl | 1, _ => rfl | 2, _ => rfl | 3, _ => rfl | 4, _ => rfl | 5, _ => rfl | 6, _ => rfl | 7, _ => rfl | 8, _ => rfl | 9, _ => rfl | 10, _ => rfl | 11, _ => rfl | 12, _ => rfl
  | k + 13, h => by omega
def fvals (b : Nat) (k : Nat) : List Value := [.int .i64 (k : Int), .pointer (some ⟨b, k, none⟩)]
theorem fields1_it (b bb : Nat) : It Tryd.prog 49 [.pointer (some ⟨bb, 0, none⟩)] [.blk bb 76 [.pointer (some ⟨b, 0, none⟩)]] [] 13 (fvals b) := by
  refine It.of _ Tryd.func49 Tryd.ntmps49 rfl rfl (by rfl) (by simp) (fun W l cl clx hy => ?_)
  refine Jc.seq ?_
  refine Jc.drawn [0, 1, 3, 0, 8, 24, 0, 64, 192, 0, 512, 1536, 0, 4096, 12288, 0, 32768, 98304, 0, 262144, 786432, 0, 2097152, 6291456, 0, 16777216, 50331648, 0, 134217728, 402653184, 0, 1073741824, 3221225472, 0, 8589934592, 25769803776, 0, 68719476736, 206158430208, 549755813887, 0] ([(0, false), (1, false), (2, false), (3, false), (4, false), (5, false), (6, false), (7, false), (8, false), (9, false), (10, false), (11, false), (12, false), (13, false), (14, false), (15, false), (16, false), (17, false), (18, false), (19, false), (20, false), (21, false), (22, false), (23, false), (24, false), (25, false), (26, false), (27, false), (28, false), (29, false), (30, false), (31, false), (32, false), (33, false), (34, false), (35, false), (36, false), (37, false), (38, false), (39, false), (40, false)], []) [] tmx (by kernel_rfl) ?_
  refine Dh.JH.nil ?_
  refine Dh.JB.rd [.blk _ _ _] rfl trivial (by repeat (first | exact Take.nil | apply Take.cons (by repeat (first | exact Del.here | apply Del.there)))) (fun _ => PR.load1 rfl tsh76 Has.here (by rfl)) ?_
  refine Dh.JB.pv rfl trivial (fun _ => PR.nilCheck rfl) ?_
  refine Dh.JB.pv rfl trivial (fun _ => PR.fieldAddr rfl tfl24_0) ?_
  refine Dh.JB.rd [.blk _ _ _] rfl trivial (by repeat (first | exact Take.nil | apply Take.cons (by repeat (first | exact Del.here | apply Del.there)))) (fun _ => PR.load1 rfl tsh76 Has.here (by rfl)) ?_
  refine Dh.JB.pv rfl trivial (fun _ => PR.nilCheck rfl) ?_
  refine Dh.JB.pv rfl trivial (fun _ => PR.fieldAddr rfl tfl24_1) ?_
  refine Dh.JB.rd [.blk _ _ _] rfl trivial (by repeat (first | exact Take.nil | apply Take.cons (by repeat (first | exact Del.here | apply Del.there)))) (fun _ => PR.load1 rfl tsh76 Has.here (by rfl)) ?_
  refine Dh.JB.pv rfl trivial (fun _ => PR.nilCheck rfl) ?_
  refine Dh.JB.pv rfl trivial (fun _ => PR.fieldAddr rfl tfl24_2) ?_
  refine Dh.JB.rd [.blk _ _ _] rfl trivial (by repeat (first | exact Take.nil | apply Take.cons (by repeat (first | exact Del.here | apply Del.there)))) (fun _ => PR.load1 rfl tsh76 Has.here (by rfl)) ?_
  refine Dh.JB.pv rfl trivial (fun _ => PR.nilCheck rfl) ?_
  refine Dh.JB.pv rfl trivial (fun _ => PR.fieldAddr rfl tfl24_3) ?_
  refine Dh.JB.rd [.blk _ _ _] rfl trivial (by repeat (first | exact Take.nil | apply Take.cons (by repeat (first | exact Del.here | apply Del.there)))) (fun _ => PR.load1 rfl tsh76 Has.here (by rfl)) ?_
  refine Dh.JB.pv rfl trivial (fun _ => PR.nilCheck rfl) ?_
  refine Dh.JB.pv rfl trivial (fun _ => PR.fieldAddr rfl tfl24_4) ?_
  refine Dh.JB.rd [.blk _ _ _] rfl trivial (by repeat (first | exact Take.nil | apply Take.cons (by repeat (first | exact Del.here | apply Del.there)))) (fun _ => PR.load1 rfl tsh76 Has.here (by rfl)) ?_
  refine Dh.JB.pv rfl trivial (fun _ => PR.nilCheck rfl) ?_
  refine Dh.JB.pv rfl trivial (fun _ => PR.fieldAddr rfl tfl24_5) ?_
  refine Dh.JB.rd [.blk _ _ _] rfl trivial (by repeat (first | exact Take.nil | apply Take.cons (by repeat (first | exact Del.here | apply Del.there)))) (fun _ => PR.load1 rfl tsh76 Has.here (by rfl)) ?_
  refine Dh.JB.pv rfl trivial (fun _ => PR.nilCheck rfl) ?_
  refine Dh.JB.pv rfl trivial (fun _ => PR.fieldAddr rfl tfl24_6) ?_
  refine Dh.JB.rd [.blk _ _ _] rfl trivial (by repeat (first | exact Take.nil | apply Take.cons (by repeat (first | exact Del.here | apply Del.there)))) (fun _ => PR.load1 rfl tsh76 Has.here (by rfl)) ?_
  refine Dh.JB.pv rfl trivial (fun _ => PR.nilCheck rfl) ?_
  refine Dh.JB.pv rfl trivial (fun _ => PR.fieldAddr rfl tfl24_7) ?_
  refine Dh.JB.rd [.blk _ _ _] rfl trivial (by repeat (first | exact Take.nil | apply Take.cons (by repeat (first | exact Del.here | apply Del.there)))) (fun _ => PR.load1 rfl tsh76 Has.here (by rfl)) ?_
  refine Dh.JB.pv rfl trivial (fun _ => PR.nilCheck rfl) ?_
  refine Dh.JB.pv rfl trivial (fun _ => PR.fieldAddr rfl tfl24_8) ?_
  refine Dh.JB.rd [.blk _ _ _] rfl trivial (by repeat (first | exact Take.nil | apply Take.cons (by repeat (first | exact Del.here | apply Del.there)))) (fun _ => PR.load1 rfl tsh76 Has.here (by rfl)) ?_
  refine Dh.JB.pv rfl trivial (fun _ => PR.nilCheck rfl) ?_
  refine Dh.JB.pv rfl trivial (fun _ => PR.fieldAddr rfl tfl24_9) ?_
  refine Dh.JB.rd [.blk _ _ _] rfl trivial (by repeat (first | exact Take.nil | apply Take.cons (by repeat (first | exact Del.here | apply Del.there)))) (fun _ => PR.load1 rfl tsh76 Has.here (by rfl)) ?_
  refine Dh.JB.pv rfl trivial (fun _ => PR.nilCheck rfl) ?_
  refine Dh.JB.pv rfl trivial (fun _ => PR.fieldAddr rfl tfl24_10) ?_
  refine Dh.JB.rd [.blk _ _ _] rfl trivial (by repeat (first | exact Take.nil | apply Take.cons (by repeat (first | exact Del.here | apply Del.there)))) (fun _ => PR.load1 rfl tsh76 Has.here (by rfl)) ?_
  refine Dh.JB.pv rfl trivial (fun _ => PR.nilCheck rfl) ?_
  refine Dh.JB.pv rfl trivial (fun _ => PR.fieldAddr rfl tfl24_11) ?_
  refine Dh.JB.rd [.blk _ _ _] rfl trivial (by repeat (first | exact Take.nil | apply Take.cons (by repeat (first | exact Del.here | apply Del.there)))) (fun _ => PR.load1 rfl tsh76 Has.here (by rfl)) ?_
  refine Dh.JB.pv rfl trivial (fun _ => PR.nilCheck rfl) ?_
  refine Dh.JB.pv rfl trivial (fun _ => PR.fieldAddr rfl tfl24_12) ?_
  refine Dh.JB.pv rfl trivial (fun _ => PR.build (by rfl) tze82 tpl82_0_1_2_3_4_5_6_7_8_9_10_11_12 (by rfl)) ?_
  refine Dh.JB.pv rfl trivial (fun _ => PR.move rfl) ?_
  refine Dh.JB.nil ?_
  refine Dh.JL.nil ?_
  refine Jq.thenN ?_
  refine Jc.block ?_
  refine Jc.loop (σ := { k : Nat // k ≤ 13 }) (fun s => [(45, .int .i64 (s.1 : Int)), (44, .agg (ptrs b).toArray), (0, .func (.yield l) #[] #[])]) (fun _ => [.blk bb 76 [.pointer (some ⟨b, 0, none⟩)]]) (fun s => [cl s.1]) (fun s => 13 - s.1) ⟨0, by omega⟩ (by repeat (first | exact trivial | refine And.intro rfl ?_)) rfl (by repeat (first | exact trivial | refine And.intro (by repeat (first | exact Mem.here | apply Mem.there)) ?_)) ?_
  rintro ⟨k, hk⟩
  show Jc _ _ _ _ _ _ [(45, Value.int .i64 (k : Int)), (44, .agg (ptrs b).toArray), (0, .func (.yield l) #[] #[])] [.blk bb 76 [.pointer (some ⟨b, 0, none⟩)]] [cl k]
  refine Jc.seq ?_
  refine Jc.region ?_
  refine Jl.pv (PR.lss _ rfl rfl rfl) ?_
  refine Jl.nil ?_
  refine Jq.thenN ?_
  refine Jc.seq ?_
  refine Jc.cond rfl (fun hlt => ?_) (fun hlt => ?_)
  · try replace hlt := of_decide_eq_true hlt
    have hlt' : k < 13 := by omega
    refine Jc.skip ?_
    refine Jq.thenN ?_
    refine Jc.seq ?_
    refine Jc.block ?_
    refine Jc.seq ?_
    refine Jc.region ?_
    refine Jl.pv (PR.move rfl) ?_
    refine Jl.pv (PR.index1 k rfl rfl tar82 tsh53 rfl hlt' (ptr_at b hlt')) ?_
    refine Jl.pv (PR.assign rfl) ?_
    refine Jl.pv (PR.assign rfl) ?_
    refine Jl.nil ?_
    refine Jq.thenN ?_
    refine Jc.seq ?_
    refine Jc.region ?_
    refine Jl.pv (PR.move rfl) ?_
    refine Jl.pv (PR.move rfl) ?_
    refine Jl.pv (PR.move rfl) ?_
    refine hy _ _ _ _ _ _ _ _ _ _ _ _ _ _ k hlt' rfl rfl (by repeat (first | exact Mem.here | apply Mem.there)) rfl ?_ ?_
    · refine Jl.pv (PR.not rfl) ?_
      refine Jl.nil ?_
      refine Jq.thenN ?_
      refine Jc.condF rfl ?_
      refine Jc.skip ?_
      refine Jq.blkN ?_
      refine Jq.thenN ?_
      refine Jc.region ?_
      refine Jl.pv (PR.add ((k + 1 : Nat) : Int) rfl rfl (by rw [w64 (by omega) (by omega)]; rfl)) ?_
      refine Jl.pv (PR.move rfl) ?_
      refine Jl.nil ?_
      refine Jq.again ⟨k + 1, hlt'⟩ (by simp only; omega) (by repeat (first | exact trivial | refine And.intro rfl ?_)) rfl (by repeat (first | exact trivial | refine And.intro (by repeat (first | exact Mem.here | apply Mem.there)) ?_))
    · refine Jl.pv (PR.not rfl) ?_
      refine Jl.nil ?_
      refine Jq.thenN ?_
      refine Jc.condT rfl ?_
      refine Jc.ret ?_
      refine Jq.blkR ?_
      refine Jq.thenR ?_
      refine Jq.thenR ?_
      refine Jq.blkR ?_
      exact Jq.itStop (.inl rfl) hlt' (by repeat (first | exact Mem.here | apply Mem.there))
  · try replace hlt := of_decide_eq_false hlt
    refine Jc.exit ?_
    refine Jq.thenX ?_
    refine Jq.thenX ?_
    refine Jq.blkX ?_
    rw [show k = 13 by omega]; exact Jq.itDone (.inr rfl) (by repeat (first | exact Mem.here | apply Mem.there))
theorem ccheck_ct (c : Cf) (x : AdC) (hn : c.ms.length ≤ 1000000) : Ct Tryd.prog 39 [c.v x] [] [.rd x.1 (i64s c.ms), .lim] (fun _ : Unit => .int .i64 c.chk) (fun _ => []) (fun _ => []) := by
  obtain ⟨A, cA⟩ := x
  refine Ct.of _ Tryd.func39 Tryd.ntmps39 rfl rfl (fun X W => ?_)
  refine Jc.seq ?_
  refine Jc.region ?_
  refine Jl.box rfl (by rfl) ?_
  intro b1
  refine Jl.pv (PR.assign rfl) ?_
  refine Jl.nil ?_
  refine Jq.thenN ?_
  refine Jc.scopeN (σ := { _u : Unit // ¬ c.ok = true } × Nat) (fun s => (62, [s.2])) (fun _ => []) (fun s => [.mark s.2, .blk b1 24 (c.cs (A, cA))]) (fun _ => []) (fun _ => 0) (l := 0) rfl ?_ ?_
  · rintro ⟨⟨_, hno⟩, D0⟩
    refine Jc.seq ?_
    refine Jc.region ?_
    refine Jl.pv (PR.assign rfl) ?_
    refine Jl.nil ?_
    refine Jq.thenN ?_
    refine Jc.ret ?_
    refine Jq.jmpR ?_
    exact Jq.finM (Ds := [D0]) () (.inl rfl) rfl (by repeat (first | exact Take.nil | apply Take.cons (by repeat (first | exact Del.here | apply Del.there)))) (RetVs.tmp rfl RetVs.nil) (by rw [c.chk_no hno]; rfl) (by repeat (first | exact Take.nil | apply Take.cons (by repeat (first | exact Del.here | apply Del.there)))) (by repeat (first | exact trivial | refine And.intro (by repeat (first | exact Mem.here | apply Mem.there)) ?_))
  · intro hfirst0
    refine Jc.seq ?_
    refine Jc.seq ?_
    refine Jc.region ?_
    refine Jl.call (fields_ct b1) en47 (by rfl) (by repeat (first | exact Take.nil | apply Take.cons (by repeat (first | exact Del.here | apply Del.there)))) (by repeat (first | exact trivial | refine And.intro (by repeat (first | exact Mem.here | apply Mem.there)) ?_)) ?_
    rintro b7
    refine Jl.nil ?_
    refine Jq.thenN ?_
    refine Jc.block ?_
    refine Jc.range (σ := Unit) (τ := Unit) (Inv := fun k _ => ∀ j, j < k → inB (c.nth j) (limAt j) = true) (Rs := fun _ => [.blk b1 24 (c.cs (A, cA))]) (Φs := fun _ => [.rd A (i64s c.ms), .lim]) (InvX := fun e _ _ => e = .goto 0 ∧ ¬ c.ok = true) (RsX := fun _ => [.blk b1 24 (c.cs (A, cA))]) (ΦsX := fun _ => []) (vals := fvals b1) rfl en49 (fields1_it b1 b7) (by repeat (first | exact Take.nil | apply Take.cons (by repeat (first | exact Del.here | apply Del.there)))) (by repeat (first | exact trivial | refine And.intro (by repeat (first | exact Mem.here | apply Mem.there)) ?_)) (fun _ => rfl) rfl () (fun _ h => by omega) rfl (by repeat (first | exact trivial | refine And.intro (by repeat (first | exact Mem.here | apply Mem.there)) ?_)) ?_ ?_ ?_
    · rintro k ⟨⟩ hk hI l C1
      show Jc _ _ _ _ _ _ (psetL [8, 9] [.int .i64 (k : Int), .pointer (some ⟨b1, k, none⟩)] _) [.blk b1 24 (c.cs (A, cA))] [.rd A (i64s c.ms), .lim]
      refine Jc.seq ?_
      refine Jc.region ?_
      refine Jl.pv (PR.assign rfl) ?_
      refine Jl.nil ?_
      refine Jq.thenN ?_
      refine Jc.region ?_
      refine Jl.pv (PR.assign rfl) ?_
      refine Jl.nil ?_
      refine Jq.assigned (fun C2 => ?_)
      refine Jc.block ?_
      refine Jc.seq ?_
      refine Jc.drawn [0, 1, 3, 0, 8, 24, 63, 127] ([(7, false)], []) [⟨[(0, false), (1, false), (2, false), (3, false), (4, false), (5, false)], [], 6⟩] tmx (by kernel_rfl) ?_
      refine Dh.JH.cons ?_
      refine Dh.JB.pv rfl trivial (fun _ => PR.move rfl) ?_
      refine Dh.JB.pv rfl trivial (fun _ => PR.nilCheck rfl) ?_
      refine Dh.JB.rd [.blk _ _ _] rfl trivial (by repeat (first | exact Take.nil | apply Take.cons (by repeat (first | exact Del.here | apply Del.there)))) (fun _ => PR.load1 rfl tsh3 Has.here (cs_at c (A, cA) hk)) ?_
      refine Dh.JB.pv rfl trivial (fun _ => PR.move rfl) ?_
      refine Dh.JB.pv rfl trivial (fun _ => PR.idxRA k rfl rfl tar80 rfl hk) ?_
      refine Dh.JB.pv rfl trivial (fun _ => PR.loadRA rfl tsh79 (by repeat (first | exact Mem.here | apply Mem.there)) (by decide) (lim_at hk)) ?_
      refine Dh.JB.nil ?_
      refine Dh.JL.nil ?_
      refine Dh.JE.mk rfl (fun _ h => by cases h) (fun C4_6 => ?_)
      refine Jl.call (cwithin_ct (c.nth k) (limAt k).1 (limAt k).2) en48 (by rfl) (by repeat (first | exact Take.nil | apply Take.cons (by repeat (first | exact Del.here | apply Del.there)))) (by repeat (first | exact trivial | refine And.intro (by repeat (first | exact Mem.here | apply Mem.there)) ?_)) ?_
      rintro ⟨⟩
      refine Jl.nil ?_
      refine Dh.Jq.segV (by repeat (first | exact Dh.FExt.refl | apply Dh.FExt.cons | apply Dh.FExt.app)) ?_ (by repeat (first | exact Dh.KeepL.nil | apply Dh.KeepL.anc (by rfl) | apply Dh.KeepL.keep (by repeat (first | exact Take.nil | apply Take.cons (by repeat (first | exact Del.here | apply Del.there))))))
      refine Dh.JH.nil ?_
      refine Dh.JB.pv rfl trivial (fun _ => PR.not rfl) ?_
      refine Dh.JB.nil ?_
      refine Dh.JL.nil ?_
      refine Jq.thenN ?_
      refine Jc.cond rfl (fun h0 => ?_) (fun h0 => ?_)
      · try replace h0 := of_decide_eq_true h0
        replace h0 : inB (c.nth k) (limAt k) = false := by simpa using h0
        refine Jc.goto ?_
        refine Jq.blkG ?_
        exact Jq.nextG () ⟨rfl, fun h => by have := fOk_iff.1 (Cf.ok_f h) k hk; rw [h0] at this; cases this⟩ rfl (by repeat (first | exact trivial | refine And.intro (by repeat (first | exact Mem.here | apply Mem.there)) ?_))
      · try replace h0 := of_decide_eq_false h0
        replace h0 : inB (c.nth k) (limAt k) = true := by simpa using h0
        refine Jc.skip ?_
        refine Jq.blkN ?_
        exact Jq.next () (fun j hj => (Nat.lt_succ_iff_lt_or_eq.1 hj).elim (hI j) (fun e => by rw [e]; exact h0)) rfl (by repeat (first | exact trivial | refine And.intro (by repeat (first | exact Mem.here | apply Mem.there)) ?_))
    · rintro ⟨⟩ D0 hI
      have hfo : c.fOk = true := fOk_iff.2 hI
      refine Jq.blkN ?_
      refine Jq.thenN ?_
      refine Jc.seq ?_
      refine Jc.seq ?_
      refine Jc.region ?_
      refine Jl.pv (PR.fieldAddr rfl tfl24_14) ?_
      refine Jl.pv (PR.load1 rfl tsh22 (by repeat (first | exact Has.here | apply Has.there)) (by rfl)) ?_
      refine Jl.pv (PR.len rfl tsl22) ?_
      refine Jl.pv (PR.gtr _ rfl rfl rfl) ?_
      refine Jl.nil ?_
      refine Jq.thenN ?_
      refine Jc.cond rfl (fun h1 => ?_) (fun h1 => ?_)
      · try replace h1 := of_decide_eq_true h1
        refine Jc.goto ?_
        refine Jq.thenG ?_
        exact Jq.jmpAN (⟨(), fun h => by have := Cf.ok_m h; omega⟩, D0) rfl (by repeat (first | exact trivial | refine And.intro rfl ?_)) rfl trivial
      · try replace h1 := of_decide_eq_false h1
        have hm4 : c.ms.length ≤ 4 := by omega
        refine Jc.skip ?_
        refine Jq.thenN ?_
        refine Jc.seq ?_
        refine Jc.seq ?_
        refine Jc.region ?_
        refine Jl.pv (PR.fieldAddr rfl tfl24_14) ?_
        refine Jl.pv (PR.load1 rfl tsh22 (by repeat (first | exact Has.here | apply Has.there)) (by rfl)) ?_
        refine Jl.pv (PR.len rfl tsl22) ?_
        refine Jl.pv (PR.move rfl) ?_
        refine Jl.nil ?_
        refine Jq.thenN ?_
        refine Jc.block ?_
        refine Jc.loop (σ := { k : Nat // k ≤ c.ms.length ∧ ∀ j, j < k → mOkAt c.ms j = true }) (fun s => [(25, .int .i64 (s.1 : Int)), (24, .int .i64 (c.ms.length : Int)), (23, .slice A c.ms.length cA), (1, .pointer (some ⟨b1, 0, none⟩))]) (fun _ => [.mark D0, .blk b1 24 (c.cs (A, cA))]) (fun _ => [.rd A (i64s c.ms)]) (fun s => c.ms.length - s.1) ⟨0, Nat.zero_le _, fun _ h => by omega⟩ (by repeat (first | exact trivial | refine And.intro rfl ?_)) rfl (by repeat (first | exact trivial | refine And.intro (by repeat (first | exact Mem.here | apply Mem.there)) ?_)) ?_
        rintro ⟨k, hk, hM⟩
        show Jc _ _ _ _ _ _ [(25, Value.int .i64 (k : Int)), (24, .int .i64 (c.ms.length : Int)), (23, .slice A c.ms.length cA), (1, .pointer (some ⟨b1, 0, none⟩))] [.mark D0, .blk b1 24 (c.cs (A, cA))] [.rd A (i64s c.ms)]
        refine Jc.seq ?_
        refine Jc.region ?_
        refine Jl.pv (PR.lss _ rfl rfl rfl) ?_
        refine Jl.nil ?_
        refine Jq.thenN ?_
        refine Jc.seq ?_
        refine Jc.cond rfl (fun h2 => ?_) (fun h2 => ?_)
        · try replace h2 := of_decide_eq_true h2
          have hlt : k < c.ms.length := by omega
          refine Jc.skip ?_
          refine Jq.thenN ?_
          refine Jc.seq ?_
          refine Jc.block ?_
          refine Jc.seq ?_
          refine Jc.region ?_
          refine Jl.pv (PR.move rfl) ?_
          refine Jl.pv (PR.idx1 k rfl rfl tsl22 (by repeat (first | exact Mem.here | apply Mem.there)) (by simp) rfl hlt) ?_
          refine Jl.pv (PR.loadR rfl tsh3 (by repeat (first | exact Mem.here | apply Mem.there)) (getm hlt)) ?_
          refine Jl.pv (PR.assign rfl) ?_
          refine Jl.pv (PR.assign rfl) ?_
          refine Jl.nil ?_
          refine Jq.thenN ?_
          refine Jc.seq ?_
          refine Jc.region ?_
          refine Jl.pv (PR.move rfl) ?_
          refine Jl.pv (PR.build (by rfl) tze79 tpl79_0_1 (by rfl)) ?_
          refine Jl.call (cwithin_ct c.ms[k] 1 100) en48 (by rfl) (by repeat (first | exact Take.nil | apply Take.cons (by repeat (first | exact Del.here | apply Del.there)))) (by repeat (first | exact trivial | refine And.intro (by repeat (first | exact Mem.here | apply Mem.there)) ?_)) ?_
          rintro ⟨⟩
          refine Jl.pv (PR.not rfl) ?_
          refine Jl.pv (PR.move rfl) ?_
          refine Jl.bsplit (fun g34 => ?_) (fun g34 => ?_)
          · try replace g34 := of_decide_eq_true g34
            replace g34 : inB c.ms[k] (1, 100) = false := by simpa using g34
            refine Jl.offS rfl rfl rfl ?_
            refine Jl.offS rfl rfl rfl ?_
            refine Jl.offS rfl rfl rfl ?_
            refine Jl.offUS rfl rfl ?_
            refine Jl.offUS rfl rfl ?_
            refine Jl.offUS rfl rfl ?_
            refine Jl.offUS rfl rfl ?_
            refine Jl.offUS rfl rfl ?_
            refine Jl.offUS rfl rfl ?_
            refine Jl.offUS rfl rfl ?_
            refine Jl.offUS rfl rfl ?_
            refine Jl.offS rfl rfl rfl ?_
            refine Jl.pv (PR.pickT rfl rfl) ?_
            refine Jl.nil ?_
            refine Jq.thenN ?_
            refine Jc.condT rfl ?_
            refine Jc.goto ?_
            refine Jq.blkG ?_
            refine Jq.thenG ?_
            refine Jq.thenG ?_
            refine Jq.blkG ?_
            refine Jq.thenG ?_
            exact Jq.jmpAN (⟨(), fun h => mOkAt_1 hlt g34 (Cf.ok_s h)⟩, D0) rfl (by repeat (first | exact trivial | refine And.intro rfl ?_)) rfl trivial
          · try replace g34 := of_decide_eq_false g34
            replace g34 : inB c.ms[k] (1, 100) = true := by simpa using g34
            refine Jl.on rfl rfl ?_
            refine Jl.pv (PR.move rfl) ?_
            refine Jl.on rfl rfl ?_
            refine Jl.pv (PR.gtr _ rfl rfl rfl) ?_
            refine Jl.on rfl rfl ?_
            refine Jl.pv (PR.move rfl) ?_
            refine Jl.bsplit (fun g37 => ?_) (fun g37 => ?_)
            · try replace g37 := of_decide_eq_true g37
              refine Jl.on rfl rfl ?_
              refine Jl.pv (PR.fieldAddr rfl tfl24_14) ?_
              refine Jl.on rfl rfl ?_
              refine Jl.pv (PR.load1 rfl tsh22 (by repeat (first | exact Has.here | apply Has.there)) (by rfl)) ?_
              refine Jl.on rfl rfl ?_
              refine Jl.pv (PR.move rfl) ?_
              refine Jl.on rfl rfl ?_
              refine Jl.pv (PR.sub ((k - 1 : Nat) : Int) rfl rfl (by rw [w64 (by omega) (by omega)]; omega)) ?_
              refine Jl.on rfl rfl ?_
              refine Jl.pv (PR.idx1 (k - 1) rfl rfl tsl22 (by repeat (first | exact Mem.here | apply Mem.there)) (by simp) rfl (by omega)) ?_
              refine Jl.on rfl rfl ?_
              refine Jl.pv (PR.loadR rfl tsh3 (by repeat (first | exact Mem.here | apply Mem.there)) (getm (show k - 1 < c.ms.length by omega))) ?_
              refine Jl.on rfl rfl ?_
              refine Jl.pv (PR.move rfl) ?_
              refine Jl.on rfl rfl ?_
              refine Jl.pv (PR.geq _ rfl rfl rfl) ?_
              refine Jl.on rfl rfl ?_
              refine Jl.pv (PR.pickT rfl rfl) ?_
              refine Jl.pv (PR.pickF rfl rfl) ?_
              refine Jl.nil ?_
              refine Jq.thenN ?_
              refine Jc.cond rfl (fun h3 => ?_) (fun h3 => ?_)
              · try replace h3 := of_decide_eq_true h3
                refine Jc.goto ?_
                refine Jq.blkG ?_
                refine Jq.thenG ?_
                refine Jq.thenG ?_
                refine Jq.blkG ?_
                refine Jq.thenG ?_
                exact Jq.jmpAN (⟨(), fun h => mOkAt_2 hlt (by omega) (by omega) (Cf.ok_s h)⟩, D0) rfl (by repeat (first | exact trivial | refine And.intro rfl ?_)) rfl trivial
              · try replace h3 := of_decide_eq_false h3
                refine Jc.skip ?_
                refine Jq.blkN ?_
                refine Jq.thenN ?_
                refine Jc.region ?_
                refine Jl.pv (PR.add ((k + 1 : Nat) : Int) rfl rfl (by rw [w64 (by omega) (by omega)]; rfl)) ?_
                refine Jl.pv (PR.move rfl) ?_
                refine Jl.nil ?_
                refine Jq.again ⟨k + 1, hlt, fun j hj => (Nat.lt_succ_iff_lt_or_eq.1 hj).elim (hM j) (fun e => by rw [e]; exact mOkAt_3 hlt g34 (by omega))⟩ (by simp only; omega) (by repeat (first | exact trivial | refine And.intro rfl ?_)) rfl (by repeat (first | exact trivial | refine And.intro (by repeat (first | exact Mem.here | apply Mem.there)) ?_))
            · try replace g37 := of_decide_eq_false g37
              refine Jl.offS rfl rfl rfl ?_
              refine Jl.offS rfl rfl rfl ?_
              refine Jl.offS rfl rfl rfl ?_
              refine Jl.offS rfl rfl rfl ?_
              refine Jl.offS rfl rfl rfl ?_
              refine Jl.offS rfl rfl rfl ?_
              refine Jl.offS rfl rfl rfl ?_
              refine Jl.offS rfl rfl rfl ?_
              refine Jl.on rfl rfl ?_
              refine Jl.pv (PR.pickF rfl rfl) ?_
              refine Jl.pv (PR.pickF rfl rfl) ?_
              refine Jl.nil ?_
              refine Jq.thenN ?_
              refine Jc.condF rfl ?_
              refine Jc.skip ?_
              refine Jq.blkN ?_
              refine Jq.thenN ?_
              refine Jc.region ?_
              refine Jl.pv (PR.add ((k + 1 : Nat) : Int) rfl rfl (by rw [w64 (by omega) (by omega)]; rfl)) ?_
              refine Jl.pv (PR.move rfl) ?_
              refine Jl.nil ?_
              refine Jq.again ⟨k + 1, hlt, fun j hj => (Nat.lt_succ_iff_lt_or_eq.1 hj).elim (hM j) (fun e => by rw [e]; exact mOkAt_3 hlt g34 (by omega))⟩ (by simp only; omega) (by repeat (first | exact trivial | refine And.intro rfl ?_)) rfl (by repeat (first | exact trivial | refine And.intro (by repeat (first | exact Mem.here | apply Mem.there)) ?_))
        · try replace h2 := of_decide_eq_false h2
          have hms : mOk c.ms = true := mOk_iff.2 fun j hj => hM j (by omega)
          have hd := Cf.in_d hfo
          have hmn := Cf.in_mn hfo
          have hsu := Cf.in_su hfo
          refine Jc.exit ?_
          refine Jq.thenX ?_
          refine Jq.thenX ?_
          refine Jq.blkX ?_
          refine Jq.thenN ?_
          refine Jc.seq ?_
          refine Jc.seq ?_
          refine Jc.drawn [0, 1, 3, 7, 15, 31, 15, 79, 255, 15, 527, 2047, 4095] ([(11, false), (12, false)], []) [⟨[(0, false), (1, false), (2, false), (3, false), (4, false), (5, false), (6, false), (7, false), (8, false), (9, false)], [], 10⟩] tmx (by kernel_rfl) ?_
          refine Dh.JH.cons ?_
          refine Dh.JB.pv rfl trivial (fun _ => PR.fieldAddr rfl tfl24_0) ?_
          refine Dh.JB.rd [.blk _ _ _] rfl trivial (by repeat (first | exact Take.nil | apply Take.cons (by repeat (first | exact Del.here | apply Del.there)))) (fun _ => PR.load1 rfl tsh3 Has.here (by rfl)) ?_
          refine Dh.JB.pv rfl trivial (fun _ => PR.eql _ rfl rfl rfl) ?_
          refine Dh.JB.pv rfl trivial (fun _ => PR.move rfl) ?_
          refine Dh.JB.bsplit (fun g52 => ?_) (fun g52 => ?_)
          · try replace g52 := of_decide_eq_true g52
            refine Dh.JB.off rfl ⟨_, rfl, .inr rfl⟩ ?_
            refine Dh.JB.off rfl ⟨_, rfl, .inr rfl⟩ ?_
            refine Dh.JB.off rfl ⟨_, rfl, .inr rfl⟩ ?_
            refine Dh.JB.off rfl ⟨_, rfl, .inr rfl⟩ ?_
            refine Dh.JB.off rfl ⟨_, rfl, .inr rfl⟩ ?_
            refine Dh.JB.off rfl ⟨_, rfl, .inr rfl⟩ ?_
            refine Dh.JB.nil ?_
            refine Dh.JL.nil ?_
            refine Dh.JE.mk rfl (fun _ h => by cases h) (fun C11_10 => ?_)
            refine Jl.offS rfl rfl rfl ?_
            refine Jl.nil ?_
            refine Dh.Jq.segV (by repeat (first | exact Dh.FExt.refl | apply Dh.FExt.cons | apply Dh.FExt.app)) ?_ (by repeat (first | exact Dh.KeepL.nil | apply Dh.KeepL.anc (by rfl) | apply Dh.KeepL.keep (by repeat (first | exact Take.nil | apply Take.cons (by repeat (first | exact Del.here | apply Del.there))))))
            refine Dh.JH.nil ?_
            refine Dh.JB.off rfl ⟨_, rfl, .inr rfl⟩ ?_
            refine Dh.JB.pv rfl trivial (fun _ => PR.pickT rfl rfl) ?_
            refine Dh.JB.nil ?_
            refine Dh.JL.nil ?_
            refine Jq.thenN ?_
            refine Jc.condT rfl ?_
            refine Jc.seq ?_
            refine Jc.region ?_
            refine Jl.pv (PR.assign rfl) ?_
            refine Jl.nil ?_
            refine Jq.thenN ?_
            refine Jc.ret ?_
            refine Jq.thenR ?_
            refine Jq.jmpR ?_
            exact Jq.finM (Ds := [D0]) () (.inl rfl) rfl (by repeat (first | exact Take.nil | apply Take.cons (by repeat (first | exact Del.here | apply Del.there)))) (RetVs.tmp rfl RetVs.nil) (by rw [c.chk_ok (Cf.ok_mk hfo hm4 hms (.inl g52))]; rfl) (by repeat (first | exact Take.nil | apply Take.cons (by repeat (first | exact Del.here | apply Del.there)))) (by repeat (first | exact trivial | refine And.intro (by repeat (first | exact Mem.here | apply Mem.there)) ?_))
          · try replace g52 := of_decide_eq_false g52
            refine Dh.JB.pv rfl ⟨_, rfl, rfl⟩ (fun _ => PR.fieldAddr rfl tfl24_2) ?_
            refine Dh.JB.rd [.blk _ _ _] rfl ⟨_, rfl, rfl⟩ (by repeat (first | exact Take.nil | apply Take.cons (by repeat (first | exact Del.here | apply Del.there)))) (fun _ => PR.load1 rfl tsh3 Has.here (by rfl)) ?_
            refine Dh.JB.pv rfl ⟨_, rfl, rfl⟩ (fun _ => PR.fieldAddr rfl tfl24_0) ?_
            refine Dh.JB.rd [.blk _ _ _] rfl ⟨_, rfl, rfl⟩ (by repeat (first | exact Take.nil | apply Take.cons (by repeat (first | exact Del.here | apply Del.there)))) (fun _ => PR.load1 rfl tsh3 Has.here (by rfl)) ?_
            refine Dh.JB.pv rfl ⟨_, rfl, rfl⟩ (fun _ => PR.add (c.su + c.d) rfl rfl (w64 (by omega) (by omega))) ?_
            refine Dh.JB.rd [.blk _ _ _] rfl ⟨_, rfl, rfl⟩ (by repeat (first | exact Take.nil | apply Take.cons (by repeat (first | exact Del.here | apply Del.there)))) (fun _ => PR.loadW rfl tsh24 Has.here (by rfl)) ?_
            refine Dh.JB.nil ?_
            refine Dh.JL.nil ?_
            refine Dh.JE.mk rfl (fun _ h => by cases h) (fun C11_10 => ?_)
            refine Jl.on rfl rfl ?_
            refine Jl.call (cfloor_ct c (A, cA) hd hmn) en40 (by rfl) (by repeat (first | exact Take.nil | apply Take.cons (by repeat (first | exact Del.here | apply Del.there)))) (by repeat (first | exact trivial | refine And.intro (by repeat (first | exact Mem.here | apply Mem.there)) ?_)) ?_
            rintro ⟨⟩
            refine Jl.nil ?_
            refine Dh.Jq.segV (by repeat (first | exact Dh.FExt.refl | apply Dh.FExt.cons | apply Dh.FExt.app)) ?_ (by repeat (first | exact Dh.KeepL.nil | apply Dh.KeepL.anc (by rfl) | apply Dh.KeepL.keep (by repeat (first | exact Take.nil | apply Take.cons (by repeat (first | exact Del.here | apply Del.there))))))
            refine Dh.JH.nil ?_
            refine Dh.JB.pv rfl ⟨_, rfl, rfl⟩ (fun _ => PR.gtr _ rfl rfl rfl) ?_
            refine Dh.JB.pv rfl trivial (fun _ => PR.pickF rfl rfl) ?_
            refine Dh.JB.nil ?_
            refine Dh.JL.nil ?_
            refine Jq.thenN ?_
            refine Jc.cond rfl (fun h4 => ?_) (fun h4 => ?_)
            · try replace h4 := of_decide_eq_true h4
              refine Jc.seq ?_
              refine Jc.region ?_
              refine Jl.pv (PR.assign rfl) ?_
              refine Jl.nil ?_
              refine Jq.thenN ?_
              refine Jc.ret ?_
              refine Jq.thenR ?_
              refine Jq.jmpR ?_
              exact Jq.finM (Ds := [D0]) () (.inl rfl) rfl (by repeat (first | exact Take.nil | apply Take.cons (by repeat (first | exact Del.here | apply Del.there)))) (RetVs.tmp rfl RetVs.nil) (by rw [c.chk_ok (Cf.ok_mk hfo hm4 hms (.inr h4))]; rfl) (by repeat (first | exact Take.nil | apply Take.cons (by repeat (first | exact Del.here | apply Del.there)))) (by repeat (first | exact trivial | refine And.intro (by repeat (first | exact Mem.here | apply Mem.there)) ?_))
            · try replace h4 := of_decide_eq_false h4
              refine Jc.skip ?_
              refine Jq.thenN ?_
              refine Jc.seq ?_
              refine Jc.label ?_
              refine Jq.thenN ?_
              exact Jc.less (env' := []) (Φ' := []) trivial trivial (hfirst0 (⟨(), fun h => (Cf.ok_l h).elim g52 h4⟩, D0))
    · rintro e k t D0 hk ⟨rfl, hno⟩
      skip
      refine Jc.goto ?_
      refine Jq.blkG ?_
      refine Jq.thenG ?_
      exact Jq.jmpAN (⟨(), hno⟩, D0) rfl (by repeat (first | exact trivial | refine And.intro rfl ?_)) rfl trivial
theorem cfloorR_ct (c : Cf) (x : AdC) (hn : c.ms.length ≤ 1000000) : Ct Tryd.prog 22 [c.v x] [] [.rd x.1 (i64s c.ms), .lim] (fun _ : Unit => .int .i64 c.flr) (fun _ => []) (fun _ => []) := by
  by_cases hok : c.ok = true
  · have e1 : c.flr = c.fl := if_pos hok
    rw [e1]
    refine Ct.of _ Tryd.func22 Tryd.ntmps22 rfl rfl (fun X W => ?_)
    refine Jc.seq ?_
    refine Jc.region ?_
    refine Jl.box rfl (by rfl) ?_
    intro b1
    refine Jl.pv (PR.assign rfl) ?_
    refine Jl.nil ?_
    refine Jq.thenN ?_
    refine Jc.seq ?_
    refine Jc.seq ?_
    refine Jc.region ?_
    refine Jl.pv (PR.loadW rfl tsh24 (by repeat (first | exact Has.here | apply Has.there)) (by rfl)) ?_
    refine Jl.call (ccheck_ct c x hn) en39 (by rfl) (by repeat (first | exact Take.nil | apply Take.cons (by repeat (first | exact Del.here | apply Del.there)))) (by repeat (first | exact trivial | refine And.intro (by repeat (first | exact Mem.here | apply Mem.there)) ?_)) ?_
    rintro ⟨⟩
    refine Jl.pv (PR.neq false rfl rfl (by rw [c.chk_ok hok]; rfl)) ?_
    refine Jl.nil ?_
    refine Jq.thenN ?_
    refine Jc.condF rfl ?_
    refine Jc.skip ?_
    refine Jq.thenN ?_
    refine Jc.seq ?_
    refine Jc.region ?_
    refine Jl.pv (PR.loadW rfl tsh24 (by repeat (first | exact Has.here | apply Has.there)) (by rfl)) ?_
    refine Jl.call (cfloor_ct c x (Cf.in_d (Cf.ok_f hok)) (Cf.in_mn (Cf.ok_f hok))) en40 (by rfl) (by repeat (first | exact Take.nil | apply Take.cons (by repeat (first | exact Del.here | apply Del.there)))) (by repeat (first | exact trivial | refine And.intro (by repeat (first | exact Mem.here | apply Mem.there)) ?_)) ?_
    rintro ⟨⟩
    refine Jl.pv (PR.assign rfl) ?_
    refine Jl.nil ?_
    refine Jq.thenN ?_
    refine Jc.ret ?_
    exact Jq.fin () (.inl rfl) rfl (RetVs.tmp rfl RetVs.nil) rfl (by repeat (first | exact Take.nil | apply Take.cons (by repeat (first | exact Del.here | apply Del.there)))) (by repeat (first | exact trivial | refine And.intro (by repeat (first | exact Mem.here | apply Mem.there)) ?_))
  · have e1 : c.flr = 0 := if_neg hok
    rw [e1]
    refine Ct.of _ Tryd.func22 Tryd.ntmps22 rfl rfl (fun X W => ?_)
    refine Jc.seq ?_
    refine Jc.region ?_
    refine Jl.box rfl (by rfl) ?_
    intro b1
    refine Jl.pv (PR.assign rfl) ?_
    refine Jl.nil ?_
    refine Jq.thenN ?_
    refine Jc.seq ?_
    refine Jc.seq ?_
    refine Jc.region ?_
    refine Jl.pv (PR.loadW rfl tsh24 (by repeat (first | exact Has.here | apply Has.there)) (by rfl)) ?_
    refine Jl.call (ccheck_ct c x hn) en39 (by rfl) (by repeat (first | exact Take.nil | apply Take.cons (by repeat (first | exact Del.here | apply Del.there)))) (by repeat (first | exact trivial | refine And.intro (by repeat (first | exact Mem.here | apply Mem.there)) ?_)) ?_
    rintro ⟨⟩
    refine Jl.pv (PR.neq true rfl rfl (by rw [c.chk_no hok]; rfl)) ?_
    refine Jl.nil ?_
    refine Jq.thenN ?_
    refine Jc.condT rfl ?_
    refine Jc.seq ?_
    refine Jc.region ?_
    refine Jl.pv (PR.assign rfl) ?_
    refine Jl.nil ?_
    refine Jq.thenN ?_
    refine Jc.ret ?_
    refine Jq.thenR ?_
    exact Jq.fin () (.inl rfl) rfl (RetVs.tmp rfl RetVs.nil) rfl (by repeat (first | exact Take.nil | apply Take.cons (by repeat (first | exact Del.here | apply Del.there)))) (by repeat (first | exact trivial | refine And.intro (by repeat (first | exact Mem.here | apply Mem.there)) ?_))
theorem cbound_ct (c : Cf) (x : AdC) (hn : c.ms.length ≤ 1000000) : Ct Tryd.prog 23 [c.v x] [] [.rd x.1 (i64s c.ms), .lim] (fun _ : Unit => .int .i64 c.bnd) (fun _ => []) (fun _ => []) := by
  by_cases hok : c.ok = true
  · have e1 : c.bnd = c.d + c.su + c.po := if_pos hok
    have h1 := Cf.in_d (Cf.ok_f hok)
    have h2 := Cf.in_su (Cf.ok_f hok)
    have h3 := Cf.in_po (Cf.ok_f hok)
    rw [e1]
    refine Ct.of _ Tryd.func23 Tryd.ntmps23 rfl rfl (fun X W => ?_)
    refine Jc.seq ?_
    refine Jc.region ?_
    refine Jl.box rfl (by rfl) ?_
    intro b1
    refine Jl.pv (PR.assign rfl) ?_
    refine Jl.nil ?_
    refine Jq.thenN ?_
    refine Jc.seq ?_
    refine Jc.seq ?_
    refine Jc.region ?_
    refine Jl.pv (PR.loadW rfl tsh24 (by repeat (first | exact Has.here | apply Has.there)) (by rfl)) ?_
    refine Jl.call (ccheck_ct c x hn) en39 (by rfl) (by repeat (first | exact Take.nil | apply Take.cons (by repeat (first | exact Del.here | apply Del.there)))) (by repeat (first | exact trivial | refine And.intro (by repeat (first | exact Mem.here | apply Mem.there)) ?_)) ?_
    rintro ⟨⟩
    refine Jl.pv (PR.neq false rfl rfl (by rw [c.chk_ok hok]; rfl)) ?_
    refine Jl.nil ?_
    refine Jq.thenN ?_
    refine Jc.condF rfl ?_
    refine Jc.skip ?_
    refine Jq.thenN ?_
    refine Jc.seq ?_
    refine Jc.region ?_
    refine Jl.pv (PR.fieldAddr rfl tfl24_0) ?_
    refine Jl.pv (PR.load1 rfl tsh3 (by repeat (first | exact Has.here | apply Has.there)) (by rfl)) ?_
    refine Jl.pv (PR.fieldAddr rfl tfl24_2) ?_
    refine Jl.pv (PR.load1 rfl tsh3 (by repeat (first | exact Has.here | apply Has.there)) (by rfl)) ?_
    refine Jl.pv (PR.add _ rfl rfl (w64 (by omega) (by omega))) ?_
    refine Jl.pv (PR.fieldAddr rfl tfl24_3) ?_
    refine Jl.pv (PR.load1 rfl tsh3 (by repeat (first | exact Has.here | apply Has.there)) (by rfl)) ?_
    refine Jl.pv (PR.add _ rfl rfl (w64 (by omega) (by omega))) ?_
    refine Jl.pv (PR.assign rfl) ?_
    refine Jl.nil ?_
    refine Jq.thenN ?_
    refine Jc.ret ?_
    exact Jq.fin () (.inl rfl) rfl (RetVs.tmp rfl RetVs.nil) rfl (by repeat (first | exact Take.nil | apply Take.cons (by repeat (first | exact Del.here | apply Del.there)))) (by repeat (first | exact trivial | refine And.intro (by repeat (first | exact Mem.here | apply Mem.there)) ?_))
  · have e1 : c.bnd = 0 := if_neg hok
    rw [e1]
    refine Ct.of _ Tryd.func23 Tryd.ntmps23 rfl rfl (fun X W => ?_)
    refine Jc.seq ?_
    refine Jc.region ?_
    refine Jl.box rfl (by rfl) ?_
    intro b1
    refine Jl.pv (PR.assign rfl) ?_
    refine Jl.nil ?_
    refine Jq.thenN ?_
    refine Jc.seq ?_
    refine Jc.seq ?_
    refine Jc.region ?_
    refine Jl.pv (PR.loadW rfl tsh24 (by repeat (first | exact Has.here | apply Has.there)) (by rfl)) ?_
    refine Jl.call (ccheck_ct c x hn) en39 (by rfl) (by repeat (first | exact Take.nil | apply Take.cons (by repeat (first | exact Del.here | apply Del.there)))) (by repeat (first | exact trivial | refine And.intro (by repeat (first | exact Mem.here | apply Mem.there)) ?_)) ?_
    rintro ⟨⟩
    refine Jl.pv (PR.neq true rfl rfl (by rw [c.chk_no hok]; rfl)) ?_
    refine Jl.nil ?_
    refine Jq.thenN ?_
    refine Jc.condT rfl ?_
    refine Jc.seq ?_
    refine Jc.region ?_
    refine Jl.pv (PR.assign rfl) ?_
    refine Jl.nil ?_
    refine Jq.thenN ?_
    refine Jc.ret ?_
    refine Jq.thenR ?_
    exact Jq.fin () (.inl rfl) rfl (RetVs.tmp rfl RetVs.nil) rfl (by repeat (first | exact Take.nil | apply Take.cons (by repeat (first | exact Del.here | apply Del.there)))) (by repeat (first | exact trivial | refine And.intro (by repeat (first | exact Mem.here | apply Mem.there)) ?_))
end Go.Proofs.YtiebgcahdnaekaaDoor
