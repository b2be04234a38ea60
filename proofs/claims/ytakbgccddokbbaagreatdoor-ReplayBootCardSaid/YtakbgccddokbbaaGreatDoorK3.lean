import Derived.Test.YtakbgccddokbbaaGreatDoorK2
set_option linter.unusedVariables false
namespace Go.Proofs.YtakbgccddokbbaaGreatDoor
open Go.RowKit
attribute [local irreducible] Res.blk Res.row Fact.rd
abbrev Fact.lim : Fact := .rd (some ⟨2, 0, none⟩) limV
theorem cwithin_ct (n lo hi : Int) : Ct Tryz.prog 122 [.int .i64 n, .agg #[.int .i64 lo, .int .i64 hi]] [] [] (fun _ : Unit => .bool (inB n (lo, hi))) (fun _ => []) (fun _ => []) := by
 refine Ct.of _ Tryz.func122 Tryz.ntmps122 rfl rfl (fun X W => ?_)
 refine Jc.qs<|Jc.qr ?_
 refine Jl.box rfl (by rfl) ?_
 intro b3
 refine Jl.pv (PR.qa rfl)<|Jl.qn<|Jq.qt<|Jc.qs<|Jc.qr<|Jl.pv (PR.qm rfl)<|Jl.pv (PR.qf rfl tfl156_0) ?_
 refine Jl.pv (PR.load1 rfl tsh3 zH (by rfl)) ?_
 refine Jl.pv (PR.geq _ rfl rfl rfl) ?_
 refine Jl.pv (PR.qm rfl) ?_
 refine Jl.bsplit (fun g9 => ?_) (fun g9 => ?_)
 · try replace g9 := zV g9
   refine Jl.on rfl rfl<|Jl.pv (PR.qm rfl)<|Jl.on rfl rfl<|Jl.pv (PR.qf rfl tfl156_1)<|Jl.on rfl rfl ?_
   refine Jl.pv (PR.load1 rfl tsh3 zH (by rfl)) ?_
   refine Jl.on rfl rfl ?_
   refine Jl.pv (PR.leq _ rfl rfl rfl) ?_
   refine Jl.pv (PR.pickT rfl rfl)<|Jl.pv (PR.qa rfl)<|Jl.qn<|Jq.qt<|Jc.ret ?_
   exact Jq.fin () (.inl rfl) rfl (RetVs.tmp rfl RetVs.nil) (by simp [retval, inB]; omega) zT zF
 try replace g9 := zW g9
 refine Jl.qo rfl rfl rfl<|Jl.qo rfl rfl rfl<|Jl.qo rfl rfl rfl<|Jl.qo rfl rfl rfl<|Jl.pv (PR.pickF rfl rfl)<|Jl.pv (PR.qa rfl)<|Jl.qn<|Jq.qt<|Jc.ret ?_
 exact Jq.fin () (.inl rfl) rfl (RetVs.tmp rfl RetVs.nil) (by simp [retval, inB]; omega) zT zF
theorem cfloor_ct (c : Cf) (x : AdC) (h1 : 0 ≤ c.d ∧ c.d ≤ 6) (h2 : 0 ≤ c.mn ∧ c.mn ≤ 100) : Ct Tryz.prog 144 [c.v x] [] [] (fun _ : Unit => .int .i64 c.fl) (fun _ => []) (fun _ => []) := by
 have hdm := dm_le h1 h2
 refine Ct.of _ Tryz.func144 Tryz.ntmps144 rfl rfl (fun X W => ?_)
 refine Jc.qs<|Jc.qr ?_
 refine Jl.box rfl (by rfl) ?_
 intro b1
 refine Jl.pv (PR.qa rfl)<|Jl.qn<|Jq.qt<|Jc.qs<|Jc.qr<|Jl.pv (PR.qf rfl tfl32_0) ?_
 refine Jl.pv (PR.load1 rfl tsh3 zH (by rfl)) ?_
 refine Jl.pv (PR.qf rfl tfl32_1) ?_
 refine Jl.pv (PR.load1 rfl tsh3 zH (by rfl)) ?_
 refine Jl.pv (PR.mul _ rfl rfl (w64 (by omega) (by omega))) ?_
 refine Jl.pv (PR.add _ rfl rfl (w64 (by omega) (by omega))) ?_
 refine Jl.pv (PR.quo c.fl rfl rfl (by decide) (by rw [Int.tdiv_eq_ediv_of_nonneg (by omega)]; exact w64 (by omega) (by omega))) ?_
 refine Jl.pv (PR.qa rfl)<|Jl.qn<|Jq.qt<|Jc.ret ?_
 exact Jq.fin () (.inl rfl) rfl (RetVs.tmp rfl RetVs.nil) rfl zT zF
theorem fields_ct (b : Nat) : Ct Tryz.prog 123 [.pointer (some ⟨b, 0, none⟩)] [] [] (fun bb : Nat => .func (.func 143) #[] #[.pointer (some ⟨bb, 0, none⟩)]) (fun bb => [.blk bb 160 [.pointer (some ⟨b, 0, none⟩)]]) (fun _ => []) := by
 refine Ct.of _ Tryz.func123 Tryz.ntmps123 rfl rfl (fun X W => ?_)
 refine Jc.qs<|Jc.qr ?_
 refine Jl.box rfl (by rfl) ?_
 intro b1
 refine Jl.pv (PR.qa rfl)<|Jl.qn<|Jq.qt<|Jc.qs<|Jc.qr ?_
 refine Jl.pv (PR.makeFunc rfl rfl) ?_
 refine Jl.pv (PR.qa rfl)<|Jl.qn<|Jq.qt<|Jc.ret ?_
 exact Jq.fin b1 (.inl rfl) rfl (RetVs.tmp rfl RetVs.nil) rfl zT zF
def ptrs (b : Nat) : List Value := [.pointer (some ⟨b, 0, none⟩), .pointer (some ⟨b, 1, none⟩), .pointer (some ⟨b, 2, none⟩), .pointer (some ⟨b, 3, none⟩), .pointer (some ⟨b, 4, none⟩), .pointer (some ⟨b, 5, none⟩), .pointer (some ⟨b, 6, none⟩), .pointer (some ⟨b, 7, none⟩), .pointer (some ⟨b, 8, none⟩), .pointer (some ⟨b, 9, none⟩), .pointer (some ⟨b, 10, none⟩), .pointer (some ⟨b, 11, none⟩), .pointer (some ⟨b, 12, none⟩)]
theorem ptr_at (b : Nat) : ∀ {k : Nat}, k < 13 → (ptrs b)[k]? = some (.pointer (some ⟨b, k, none⟩))
 | 0, _ => rfl | 1, _ => rfl | 2, _ => rfl | 3, _ => rfl | 4, _ => rfl | 5, _ => rfl | 6, _ => rfl | 7, _ => rfl | 8, _ => rfl | 9, _ => rfl | 10, _ => rfl | 11, _ => rfl | 12, _ => rfl
 | k + 13, h => by omega
def cfvals (b : Nat) (k : Nat) : List Value := [.int .i64 (k : Int), .pointer (some ⟨b, k, none⟩)]
theorem fields1_it (b bb : Nat) : It Tryz.prog 143 [.pointer (some ⟨bb, 0, none⟩)] [.blk bb 160 [.pointer (some ⟨b, 0, none⟩)]] [] 13 (cfvals b) := by
 refine It.of _ Tryz.func143 Tryz.ntmps143 rfl rfl (by rfl) (by simp) (fun W l cl clx hy => ?_)
 refine Jc.qs ?_
 refine Jc.drawn [0, 1, 3, 0, 8, 24, 0, 64, 192, 0, 512, 1536, 0, 4096, 12288, 0, 32768, 98304, 0, 262144, 786432, 0, 2097152, 6291456, 0, 16777216, 50331648, 0, 134217728, 402653184, 0, 1073741824, 3221225472, 0, 8589934592, 25769803776, 0, 68719476736, 206158430208, 549755813887, 0] ([(0, false), (1, false), (2, false), (3, false), (4, false), (5, false), (6, false), (7, false), (8, false), (9, false), (10, false), (11, false), (12, false), (13, false), (14, false), (15, false), (16, false), (17, false), (18, false), (19, false), (20, false), (21, false), (22, false), (23, false), (24, false), (25, false), (26, false), (27, false), (28, false), (29, false), (30, false), (31, false), (32, false), (33, false), (34, false), (35, false), (36, false), (37, false), (38, false), (39, false), (40, false)], []) [] tmx (by kernel_rfl) ?_
 refine Dh.JH.nil ?_
 refine Dh.JB.rd [.blk _ _ _] rfl trivial zT (fun _ => PR.load1 rfl tsh160 Has.here (by rfl)) ?_
 refine Dh.JB.pv rfl trivial (fun _ => PR.nilCheck rfl) ?_
 refine Dh.JB.pv rfl trivial (fun _ => PR.qf rfl tfl32_0) ?_
 refine Dh.JB.rd [.blk _ _ _] rfl trivial zT (fun _ => PR.load1 rfl tsh160 Has.here (by rfl)) ?_
 refine Dh.JB.pv rfl trivial (fun _ => PR.nilCheck rfl) ?_
 refine Dh.JB.pv rfl trivial (fun _ => PR.qf rfl tfl32_1) ?_
 refine Dh.JB.rd [.blk _ _ _] rfl trivial zT (fun _ => PR.load1 rfl tsh160 Has.here (by rfl)) ?_
 refine Dh.JB.pv rfl trivial (fun _ => PR.nilCheck rfl) ?_
 refine Dh.JB.pv rfl trivial (fun _ => PR.qf rfl tfl32_2) ?_
 refine Dh.JB.rd [.blk _ _ _] rfl trivial zT (fun _ => PR.load1 rfl tsh160 Has.here (by rfl)) ?_
 refine Dh.JB.pv rfl trivial (fun _ => PR.nilCheck rfl) ?_
 refine Dh.JB.pv rfl trivial (fun _ => PR.qf rfl tfl32_3) ?_
 refine Dh.JB.rd [.blk _ _ _] rfl trivial zT (fun _ => PR.load1 rfl tsh160 Has.here (by rfl)) ?_
 refine Dh.JB.pv rfl trivial (fun _ => PR.nilCheck rfl) ?_
 refine Dh.JB.pv rfl trivial (fun _ => PR.qf rfl tfl32_4) ?_
 refine Dh.JB.rd [.blk _ _ _] rfl trivial zT (fun _ => PR.load1 rfl tsh160 Has.here (by rfl)) ?_
 refine Dh.JB.pv rfl trivial (fun _ => PR.nilCheck rfl) ?_
 refine Dh.JB.pv rfl trivial (fun _ => PR.qf rfl tfl32_5) ?_
 refine Dh.JB.rd [.blk _ _ _] rfl trivial zT (fun _ => PR.load1 rfl tsh160 Has.here (by rfl)) ?_
 refine Dh.JB.pv rfl trivial (fun _ => PR.nilCheck rfl) ?_
 refine Dh.JB.pv rfl trivial (fun _ => PR.qf rfl tfl32_6) ?_
 refine Dh.JB.rd [.blk _ _ _] rfl trivial zT (fun _ => PR.load1 rfl tsh160 Has.here (by rfl)) ?_
 refine Dh.JB.pv rfl trivial (fun _ => PR.nilCheck rfl) ?_
 refine Dh.JB.pv rfl trivial (fun _ => PR.qf rfl tfl32_7) ?_
 refine Dh.JB.rd [.blk _ _ _] rfl trivial zT (fun _ => PR.load1 rfl tsh160 Has.here (by rfl)) ?_
 refine Dh.JB.pv rfl trivial (fun _ => PR.nilCheck rfl) ?_
 refine Dh.JB.pv rfl trivial (fun _ => PR.qf rfl tfl32_8) ?_
 refine Dh.JB.rd [.blk _ _ _] rfl trivial zT (fun _ => PR.load1 rfl tsh160 Has.here (by rfl)) ?_
 refine Dh.JB.pv rfl trivial (fun _ => PR.nilCheck rfl) ?_
 refine Dh.JB.pv rfl trivial (fun _ => PR.qf rfl tfl32_9) ?_
 refine Dh.JB.rd [.blk _ _ _] rfl trivial zT (fun _ => PR.load1 rfl tsh160 Has.here (by rfl)) ?_
 refine Dh.JB.pv rfl trivial (fun _ => PR.nilCheck rfl) ?_
 refine Dh.JB.pv rfl trivial (fun _ => PR.qf rfl tfl32_10) ?_
 refine Dh.JB.rd [.blk _ _ _] rfl trivial zT (fun _ => PR.load1 rfl tsh160 Has.here (by rfl)) ?_
 refine Dh.JB.pv rfl trivial (fun _ => PR.nilCheck rfl) ?_
 refine Dh.JB.pv rfl trivial (fun _ => PR.qf rfl tfl32_11) ?_
 refine Dh.JB.rd [.blk _ _ _] rfl trivial zT (fun _ => PR.load1 rfl tsh160 Has.here (by rfl)) ?_
 refine Dh.JB.pv rfl trivial (fun _ => PR.nilCheck rfl) ?_
 refine Dh.JB.pv rfl trivial (fun _ => PR.qf rfl tfl32_12) ?_
 refine Dh.JB.pv rfl trivial (fun _ => PR.build (by rfl) tze184 tpl184_0_1_2_3_4_5_6_7_8_9_10_11_12 (by rfl)) ?_
 refine Dh.JB.pv rfl trivial (fun _ => PR.qm rfl)<|Dh.JB.nil<|Dh.JL.nil<|Jq.qt ?_
 refine Jc.block ?_
 refine Jc.loop (σ := { k : Nat // k ≤ 13 }) (fun s => [(45, .int .i64 (s.1 : Int)), (44, .agg (ptrs b).toArray), (0, .func (.yield l) #[] #[])]) (fun _ => [.blk bb 160 [.pointer (some ⟨b, 0, none⟩)]]) (fun s => [cl s.1]) (fun s => 13 - s.1) ⟨0, by omega⟩ (by repeat (first | exact trivial | refine And.intro rfl ?_)) rfl zF ?_
 rintro ⟨k, hk⟩
 show Jc _ _ _ _ _ _ [(45, Value.int .i64 (k : Int)), (44, .agg (ptrs b).toArray), (0, .func (.yield l) #[] #[])] [.blk bb 160 [.pointer (some ⟨b, 0, none⟩)]] [cl k]
 refine Jc.qs<|Jc.qr ?_
 refine Jl.pv (PR.lss _ rfl rfl rfl) ?_
 refine Jl.qn<|Jq.qt<|Jc.qs ?_
 refine Jc.cond rfl (fun hlt => ?_) (fun hlt => ?_)
 · try replace hlt := zV hlt
   have hlt' : k < 13 := by omega
   refine Jc.skip<|Jq.qt<|Jc.qs ?_
   refine Jc.block ?_
   refine Jc.qs<|Jc.qr<|Jl.pv (PR.qm rfl) ?_
   refine Jl.pv (PR.index1 k rfl rfl tar184 tsh161 rfl hlt' (ptr_at b hlt')) ?_
   refine Jl.pv (PR.qa rfl)<|Jl.pv (PR.qa rfl)<|Jl.qn<|Jq.qt<|Jc.qs<|Jc.qr<|Jl.pv (PR.qm rfl)<|Jl.pv (PR.qm rfl)<|Jl.pv (PR.qm rfl) ?_
   refine hy _ _ _ _ _ _ _ _ _ _ _ _ _ _ k hlt' rfl rfl zM rfl ?_ ?_
   · refine Jl.pv (PR.not rfl) ?_
     refine Jl.qn<|Jq.qt<|Jc.condF rfl<|Jc.skip ?_
     refine Jq.blkN ?_
     refine Jq.qt<|Jc.qr ?_
     refine Jl.pv (PR.add ((k + 1 : Nat) : Int) rfl rfl (by rw [w64 (by omega) (by omega)]; rfl)) ?_
     refine Jl.pv (PR.qm rfl)<|Jl.qn ?_
     refine Jq.again ⟨k + 1, hlt'⟩ (by simp only; omega) (by repeat (first | exact trivial | refine And.intro rfl ?_)) rfl zF
   refine Jl.pv (PR.not rfl) ?_
   refine Jl.qn<|Jq.qt<|Jc.condT rfl<|Jc.ret ?_
   refine Jq.blkR ?_
   refine Jq.thenR<|Jq.thenR ?_
   refine Jq.blkR ?_
   exact Jq.itStop (.inl rfl) hlt' zM
 try replace hlt := zW hlt
 refine Jc.exit ?_
 refine Jq.thenX ?_
 refine Jq.thenX ?_
 refine Jq.blkX ?_
 rw [show k = 13 by omega]; exact Jq.itDone (.inr rfl) zM
theorem ccheck_ct (c : Cf) (x : AdC) (hn : c.ms.length ≤ 1000000) : Ct Tryz.prog 124 [c.v x] [] [.rd x.1 (i64s c.ms), .lim] (fun _ : Unit => .int .i64 c.chk) (fun _ => []) (fun _ => []) := by
 obtain ⟨A, cA⟩ := x
 refine Ct.of _ Tryz.func124 Tryz.ntmps124 rfl rfl (fun X W => ?_)
 refine Jc.qs<|Jc.qr ?_
 refine Jl.box rfl (by rfl) ?_
 intro b1
 refine Jl.pv (PR.qa rfl)<|Jl.qn<|Jq.qt ?_
 refine Jc.scopeN (σ := { _u : Unit // ¬ c.ok = true } × Nat) (fun s => (62, [s.2])) (fun _ => []) (fun s => [.mark s.2, .blk b1 32 (c.cs (A, cA))]) (fun _ => []) (fun _ => 0) (l := 0) rfl ?_ ?_
 · rintro ⟨⟨_, hno⟩, D0⟩
   refine Jc.qs<|Jc.qr<|Jl.pv (PR.qa rfl)<|Jl.qn<|Jq.qt<|Jc.ret ?_
   refine Jq.jmpR ?_
   exact Jq.finM (Ds := [D0]) () (.inl rfl) rfl zT (RetVs.tmp rfl RetVs.nil) (by rw [c.chk_no hno]; rfl) zT zF
 intro hfirst0
 refine Jc.qs<|Jc.qs<|Jc.qr ?_
 refine Jl.call (fields_ct b1) en123 (by rfl) zT zF ?_
 rintro b7
 refine Jl.qn<|Jq.qt ?_
 refine Jc.block ?_
 refine Jc.range (σ := Unit) (τ := Unit) (Inv := fun k _ => ∀ j, j < k → inB (c.nth j) (limAt j) = true) (Rs := fun _ => [.blk b1 32 (c.cs (A, cA))]) (Φs := fun _ => [.rd A (i64s c.ms), .lim]) (InvX := fun e _ _ => e = .goto 0 ∧ ¬ c.ok = true) (RsX := fun _ => [.blk b1 32 (c.cs (A, cA))]) (ΦsX := fun _ => []) (vals := cfvals b1) rfl en143 (fields1_it b1 b7) zT zF (fun _ => rfl) rfl () (fun _ h => by omega) rfl zF ?_ ?_ ?_
 · rintro k ⟨⟩ hk hI l C1
   show Jc _ _ _ _ _ _ (psetL [8, 9] [.int .i64 (k : Int), .pointer (some ⟨b1, k, none⟩)] _) [.blk b1 32 (c.cs (A, cA))] [.rd A (i64s c.ms), .lim]
   refine Jc.qs<|Jc.qr<|Jl.pv (PR.qa rfl)<|Jl.qn<|Jq.qt<|Jc.qr<|Jl.pv (PR.qa rfl)<|Jl.qn ?_
   refine Jq.assigned (fun C2 => ?_)
   refine Jc.block ?_
   refine Jc.qs ?_
   refine Jc.drawn [0, 1, 3, 0, 8, 24, 63, 127] ([(7, false)], []) [⟨[(0, false), (1, false), (2, false), (3, false), (4, false), (5, false)], [], 6⟩] tmx (by kernel_rfl) ?_
   refine Dh.JH.cons<|Dh.JB.pv rfl trivial (fun _ => PR.qm rfl) ?_
   refine Dh.JB.pv rfl trivial (fun _ => PR.nilCheck rfl) ?_
   refine Dh.JB.rd [.blk _ _ _] rfl trivial zT (fun _ => PR.load1 rfl tsh3 Has.here (cs_at c (A, cA) hk)) ?_
   refine Dh.JB.pv rfl trivial (fun _ => PR.qm rfl) ?_
   refine Dh.JB.pv rfl trivial (fun _ => PR.idxRA k rfl rfl tar185 rfl hk) ?_
   refine Dh.JB.pv rfl trivial (fun _ => PR.loadRA rfl tsh156 zM (by decide) (lim_at hk)) ?_
   refine Dh.JB.nil<|Dh.JL.nil ?_
   refine Dh.JE.mk rfl (fun _ h => by cases h) (fun C4_6 => ?_)
   refine Jl.call (cwithin_ct (c.nth k) (limAt k).1 (limAt k).2) en122 (by rfl) zT zF ?_
   rintro ⟨⟩
   refine Jl.qn ?_
   refine Dh.Jq.segV zX ?_ zK
   refine Dh.JH.nil ?_
   refine Dh.JB.pv rfl trivial (fun _ => PR.not rfl) ?_
   refine Dh.JB.nil<|Dh.JL.nil<|Jq.qt ?_
   refine Jc.cond rfl (fun h0 => ?_) (fun h0 => ?_)
   · try replace h0 := zV h0
     replace h0 : inB (c.nth k) (limAt k) = false := by simpa using h0
     refine Jc.goto ?_
     refine Jq.blkG ?_
     exact Jq.nextG () ⟨rfl, fun h => by have := fOk_iff.1 (Cf.ok_f h) k hk; rw [h0] at this; cases this⟩ rfl zF
   try replace h0 := zW h0
   replace h0 : inB (c.nth k) (limAt k) = true := by simpa using h0
   refine Jc.skip ?_
   refine Jq.blkN ?_
   exact Jq.next () (fun j hj => (Nat.lt_succ_iff_lt_or_eq.1 hj).elim (hI j) (fun e => by rw [e]; exact h0)) rfl zF
 · rintro ⟨⟩ D0 hI
   have hfo : c.fOk = true := fOk_iff.2 hI
   refine Jq.blkN ?_
   refine Jq.qt<|Jc.qs<|Jc.qs<|Jc.qr<|Jl.pv (PR.qf rfl tfl32_14) ?_
   refine Jl.pv (PR.load1 rfl tsh23 zH (by rfl)) ?_
   refine Jl.pv (PR.len rfl tsl23) ?_
   refine Jl.pv (PR.gtr _ rfl rfl rfl) ?_
   refine Jl.qn<|Jq.qt ?_
   refine Jc.cond rfl (fun h1 => ?_) (fun h1 => ?_)
   · try replace h1 := zV h1
     refine Jc.goto ?_
     refine Jq.thenG ?_
     exact Jq.jmpAN (⟨(), fun h => by have := Cf.ok_m h; omega⟩, D0) rfl (by repeat (first | exact trivial | refine And.intro rfl ?_)) rfl trivial
   try replace h1 := zW h1
   have hm4 : c.ms.length ≤ 4 := by omega
   refine Jc.skip<|Jq.qt<|Jc.qs<|Jc.qs<|Jc.qr<|Jl.pv (PR.qf rfl tfl32_14) ?_
   refine Jl.pv (PR.load1 rfl tsh23 zH (by rfl)) ?_
   refine Jl.pv (PR.len rfl tsl23) ?_
   refine Jl.pv (PR.qm rfl)<|Jl.qn<|Jq.qt ?_
   refine Jc.block ?_
   refine Jc.loop (σ := { k : Nat // k ≤ c.ms.length ∧ ∀ j, j < k → mOkAt c.ms j = true }) (fun s => [(25, .int .i64 (s.1 : Int)), (24, .int .i64 (c.ms.length : Int)), (23, .slice A c.ms.length cA), (1, .pointer (some ⟨b1, 0, none⟩))]) (fun _ => [.mark D0, .blk b1 32 (c.cs (A, cA))]) (fun _ => [.rd A (i64s c.ms)]) (fun s => c.ms.length - s.1) ⟨0, Nat.zero_le _, fun _ h => by omega⟩ (by repeat (first | exact trivial | refine And.intro rfl ?_)) rfl zF ?_
   rintro ⟨k, hk, hM⟩
   show Jc _ _ _ _ _ _ [(25, Value.int .i64 (k : Int)), (24, .int .i64 (c.ms.length : Int)), (23, .slice A c.ms.length cA), (1, .pointer (some ⟨b1, 0, none⟩))] [.mark D0, .blk b1 32 (c.cs (A, cA))] [.rd A (i64s c.ms)]
   refine Jc.qs<|Jc.qr ?_
   refine Jl.pv (PR.lss _ rfl rfl rfl) ?_
   refine Jl.qn<|Jq.qt<|Jc.qs ?_
   refine Jc.cond rfl (fun h2 => ?_) (fun h2 => ?_)
   · try replace h2 := zV h2
     have hlt : k < c.ms.length := by omega
     refine Jc.skip<|Jq.qt<|Jc.qs ?_
     refine Jc.block ?_
     refine Jc.qs<|Jc.qr<|Jl.pv (PR.qm rfl) ?_
     refine Jl.pv (PR.idx1 k rfl rfl tsl23 zM (by simp) rfl hlt) ?_
     refine Jl.pv (PR.loadR rfl tsh3 zM (getm hlt)) ?_
     refine Jl.pv (PR.qa rfl)<|Jl.pv (PR.qa rfl)<|Jl.qn<|Jq.qt<|Jc.qs<|Jc.qr<|Jl.pv (PR.qm rfl) ?_
     refine Jl.pv (PR.build (by rfl) tze156 tpl156_0_1 (by rfl)) ?_
     refine Jl.call (cwithin_ct c.ms[k] 1 100) en122 (by rfl) zT zF ?_
     rintro ⟨⟩
     refine Jl.pv (PR.not rfl) ?_
     refine Jl.pv (PR.qm rfl) ?_
     refine Jl.bsplit (fun g34 => ?_) (fun g34 => ?_)
     · try replace g34 := zV g34
       replace g34 : inB c.ms[k] (1, 100) = false := by simpa using g34
       refine Jl.qo rfl rfl rfl<|Jl.qo rfl rfl rfl<|Jl.qo rfl rfl rfl ?_
       refine Jl.offUS rfl rfl ?_
       refine Jl.offUS rfl rfl ?_
       refine Jl.offUS rfl rfl ?_
       refine Jl.offUS rfl rfl ?_
       refine Jl.offUS rfl rfl ?_
       refine Jl.offUS rfl rfl ?_
       refine Jl.offUS rfl rfl ?_
       refine Jl.offUS rfl rfl ?_
       refine Jl.qo rfl rfl rfl<|Jl.pv (PR.pickT rfl rfl)<|Jl.qn<|Jq.qt<|Jc.condT rfl ?_
       refine Jc.goto ?_
       refine Jq.blkG ?_
       refine Jq.thenG ?_
       refine Jq.thenG ?_
       refine Jq.blkG ?_
       refine Jq.thenG ?_
       exact Jq.jmpAN (⟨(), fun h => mOkAt_1 hlt g34 (Cf.ok_s h)⟩, D0) rfl (by repeat (first | exact trivial | refine And.intro rfl ?_)) rfl trivial
     try replace g34 := zW g34
     replace g34 : inB c.ms[k] (1, 100) = true := by simpa using g34
     refine Jl.on rfl rfl<|Jl.pv (PR.qm rfl)<|Jl.on rfl rfl ?_
     refine Jl.pv (PR.gtr _ rfl rfl rfl) ?_
     refine Jl.on rfl rfl<|Jl.pv (PR.qm rfl) ?_
     refine Jl.bsplit (fun g37 => ?_) (fun g37 => ?_)
     · try replace g37 := zV g37
       refine Jl.on rfl rfl<|Jl.pv (PR.qf rfl tfl32_14)<|Jl.on rfl rfl ?_
       refine Jl.pv (PR.load1 rfl tsh23 zH (by rfl)) ?_
       refine Jl.on rfl rfl<|Jl.pv (PR.qm rfl)<|Jl.on rfl rfl ?_
       refine Jl.pv (PR.sub ((k - 1 : Nat) : Int) rfl rfl (by rw [w64 (by omega) (by omega)]; omega)) ?_
       refine Jl.on rfl rfl ?_
       refine Jl.pv (PR.idx1 (k - 1) rfl rfl tsl23 zM (by simp) rfl (by omega)) ?_
       refine Jl.on rfl rfl ?_
       refine Jl.pv (PR.loadR rfl tsh3 zM (getm (show k - 1 < c.ms.length by omega))) ?_
       refine Jl.on rfl rfl<|Jl.pv (PR.qm rfl)<|Jl.on rfl rfl ?_
       refine Jl.pv (PR.geq _ rfl rfl rfl) ?_
       refine Jl.on rfl rfl<|Jl.pv (PR.pickT rfl rfl)<|Jl.pv (PR.pickF rfl rfl)<|Jl.qn<|Jq.qt ?_
       refine Jc.cond rfl (fun h3 => ?_) (fun h3 => ?_)
       · try replace h3 := zV h3
         refine Jc.goto ?_
         refine Jq.blkG ?_
         refine Jq.thenG ?_
         refine Jq.thenG ?_
         refine Jq.blkG ?_
         refine Jq.thenG ?_
         exact Jq.jmpAN (⟨(), fun h => mOkAt_2 hlt (by omega) (by omega) (Cf.ok_s h)⟩, D0) rfl (by repeat (first | exact trivial | refine And.intro rfl ?_)) rfl trivial
       try replace h3 := zW h3
       refine Jc.skip ?_
       refine Jq.blkN ?_
       refine Jq.qt<|Jc.qr ?_
       refine Jl.pv (PR.add ((k + 1 : Nat) : Int) rfl rfl (by rw [w64 (by omega) (by omega)]; rfl)) ?_
       refine Jl.pv (PR.qm rfl)<|Jl.qn ?_
       refine Jq.again ⟨k + 1, hlt, fun j hj => (Nat.lt_succ_iff_lt_or_eq.1 hj).elim (hM j) (fun e => by rw [e]; exact mOkAt_3 hlt g34 (by omega))⟩ (by simp only; omega) (by repeat (first | exact trivial | refine And.intro rfl ?_)) rfl zF
     try replace g37 := zW g37
     refine Jl.qo rfl rfl rfl<|Jl.qo rfl rfl rfl<|Jl.qo rfl rfl rfl<|Jl.qo rfl rfl rfl<|Jl.qo rfl rfl rfl<|Jl.qo rfl rfl rfl<|Jl.qo rfl rfl rfl<|Jl.qo rfl rfl rfl<|Jl.on rfl rfl<|Jl.pv (PR.pickF rfl rfl)<|Jl.pv (PR.pickF rfl rfl)<|Jl.qn<|Jq.qt<|Jc.condF rfl<|Jc.skip ?_
     refine Jq.blkN ?_
     refine Jq.qt<|Jc.qr ?_
     refine Jl.pv (PR.add ((k + 1 : Nat) : Int) rfl rfl (by rw [w64 (by omega) (by omega)]; rfl)) ?_
     refine Jl.pv (PR.qm rfl)<|Jl.qn ?_
     refine Jq.again ⟨k + 1, hlt, fun j hj => (Nat.lt_succ_iff_lt_or_eq.1 hj).elim (hM j) (fun e => by rw [e]; exact mOkAt_3 hlt g34 (by omega))⟩ (by simp only; omega) (by repeat (first | exact trivial | refine And.intro rfl ?_)) rfl zF
   try replace h2 := zW h2
   have hms : mOk c.ms = true := mOk_iff.2 fun j hj => hM j (by omega)
   have hd := Cf.in_d hfo
   have hmn := Cf.in_mn hfo
   have hsu := Cf.in_su hfo
   refine Jc.exit ?_
   refine Jq.thenX ?_
   refine Jq.thenX ?_
   refine Jq.blkX ?_
   refine Jq.qt<|Jc.qs<|Jc.qs ?_
   refine Jc.drawn [0, 1, 3, 7, 15, 31, 15, 79, 255, 15, 527, 2047, 4095] ([(11, false), (12, false)], []) [⟨[(0, false), (1, false), (2, false), (3, false), (4, false), (5, false), (6, false), (7, false), (8, false), (9, false)], [], 10⟩] tmx (by kernel_rfl) ?_
   refine Dh.JH.cons<|Dh.JB.pv rfl trivial (fun _ => PR.qf rfl tfl32_0) ?_
   refine Dh.JB.rd [.blk _ _ _] rfl trivial zT (fun _ => PR.load1 rfl tsh3 Has.here (by rfl)) ?_
   refine Dh.JB.pv rfl trivial (fun _ => PR.eql _ rfl rfl rfl) ?_
   refine Dh.JB.pv rfl trivial (fun _ => PR.qm rfl) ?_
   refine Dh.JB.bsplit (fun g52 => ?_) (fun g52 => ?_)
   · try replace g52 := zV g52
     refine Dh.JB.off rfl ⟨_, rfl, .inr rfl⟩<|Dh.JB.off rfl ⟨_, rfl, .inr rfl⟩<|Dh.JB.off rfl ⟨_, rfl, .inr rfl⟩<|Dh.JB.off rfl ⟨_, rfl, .inr rfl⟩<|Dh.JB.off rfl ⟨_, rfl, .inr rfl⟩<|Dh.JB.off rfl ⟨_, rfl, .inr rfl⟩<|Dh.JB.nil<|Dh.JL.nil ?_
     refine Dh.JE.mk rfl (fun _ h => by cases h) (fun C11_10 => ?_)
     refine Jl.qo rfl rfl rfl<|Jl.qn ?_
     refine Dh.Jq.segV zX ?_ zK
     refine Dh.JH.nil ?_
     refine Dh.JB.off rfl ⟨_, rfl, .inr rfl⟩ ?_
     refine Dh.JB.pv rfl trivial (fun _ => PR.pickT rfl rfl) ?_
     refine Dh.JB.nil<|Dh.JL.nil<|Jq.qt<|Jc.condT rfl<|Jc.qs<|Jc.qr<|Jl.pv (PR.qa rfl)<|Jl.qn<|Jq.qt<|Jc.ret<|Jq.thenR ?_
     refine Jq.jmpR ?_
     exact Jq.finM (Ds := [D0]) () (.inl rfl) rfl zT (RetVs.tmp rfl RetVs.nil) (by rw [c.chk_ok (Cf.ok_mk hfo hm4 hms (.inl g52))]; rfl) zT zF
   try replace g52 := zW g52
   refine Dh.JB.pv rfl ⟨_, rfl, rfl⟩ (fun _ => PR.qf rfl tfl32_2) ?_
   refine Dh.JB.rd [.blk _ _ _] rfl ⟨_, rfl, rfl⟩ zT (fun _ => PR.load1 rfl tsh3 Has.here (by rfl)) ?_
   refine Dh.JB.pv rfl ⟨_, rfl, rfl⟩ (fun _ => PR.qf rfl tfl32_0) ?_
   refine Dh.JB.rd [.blk _ _ _] rfl ⟨_, rfl, rfl⟩ zT (fun _ => PR.load1 rfl tsh3 Has.here (by rfl)) ?_
   refine Dh.JB.pv rfl ⟨_, rfl, rfl⟩ (fun _ => PR.add (c.su + c.d) rfl rfl (w64 (by omega) (by omega))) ?_
   refine Dh.JB.rd [.blk _ _ _] rfl ⟨_, rfl, rfl⟩ zT (fun _ => PR.loadW rfl tsh32 Has.here (by rfl)) ?_
   refine Dh.JB.nil<|Dh.JL.nil ?_
   refine Dh.JE.mk rfl (fun _ h => by cases h) (fun C11_10 => ?_)
   refine Jl.on rfl rfl ?_
   refine Jl.call (cfloor_ct c (A, cA) hd hmn) en144 (by rfl) zT zF ?_
   rintro ⟨⟩
   refine Jl.qn ?_
   refine Dh.Jq.segV zX ?_ zK
   refine Dh.JH.nil ?_
   refine Dh.JB.pv rfl ⟨_, rfl, rfl⟩ (fun _ => PR.gtr _ rfl rfl rfl) ?_
   refine Dh.JB.pv rfl trivial (fun _ => PR.pickF rfl rfl) ?_
   refine Dh.JB.nil<|Dh.JL.nil<|Jq.qt ?_
   refine Jc.cond rfl (fun h4 => ?_) (fun h4 => ?_)
   · try replace h4 := zV h4
     refine Jc.qs<|Jc.qr<|Jl.pv (PR.qa rfl)<|Jl.qn<|Jq.qt<|Jc.ret<|Jq.thenR ?_
     refine Jq.jmpR ?_
     exact Jq.finM (Ds := [D0]) () (.inl rfl) rfl zT (RetVs.tmp rfl RetVs.nil) (by rw [c.chk_ok (Cf.ok_mk hfo hm4 hms (.inr h4))]; rfl) zT zF
   try replace h4 := zW h4
   refine Jc.skip<|Jq.qt<|Jc.qs ?_
   refine Jc.label ?_
   refine Jq.qt ?_
   exact Jc.less (env' := []) (Φ' := []) trivial trivial (hfirst0 (⟨(), fun h => (Cf.ok_l h).elim g52 h4⟩, D0))
 rintro e k t D0 hk ⟨rfl, hno⟩
 skip
 refine Jc.goto ?_
 refine Jq.blkG ?_
 refine Jq.thenG ?_
 exact Jq.jmpAN (⟨(), hno⟩, D0) rfl (by repeat (first | exact trivial | refine And.intro rfl ?_)) rfl trivial
end Go.Proofs.YtakbgccddokbbaaGreatDoor
namespace Go.Proofs.YtakbgccddokbbaaGreatDoor
open Go.RowKit
attribute [local irreducible] Res.blk Res.row Fact.rd
theorem iclone_ct (A : Option Addr) (c : Nat) (l : List Int) (hn : l.length ≤ 10000000) :
    Ct Tryz.prog 50 [.slice A l.length c] [] [.rd A (i64s l)] (fun x : AdC => .slice x.1 l.length x.2) (fun x => [.row 3 1 (.slice x.1 l.length x.2) l.length (i64s l)]) (fun _ => []) := by
  cases A with
  | none =>
    refine Ct.of _ Tryz.func50 Tryz.ntmps50 rfl rfl (fun X W => ?_)
    refine Jc.pure (p := l = []) Mem.here (fun X W h => ?_) ?_
    · cases l with
      | nil => rfl
      | cons x l => exact absurd (Fact.rd_none h) (by simp [i64s])
    rintro rfl
    refine Jc.qs<|Jc.qr<|Jl.pv (PR.qa rfl)<|Jl.qn<|Jq.qt<|Jc.qs<|Jc.qs<|Jc.qr<|Jl.pv (PR.qm rfl) ?_
    refine Jl.pv (PR.eqlNil true rfl tsl23 rfl) ?_
    refine Jl.qn<|Jq.qt<|Jc.condT rfl<|Jc.qs<|Jc.qr<|Jl.pv (PR.qa rfl)<|Jl.qn<|Jq.qt<|Jc.ret<|Jq.thenR ?_
    refine Jq.nilRow 3 1 ?_
    exact Jq.fin (none, 0) (.inl rfl) rfl (RetVs.tmp rfl RetVs.nil) rfl zT zF
  | some a =>
    refine Ct.of _ Tryz.func50 Tryz.ntmps50 rfl rfl (fun X W => ?_)
    refine Jc.qs<|Jc.qr<|Jl.pv (PR.qa rfl)<|Jl.qn<|Jq.qt<|Jc.qs<|Jc.qs<|Jc.qr<|Jl.pv (PR.qm rfl) ?_
    refine Jl.pv (PR.eqlNil false rfl tsl23 rfl) ?_
    refine Jl.qn<|Jq.qt<|Jc.condF rfl<|Jc.skip<|Jq.qt<|Jc.qs<|Jc.qr ?_
    refine Jl.buildSlice (by rfl) tsl23 tzr23_0 (by rfl) (by rfl) ?_
    intro b5
    refine Jl.pv (PR.qm rfl) ?_
    refine Jl.toRow 1 0 zS (by rfl) (by rfl) ?_
    refine Jl.append l.length (i64s l) rfl rfl rfl tsl23 tze3 (by rfl) (by decide) tby3 (fun _ _ => zS) zM (by omega) rfl (by simp) (i64s_one _) (by omega) (by decide) ?_
    intro A7 c7
    refine Jl.pv (PR.qa rfl)<|Jl.qn<|Jq.qt<|Jc.ret ?_
    exact Jq.fin (A7, c7) (.inl rfl) rfl (RetVs.tmp rfl RetVs.nil) rfl zT zF
end Go.Proofs.YtakbgccddokbbaaGreatDoor
namespace Go.Proofs.YtakbgccddokbbaaGreatDoor
open Go.RowKit
attribute [local irreducible] Res.blk Res.row Fact.rd
theorem igrow_ct (m : Nat) (hm : m ≤ 1000000) : Ct Tryz.prog 133 [.slice none 0 0, .int .i64 (m : Int)] [] [] (fun x : AdC => .slice x.1 0 x.2) (fun x => [.row 3 1 (.slice x.1 0 x.2) 0 []]) (fun _ => []) := by
 by_cases h0 : m = 0
 · subst h0
   refine Ct.of _ Tryz.func133 Tryz.ntmps133 rfl rfl (fun X W => ?_)
   refine Jc.qs<|Jc.qr<|Jl.pv (PR.qa rfl)<|Jl.qn<|Jq.qt<|Jc.qs<|Jc.qs<|Jc.qr<|Jl.pv (PR.qm rfl) ?_
   refine Jl.pv (PR.lss false rfl rfl rfl) ?_
   refine Jl.qn<|Jq.qt<|Jc.condF rfl<|Jc.skip<|Jq.qt<|Jc.qs<|Jc.qs<|Jc.qr<|Jl.pv (PR.qm rfl)<|Jl.pv (PR.qm rfl) ?_
   refine Jl.pv (PR.cap rfl tsl23) ?_
   refine Jl.pv (PR.qm rfl) ?_
   refine Jl.pv (PR.len rfl tsl23) ?_
   refine Jl.pv (PR.sub 0 rfl rfl rfl) ?_
   refine Jl.pv (PR.sub 0 rfl rfl rfl) ?_
   refine Jl.pv (PR.qa rfl)<|Jl.qn<|Jq.qt<|Jc.qs<|Jc.qr<|Jl.pv (PR.qm rfl) ?_
   refine Jl.pv (PR.gtr false rfl rfl rfl) ?_
   refine Jl.qn<|Jq.qt<|Jc.condF rfl<|Jc.skip<|Jq.qt<|Jc.qs<|Jc.qr<|Jl.pv (PR.qm rfl)<|Jl.pv (PR.qa rfl)<|Jl.qn<|Jq.qt<|Jc.ret ?_
   refine Jq.nilRow 3 1 ?_
   exact Jq.fin (none, 0) (.inl rfl) rfl (RetVs.tmp rfl RetVs.nil) rfl zT zF
 · skip
   refine Ct.of _ Tryz.func133 Tryz.ntmps133 rfl rfl (fun X W => ?_)
   refine Jc.qs<|Jc.qr<|Jl.pv (PR.qa rfl)<|Jl.qn<|Jq.qt<|Jc.qs<|Jc.qs<|Jc.qr<|Jl.pv (PR.qm rfl) ?_
   refine Jl.pv (PR.lss false rfl rfl (by simp)) ?_
   refine Jl.qn<|Jq.qt<|Jc.condF rfl<|Jc.skip<|Jq.qt<|Jc.qs<|Jc.qs<|Jc.qr<|Jl.pv (PR.qm rfl)<|Jl.pv (PR.qm rfl) ?_
   refine Jl.pv (PR.cap rfl tsl23) ?_
   refine Jl.pv (PR.qm rfl) ?_
   refine Jl.pv (PR.len rfl tsl23) ?_
   refine Jl.pv (PR.sub 0 rfl rfl rfl) ?_
   refine Jl.pv (PR.sub (m : Int) rfl rfl (by rw [w64 (by omega) (by omega)]; omega)) ?_
   refine Jl.pv (PR.qa rfl)<|Jl.qn<|Jq.qt<|Jc.qs<|Jc.qr<|Jl.pv (PR.qm rfl) ?_
   refine Jl.pv (PR.gtr true rfl rfl (by simp; omega)) ?_
   refine Jl.qn<|Jq.qt<|Jc.condT rfl<|Jc.qr<|Jl.pv (PR.qm rfl)<|Jl.pv (PR.qm rfl) ?_
   refine Jl.pv (PR.cap rfl tsl23) ?_
   refine Jl.pv (PR.slice0 0 rfl tsl23 rfl (Nat.le_refl _) (Nat.le_refl _)) ?_
   refine Jl.pv (PR.qm rfl) ?_
   refine Jl.growNil  rfl rfl tsl23 Tryz.underlying3 tze3 (by rfl) (by decide) tby3 (by omega) (by omega) (by decide) ?_
   intro A22 c22 hc22
   refine Jl.pv (PR.qm rfl) ?_
   refine Jl.pv (PR.len rfl tsl23) ?_
   refine Jl.pv (PR.slice0 0 rfl tsl23 rfl (Nat.zero_le _) hc22) ?_
   refine Jl.pv (PR.qa rfl)<|Jl.qn<|Jq.qt<|Jc.qs<|Jc.qr<|Jl.pv (PR.qm rfl)<|Jl.pv (PR.qa rfl)<|Jl.qn<|Jq.qt<|Jc.ret ?_
   exact Jq.fin (A22, c22) (.inl rfl) rfl (RetVs.tmp rfl RetVs.nil) rfl zT zF
theorem iconcat_ct (L : Option Addr) (cL : Nat) (zs : List Slc) (hn : zs.length ≤ 1000000) (hs : sumS zs ≤ 1000000) (hl : ∀ z ∈ zs, z.2.2.length = z.2.1) (hone : ∀ z ∈ zs, ∀ u ∈ z.2.2, u.oneCell' = true) :
 Ct Tryz.prog 111 [.slice L zs.length cL] [] [.rd L (slsV zs), .sls zs] (fun x : AdC => .slice x.1 (sumS zs) x.2) (fun x => [.row 3 1 (.slice x.1 (sumS zs) x.2) (sumS zs) (flatS zs)]) (fun _ => []) := by
 refine Ct.of _ Tryz.func111 Tryz.ntmps111 rfl rfl (fun X W => ?_)
 refine Jc.qs<|Jc.qr<|Jl.pv (PR.qa rfl)<|Jl.qn<|Jq.qt<|Jc.qs<|Jc.qr<|Jl.pv (PR.qa rfl)<|Jl.qn<|Jq.qt<|Jc.qs<|Jc.qs<|Jc.qr<|Jl.pv (PR.qm rfl) ?_
 refine Jl.pv (PR.len rfl tsl173) ?_
 refine Jl.pv (PR.qm rfl)<|Jl.qn<|Jq.qt ?_
 refine Jc.block ?_
 refine Jc.loop (σ := { k : Nat // k ≤ zs.length }) (fun s => [(11, .int .i64 (s.1 : Int)), (3, .int .i64 (sumS (zs.take s.1) : Nat)), (10, .int .i64 (zs.length : Int)), (9, .slice L zs.length cL), (0, .slice L zs.length cL)]) (fun _ => []) (fun _ => [.rd L (slsV zs), .sls zs]) (fun s => zs.length - s.1) ⟨0, Nat.zero_le _⟩ (by repeat (first | exact trivial | refine And.intro rfl ?_)) rfl zF ?_
 rintro ⟨k, hk⟩
 show Jc _ _ _ _ _ _ [(11, Value.int .i64 (k : Int)), (3, .int .i64 (sumS (zs.take k) : Nat)), (10, .int .i64 (zs.length : Int)), (9, .slice L zs.length cL), (0, .slice L zs.length cL)] [] [.rd L (slsV zs), .sls zs]
 refine Jc.qs<|Jc.qr ?_
 refine Jl.pv (PR.lss _ rfl rfl rfl) ?_
 refine Jl.qn<|Jq.qt<|Jc.qs ?_
 refine Jc.cond rfl (fun hlt => ?_) (fun hlt => ?_)
 · try replace hlt := zV hlt
   have hlt' : k < zs.length := by omega
   have hst := sumS_take hlt'
   have hle := sumS_le zs (k + 1)
   refine Jc.skip<|Jq.qt<|Jc.qs ?_
   refine Jc.block ?_
   refine Jc.qs<|Jc.qr ?_
   refine Jl.pv (PR.idx1 k rfl rfl tsl173 zM (by simp [slsV]) rfl hlt') ?_
   refine Jl.pv (PR.loadR rfl tsh23 zM (getsls hlt')) ?_
   refine Jl.pv (PR.qa rfl)<|Jl.qn<|Jq.qt<|Jc.qs<|Jc.qr<|Jl.pv (PR.qm rfl)<|Jl.pv (PR.qm rfl) ?_
   refine Jl.pv (PR.len rfl tsl23) ?_
   refine Jl.pv (PR.add ((sumS (zs.take (k + 1)) : Nat) : Int) rfl rfl (by rw [w64 (by omega) (by omega)]; omega)) ?_
   refine Jl.pv (PR.qa rfl)<|Jl.qn<|Jq.qt<|Jc.qs<|Jc.qr<|Jl.pv (PR.qm rfl) ?_
   refine Jl.pv (PR.lss false rfl rfl (by simp)) ?_
   refine Jl.qn<|Jq.qt<|Jc.condF rfl<|Jc.skip ?_
   refine Jq.blkN ?_
   refine Jq.qt<|Jc.qr ?_
   refine Jl.pv (PR.add ((k + 1 : Nat) : Int) rfl rfl (by rw [w64 (by omega) (by omega)]; rfl)) ?_
   refine Jl.pv (PR.qm rfl)<|Jl.qn ?_
   refine Jq.again ⟨k + 1, hlt'⟩ (by simp only; omega) (by repeat (first | exact trivial | refine And.intro rfl ?_)) rfl zF
 try replace hlt := zW hlt
 have hke : zs.take k = zs := List.take_of_length_le (by omega)
 rw [hke]
 refine Jc.exit ?_
 refine Jq.thenX ?_
 refine Jq.thenX ?_
 refine Jq.blkX ?_
 refine Jq.qt<|Jc.qs<|Jc.qr<|Jl.pv (PR.qm rfl) ?_
 refine Jl.call (igrow_ct (sumS zs) hs) en133 (by rfl) zT zF ?_
 rintro ⟨A24, c24⟩
 refine Jl.pv (PR.qa rfl)<|Jl.qn<|Jq.qt<|Jc.qs<|Jc.qs<|Jc.qr<|Jl.pv (PR.qm rfl) ?_
 refine Jl.pv (PR.len rfl tsl173) ?_
 refine Jl.pv (PR.qm rfl)<|Jl.qn<|Jq.qt ?_
 refine Jc.block ?_
 refine Jc.loop (σ := { k : Nat // k ≤ zs.length } × AdC) (fun s => [(27, .int .i64 (s.1.1 : Int)), (6, .slice s.2.1 (sumS (zs.take s.1.1)) s.2.2), (26, .int .i64 (zs.length : Int)), (25, .slice L zs.length cL)]) (fun s => [.row 3 1 (.slice s.2.1 (sumS (zs.take s.1.1)) s.2.2) (sumS (zs.take s.1.1)) (flatS (zs.take s.1.1))]) (fun _ => [.rd L (slsV zs), .sls zs]) (fun s => zs.length - s.1.1) ⟨⟨0, Nat.zero_le _⟩, A24, c24⟩ (by repeat (first | exact trivial | refine And.intro rfl ?_)) rfl zF ?_
 rintro ⟨⟨j, hj⟩, A', c'⟩
 show Jc _ _ _ _ _ _ [(27, Value.int .i64 (j : Int)), (6, .slice A' (sumS (zs.take j)) c'), (26, .int .i64 (zs.length : Int)), (25, .slice L zs.length cL)] [.row 3 1 (.slice A' (sumS (zs.take j)) c') (sumS (zs.take j)) (flatS (zs.take j))] [.rd L (slsV zs), .sls zs]
 refine Jc.qs<|Jc.qr ?_
 refine Jl.pv (PR.lss _ rfl rfl rfl) ?_
 refine Jl.qn<|Jq.qt<|Jc.qs ?_
 refine Jc.cond rfl (fun hlt2 => ?_) (fun hlt2 => ?_)
 · try replace hlt2 := zV hlt2
   have hlt' : j < zs.length := by omega
   have hst := sumS_take hlt'
   have hle := sumS_le zs (j + 1)
   refine Jc.slAt j hlt' zM ?_
   refine Jc.skip<|Jq.qt<|Jc.qs ?_
   refine Jc.block ?_
   refine Jc.qs<|Jc.qr ?_
   refine Jl.pv (PR.idx1 j rfl rfl tsl173 zM (by simp [slsV]) rfl hlt') ?_
   refine Jl.pv (PR.loadR rfl tsh23 zM (getsls hlt')) ?_
   refine Jl.pv (PR.qa rfl)<|Jl.qn<|Jq.qt<|Jc.qr<|Jl.pv (PR.qm rfl)<|Jl.pv (PR.qm rfl) ?_
   refine Jl.append (sumS (zs.take (j + 1))) (flatS (zs.take (j + 1))) rfl rfl rfl tsl23 tze3 (by rfl) (by decide) tby3 (fun _ _ => zS) zM (by omega) (by rw [flatS_take hlt']) (by rw [Nat.mul_one]; exact hl _ (List.getElem_mem _)) (hone _ (List.getElem_mem _)) (by omega) (by decide) ?_
   intro A33 c33
   refine Jl.pv (PR.qa rfl)<|Jl.qn ?_
   refine Jq.blkN ?_
   refine Jq.qt<|Jc.qr ?_
   refine Jl.pv (PR.add ((j + 1 : Nat) : Int) rfl rfl (by rw [w64 (by omega) (by omega)]; rfl)) ?_
   refine Jl.pv (PR.qm rfl)<|Jl.qn ?_
   refine Jq.again ⟨⟨j + 1, hlt'⟩, A33, c33⟩ (by simp only; omega) (by repeat (first | exact trivial | refine And.intro rfl ?_)) rfl zF
 try replace hlt2 := zW hlt2
 have hke2 : zs.take j = zs := List.take_of_length_le (by omega)
 rw [hke2]
 refine Jc.exit ?_
 refine Jq.thenX ?_
 refine Jq.thenX ?_
 refine Jq.blkX ?_
 refine Jq.qt<|Jc.qs<|Jc.qr<|Jl.pv (PR.qm rfl)<|Jl.pv (PR.qa rfl)<|Jl.qn<|Jq.qt<|Jc.ret ?_
 exact Jq.fin (A', c') (.inl rfl) rfl (RetVs.tmp rfl RetVs.nil) rfl zT zF
theorem iconcat_at {L : Option Addr} {cL m : Nat} {l : List Int} (zs : List Slc) (hn : zs.length ≤ 1000000) (hs : sumS zs ≤ 1000000) (hl : ∀ z ∈ zs, z.2.2.length = z.2.1) (h1 : ∀ z ∈ zs, ∀ u ∈ z.2.2, u.oneCell' = true) (hz : zs.length = m) (hf : flatS zs = i64s l) (hm : sumS zs = l.length) :
 Ct Tryz.prog 111 [.slice L m cL] [] [.rd L (slsV zs), .sls zs] (fun x : AdC => .slice x.1 l.length x.2) (fun x => [.row 3 1 (.slice x.1 l.length x.2) l.length (i64s l)]) (fun _ => []) := by
 subst hz
 have h0 := iconcat_ct L cL zs hn hs hl h1
 rw [hf, hm] at h0
 exact h0
end Go.Proofs.YtakbgccddokbbaaGreatDoor
namespace Go.Proofs.YtakbgccddokbbaaGreatDoor
open Go.RowKit
attribute [local irreducible] Res.blk Res.row Fact.rd
theorem cof_ct (A : Option Addr) (cA : Nat) (l : List Int) (hn : l.length ≤ 1000) (hc : l.length ≤ cA) : Ct Tryz.prog 104 [.slice A l.length cA] [] [.rd A (i64s l), .lim] (fun x : AdC => .tuple #[(cfOf l).v x, .int .i64 (cfE l)]) (fun x => [(cfOf l).row x]) (fun _ => []) := by
 refine Ct.of _ Tryz.func104 Tryz.ntmps104 rfl rfl (fun X W => ?_)
 refine Jc.qs<|Jc.qr ?_
 refine Jl.box rfl (by rfl) ?_
 intro b1
 refine Jl.alloc tze32 ?_
 intro b2
 refine Jl.pv (PR.qa rfl)<|Jl.qn<|Jq.qt<|Jc.qs<|Jc.qr<|Jl.pv (PR.qa rfl)<|Jl.qn<|Jq.qt<|Jc.qs<|Jc.qs<|Jc.qr ?_
 refine Jl.pv (PR.load1 rfl tsh23 zH (by rfl)) ?_
 refine Jl.pv (PR.len rfl tsl23) ?_
 refine Jl.pv (PR.qm rfl) ?_
 refine Jl.pv (PR.leq _ rfl rfl rfl) ?_
 refine Jl.pv (PR.qm rfl) ?_
 refine Jl.bsplit (fun g11 => ?_) (fun g11 => ?_)
 · try replace g11 := zV g11
   have hno : ¬ rawOk l = true := fun h => by simp only [rawOk, Bool.and_eq_true, decide_eq_true_eq] at h; omega
   refine Jl.qo rfl rfl rfl<|Jl.qo rfl rfl rfl<|Jl.qo rfl rfl rfl<|Jl.qo rfl rfl rfl<|Jl.qo rfl rfl rfl<|Jl.qo rfl rfl rfl<|Jl.qo rfl rfl rfl<|Jl.pv (PR.pickT rfl rfl)<|Jl.qn<|Jq.qt<|Jc.condT rfl<|Jc.qs<|Jc.qr ?_
   refine Jl.pv (PR.loadW rfl tsh32 zH (by rfl)) ?_
   refine Jl.storeW rfl tsh32 rfl (by rfl) (by simp [Value.oneCell']) zS (by rfl) ?_
   refine Jl.pv (PR.qa rfl)<|Jl.qn<|Jq.qt<|Jc.ret<|Jq.thenR ?_
   rw [cfOf, cfE, if_neg hno, if_neg hno]
   refine Jq.nilRow 3 1 ?_
   exact Jq.fin (none, 0) (.inl rfl) rfl (RetVs.cellA rfl zH tsh32 (by rfl) (RetVs.tmp rfl RetVs.nil)) rfl zT zF
 try replace g11 := zW g11
 have hl : 13 < l.length := by omega
 refine Jl.on rfl rfl ?_
 refine Jl.pv (PR.load1 rfl tsh23 zH (by rfl)) ?_
 refine Jl.on rfl rfl<|Jl.pv (PR.qm rfl)<|Jl.on rfl rfl ?_
 refine Jl.pv (PR.idx1 13 rfl rfl tsl23 zM (by simp) rfl hl) ?_
 refine Jl.on rfl rfl ?_
 refine Jl.pv (PR.loadR rfl tsh3 zM (getd hl)) ?_
 refine Jl.on rfl rfl ?_
 refine Jl.pv (PR.build (by rfl) tze156 tpl156_0_1 (by rfl)) ?_
 refine Jl.on rfl rfl ?_
 refine Jl.call (cwithin_ct (l.getD 13 0) 0 1) en122 (by rfl) zT zF ?_
 rintro ⟨⟩
 refine Jl.on rfl rfl ?_
 refine Jl.pv (PR.not rfl) ?_
 refine Jl.pv (PR.pickF rfl rfl)<|Jl.qn<|Jq.qt ?_
 refine Jc.cond rfl (fun h0 => ?_) (fun h0 => ?_)
 · try replace h0 := zV h0
   replace h0 : inB (l.getD 13 0) (0, 1) = false := by simpa using h0
   have hno : ¬ rawOk l = true := fun h => by simp only [rawOk, Bool.and_eq_true] at h; rw [h0] at h; exact Bool.noConfusion h.2.1
   refine Jc.qs<|Jc.qr ?_
   refine Jl.pv (PR.loadW rfl tsh32 zH (by rfl)) ?_
   refine Jl.storeW rfl tsh32 rfl (by rfl) (by simp [Value.oneCell']) zS (by rfl) ?_
   refine Jl.pv (PR.qa rfl)<|Jl.qn<|Jq.qt<|Jc.ret<|Jq.thenR ?_
   rw [cfOf, cfE, if_neg hno, if_neg hno]
   refine Jq.nilRow 3 1 ?_
   exact Jq.fin (none, 0) (.inl rfl) rfl (RetVs.cellA rfl zH tsh32 (by rfl) (RetVs.tmp rfl RetVs.nil)) rfl zT zF
 try replace h0 := zW h0
 replace h0 : inB (l.getD 13 0) (0, 1) = true := by simpa using h0
 refine Jc.skip<|Jq.qt<|Jc.qs<|Jc.qs<|Jc.qr ?_
 refine Jl.call (fields_ct b2) en123 (by rfl) zT zF ?_
 rintro b21
 refine Jl.qn<|Jq.qt ?_
 refine Jc.block ?_
 refine Jc.range (σ := Nat) (τ := Empty) (Inv := fun k s => s = k) (Rs := fun s => [.blk b2 32 (ofCs l s), .blk b1 23 [.slice A l.length cA]]) (Φs := fun _ => [.rd A (i64s l), .lim]) (InvX := fun _ _ _ => False) (RsX := fun _ => []) (ΦsX := fun _ => []) (vals := cfvals b2) rfl en143 (fields1_it b2 b21) zT zF (fun _ => rfl) rfl 0 rfl rfl zF ?_ ?_ ?_
 · rintro k j hk hj m C1
   obtain rfl : k = j := hj.symm
   show Jc _ _ _ _ _ _ (psetL [22, 23] [.int .i64 (k : Int), .pointer (some ⟨b2, k, none⟩)] _) [.blk b2 32 (ofCs l k), .blk b1 23 [.slice A l.length cA]] [.rd A (i64s l), .lim]
   refine Jc.qs<|Jc.qr<|Jl.pv (PR.qa rfl)<|Jl.qn<|Jq.qt<|Jc.qr<|Jl.pv (PR.qa rfl)<|Jl.qn ?_
   refine Jq.assigned (fun C2 => ?_)
   refine Jc.block ?_
   refine Jc.qr<|Jl.pv (PR.qm rfl) ?_
   refine Jl.pv (PR.load1 rfl tsh23 zH (by rfl)) ?_
   refine Jl.pv (PR.qm rfl) ?_
   refine Jl.pv (PR.idx1 k rfl rfl tsl23 zM (by simp) rfl (by omega)) ?_
   refine Jl.pv (PR.loadR rfl tsh3 zM (getd (show k < l.length by omega))) ?_
   refine Jl.pv (PR.nilCheck rfl) ?_
   refine Jl.store1 rfl tsh3 rfl (by rfl) zS (ofCs_put l hk) ?_
   refine Jl.qn ?_
   refine Jq.blkN ?_
   exact Jq.next (k + 1) rfl rfl zF
 · rintro j D0 hj
   obtain rfl : j = 13 := hj
   refine Jq.blkN ?_
   refine Jq.qt<|Jc.qs ?_
   refine Jc.drawn [0, 0, 3, 7, 15, 0, 0, 64, 224, 480, 1023, 2047, 4095, 8191] ([], []) [⟨[(0, false), (1, false), (2, false), (3, false), (4, false), (5, false), (6, false), (7, false), (8, false)], [], 9⟩, ⟨[(10, false)], [], 11⟩, ⟨[(12, false)], [], 13⟩] tmx (by kernel_rfl) ?_
   refine Dh.JH.cons ?_
   refine Dh.JB.rd [.blk _ _ _] rfl trivial zT (fun _ => PR.load1 rfl tsh23 Has.here (by rfl)) ?_
   refine Dh.JB.pv rfl trivial (fun _ => PR.qm rfl) ?_
   refine Dh.JB.pv rfl trivial (fun _ => PR.idx1 13 rfl rfl tsl23 zM (by simp) rfl hl) ?_
   refine Dh.JB.pv rfl trivial (fun _ => PR.loadR rfl tsh3 zM (getd hl)) ?_
   refine Dh.JB.pv rfl trivial (fun _ => PR.eql _ rfl rfl rfl) ?_
   refine Dh.JB.rd [.blk _ _ _] rfl trivial zT (fun _ => PR.load1 rfl tsh23 Has.here (by rfl)) ?_
   refine Dh.JB.pv rfl trivial (fun _ => PR.qm rfl) ?_
   refine Dh.JB.pv rfl trivial (fun _ => PR.add ((14 : Nat) : Int) rfl rfl rfl) ?_
   refine Dh.JB.slice 14 l.length (l.drop 14).length (i64s (l.drop 14)) rfl trivial rfl tsl23 rfl rfl zM (by omega) (Nat.le_refl _) hc (by simp) (by simp [i64s, List.map_drop, List.take_of_length_le]) ?_
   intro A38 c38 hc38
   clear hc38
   refine Dh.JB.nil<|Dh.JL.nil ?_
   refine Dh.JE.mk rfl (fun _ h => by cases h) (fun C8_9 => ?_)
   refine Jl.call (iclone_ct A38 c38 (l.drop 14) (by simp; omega)) en50 (by rfl) zT zF ?_
   rintro ⟨A39, c39⟩
   refine Jl.qn ?_
   refine Dh.Jq.segV zX ?_ zK
   refine Dh.JH.cons<|Dh.JB.pv rfl trivial (fun _ => PR.qf rfl tfl32_13)<|Dh.JB.nil<|Dh.JL.nil ?_
   refine Dh.JE.mk rfl (fun _ h => by cases h) (fun C8_11 => ?_)
   refine Jl.store1 rfl tsh4 rfl (by rfl) zS (by rfl) ?_
   refine Jl.qn ?_
   refine Dh.Jq.segN zX ?_ zK
   refine Dh.JH.cons<|Dh.JB.pv rfl trivial (fun _ => PR.qf rfl tfl32_14)<|Dh.JB.nil<|Dh.JL.nil ?_
   refine Dh.JE.mk rfl (fun _ h => by cases h) (fun C8_13 => ?_)
   refine Jl.store1 rfl tsh23 rfl (by rfl) zS (by rfl) ?_
   refine Jl.qn ?_
   refine Dh.Jq.segN zX ?_ zK
   refine Dh.JH.nil ?_
   refine Dh.JB.nil<|Dh.JL.nil<|Jq.qt<|Jc.qs<|Jc.qs<|Jc.qr ?_
   refine Jl.pv (PR.loadW rfl tsh32 zH (by rfl)) ?_
   refine Jl.calll (fs := []) (cs := []) (ccheck_ct (cfRaw l) (A39, c39) (by simp [cfRaw]; omega)) en124 rfl (by rfl) (by rfl) zT (ls := [(cfRaw l).row (A39, c39)]) zT zL zF ?_
   rintro ⟨⟩
   refine Jl.pv (PR.qa rfl)<|Jl.qn<|Jq.qt<|Jc.qs<|Jc.qr<|Jl.pv (PR.qm rfl) ?_
   refine Jl.pv (PR.neq _ rfl rfl rfl) ?_
   refine Jl.qn<|Jq.qt ?_
   refine Jc.cond rfl (fun h1 => ?_) (fun h1 => ?_)
   · try replace h1 := zV h1
     have hno : ¬ rawOk l = true := fun h => by simp only [rawOk, Bool.and_eq_true] at h; exact h1 (Cf.chk_ok h.2.2)
     refine Jc.qs<|Jc.qr ?_
     refine Jl.pv (PR.build (by rfl) tze32 tpl32_ (by rfl)) ?_
     refine Jl.pv (PR.qm rfl) ?_
     refine Jl.storeW rfl tsh32 rfl (by rfl) (by simp [Value.oneCell']) zS (by rfl) ?_
     refine Jl.pv (PR.qa rfl)<|Jl.qn<|Jq.qt<|Jc.ret<|Jq.thenR ?_
     rw [cfOf, cfE, if_neg hno, if_neg hno]
     refine Jq.nilRow 3 1 ?_
     exact Jq.finM (Ds := [D0]) (none, 0) (.inl rfl) rfl zT (RetVs.cellA rfl zH tsh32 (by rfl) (RetVs.tmp rfl RetVs.nil)) (by rw [Cf.chk_no (fun h => h1 (Cf.chk_ok h))]; rfl) zT zF
   try replace h1 := zW h1
   have hok : (cfRaw l).ok = true := by
    by_cases h : (cfRaw l).ok = true
    · exact h
    · exact absurd (Cf.chk_no h) (by omega)
   have hraw : rawOk l = true := by simp only [rawOk, Bool.and_eq_true, decide_eq_true_eq]; exact ⟨hl, h0, hok⟩
   refine Jc.skip<|Jq.qt<|Jc.qs<|Jc.qr ?_
   refine Jl.pv (PR.loadW rfl tsh32 zH (by rfl)) ?_
   refine Jl.storeW rfl tsh32 rfl (by rfl) (by simp [Value.oneCell']) zS (by rfl) ?_
   refine Jl.pv (PR.qa rfl)<|Jl.qn<|Jq.qt<|Jc.ret ?_
   rw [cfOf, cfE, if_pos hraw, if_pos hraw]
   exact Jq.finM (Ds := [D0]) (A39, c39) (.inl rfl) rfl zT (RetVs.cellA rfl zH tsh32 (by rfl) (RetVs.tmp rfl RetVs.nil)) rfl zT zF
 exact fun _ _ t => t.elim
end Go.Proofs.YtakbgccddokbbaaGreatDoor
namespace Go.Proofs.YtakbgccddokbbaaGreatDoor
open Go.RowKit
attribute [local irreducible] Res.blk Res.row Fact.rd
end Go.Proofs.YtakbgccddokbbaaGreatDoor
namespace Go.Proofs.YtakbgccddokbbaaGreatDoor
open Go.RowKit
attribute [local irreducible] Res.blk Res.row Fact.rd
theorem sameC_no {a b : Cf} (h : a ≠ b) : sameC a b = false := Bool.eq_false_iff.2 fun h1 => h (sameC_iff.1 h1)
theorem cfsame_ct (a b : Cf) (x y : AdC) (hn : a.ms.length ≤ 1000000) : Ct Tryz.prog 31 [a.v x, b.v y] [] [.rd x.1 (i64s a.ms), .rd y.1 (i64s b.ms)] (fun _ : Unit => .bool (sameC a b)) (fun _ => []) (fun _ => []) := by
 obtain ⟨A, cA⟩ := x
 obtain ⟨B, cB⟩ := y
 refine Ct.of _ Tryz.func31 Tryz.ntmps31 rfl rfl (fun X W => ?_)
 refine Jc.qs<|Jc.qr ?_
 refine Jl.box rfl (by rfl) ?_
 intro b2
 refine Jl.box rfl (by rfl) ?_
 intro b3
 refine Jl.pv (PR.qa rfl)<|Jl.qn<|Jq.qt<|Jc.qs<|Jc.qs<|Jc.qr<|Jl.pv (PR.qf rfl tfl32_14) ?_
 refine Jl.pv (PR.load1 rfl tsh23 zH (by rfl)) ?_
 refine Jl.pv (PR.len rfl tsl23) ?_
 refine Jl.pv (PR.qf rfl tfl32_14) ?_
 refine Jl.pv (PR.load1 rfl tsh23 zH (by rfl)) ?_
 refine Jl.pv (PR.len rfl tsl23) ?_
 refine Jl.pv (PR.neq _ rfl rfl rfl) ?_
 refine Jl.pv (PR.qm rfl) ?_
 refine Jl.bsplit (fun g15 => ?_) (fun g15 => ?_)
 · try replace g15 := zV g15
   refine Jl.qo rfl rfl rfl<|Jl.qo rfl rfl rfl<|Jl.qo rfl rfl rfl<|Jl.qo rfl rfl rfl<|Jl.qo rfl rfl rfl<|Jl.pv (PR.pickT rfl rfl)<|Jl.qn<|Jq.qt<|Jc.condT rfl<|Jc.qs<|Jc.qr<|Jl.pv (PR.qa rfl)<|Jl.qn<|Jq.qt<|Jc.ret<|Jq.thenR ?_
   exact Jq.fin () (.inl rfl) rfl (RetVs.tmp rfl RetVs.nil) (by rw [sameC_no (fun h => g15 (by rw [h]))]; rfl) zT zF
 try replace g15 := zW g15
 refine Jl.on rfl rfl<|Jl.pv (PR.qf rfl tfl32_13)<|Jl.on rfl rfl ?_
 refine Jl.pv (PR.load1 rfl tsh4 zH (by rfl)) ?_
 refine Jl.on rfl rfl<|Jl.pv (PR.qf rfl tfl32_13)<|Jl.on rfl rfl ?_
 refine Jl.pv (PR.load1 rfl tsh4 zH (by rfl)) ?_
 refine Jl.on rfl rfl ?_
 refine Jl.pv (PR.bneq _ Tryz.underlying4 rfl rfl rfl) ?_
 refine Jl.pv (PR.pickF rfl rfl)<|Jl.qn<|Jq.qt ?_
 refine Jc.cond rfl (fun h0 => ?_) (fun h0 => ?_)
 · try replace h0 := zV h0
   refine Jc.qs<|Jc.qr<|Jl.pv (PR.qa rfl)<|Jl.qn<|Jq.qt<|Jc.ret<|Jq.thenR ?_
   exact Jq.fin () (.inl rfl) rfl (RetVs.tmp rfl RetVs.nil) (by rw [sameC_no (fun h => by rw [h] at h0; simp at h0)]; rfl) zT zF
 try replace h0 := zW h0
 have hll : a.ms.length = b.ms.length := by omega
 have hsk : a.sk = b.sk := by simpa using h0
 refine Jc.skip<|Jq.qt<|Jc.qs<|Jc.qs<|Jc.qr<|Jl.pv (PR.qa rfl)<|Jl.qn<|Jq.qt ?_
 refine Jc.block ?_
 refine Jc.loop (σ := { k : Nat // k ≤ a.ms.length ∧ ∀ j, j < k → a.ms[j]? = b.ms[j]? }) (fun s => [(5, .int .i64 (s.1 : Int)), (2, .pointer (some ⟨b2, 0, none⟩)), (3, .pointer (some ⟨b3, 0, none⟩))]) (fun _ => [.blk b3 32 (b.cs (B, cB)), .blk b2 32 (a.cs (A, cA))]) (fun _ => [.rd A (i64s a.ms), .rd B (i64s b.ms)]) (fun s => a.ms.length - s.1) ⟨0, Nat.zero_le _, fun _ h => by omega⟩ (by repeat (first | exact trivial | refine And.intro rfl ?_)) rfl zF ?_
 rintro ⟨k, hk, hq⟩
 show Jc _ _ _ _ _ _ [(5, Value.int .i64 (k : Int)), (2, .pointer (some ⟨b2, 0, none⟩)), (3, .pointer (some ⟨b3, 0, none⟩))] [.blk b3 32 (b.cs (B, cB)), .blk b2 32 (a.cs (A, cA))] [.rd A (i64s a.ms), .rd B (i64s b.ms)]
 refine Jc.qs<|Jc.qs<|Jc.qr<|Jl.pv (PR.qm rfl)<|Jl.pv (PR.qf rfl tfl32_14) ?_
 refine Jl.pv (PR.load1 rfl tsh23 zH (by rfl)) ?_
 refine Jl.pv (PR.len rfl tsl23) ?_
 refine Jl.pv (PR.lss _ rfl rfl rfl) ?_
 refine Jl.qn<|Jq.qt ?_
 refine Jc.cond rfl (fun hlt => ?_) (fun hlt => ?_)
 · try replace hlt := zV hlt
   have hlt' : k < a.ms.length := by omega
   have hlt2 : k < b.ms.length := by omega
   refine Jc.skip<|Jq.qt<|Jc.qs ?_
   refine Jc.block ?_
   refine Jc.qs ?_
   refine Jc.drawn [0, 1, 0, 7, 15, 0, 32, 0, 224, 480, 1023] ([(0, false), (1, false), (2, false), (3, false), (4, false), (5, false), (6, false), (7, false), (8, false), (9, false), (10, false)], []) [] tmx (by kernel_rfl) ?_
   refine Dh.JH.nil ?_
   refine Dh.JB.pv rfl trivial (fun _ => PR.qf rfl tfl32_14) ?_
   refine Dh.JB.rd [.blk _ _ _] rfl trivial zT (fun _ => PR.load1 rfl tsh23 Has.here (by rfl)) ?_
   refine Dh.JB.pv rfl trivial (fun _ => PR.qm rfl) ?_
   refine Dh.JB.pv rfl trivial (fun _ => PR.idx1 k rfl rfl tsl23 zM (by simp) rfl hlt') ?_
   refine Dh.JB.pv rfl trivial (fun _ => PR.loadR rfl tsh3 zM (getm hlt')) ?_
   refine Dh.JB.pv rfl trivial (fun _ => PR.qf rfl tfl32_14) ?_
   refine Dh.JB.rd [.blk _ _ _] rfl trivial zT (fun _ => PR.load1 rfl tsh23 Has.here (by rfl)) ?_
   refine Dh.JB.pv rfl trivial (fun _ => PR.qm rfl) ?_
   refine Dh.JB.pv rfl trivial (fun _ => PR.idx1 k rfl rfl tsl23 zM (by simp) rfl hlt2) ?_
   refine Dh.JB.pv rfl trivial (fun _ => PR.loadR rfl tsh3 zM (getm hlt2)) ?_
   refine Dh.JB.pv rfl trivial (fun _ => PR.neq _ rfl rfl rfl) ?_
   refine Dh.JB.nil<|Dh.JL.nil<|Jq.qt ?_
   refine Jc.cond rfl (fun h2 => ?_) (fun h2 => ?_)
   · try replace h2 := zV h2
     refine Jc.qs<|Jc.qr<|Jl.pv (PR.qa rfl)<|Jl.qn<|Jq.qt<|Jc.ret ?_
     refine Jq.blkR ?_
     refine Jq.thenR<|Jq.thenR ?_
     refine Jq.blkR ?_
     refine Jq.thenR ?_
     exact Jq.fin () (.inl rfl) rfl (RetVs.tmp rfl RetVs.nil) (by rw [sameC_no (fun h => h2 (by subst h; rfl))]; rfl) zT zF
   try replace h2 := zW h2
   refine Jc.skip ?_
   refine Jq.blkN ?_
   refine Jq.qt<|Jc.qr<|Jl.pv (PR.qm rfl) ?_
   refine Jl.pv (PR.add ((k + 1 : Nat) : Int) rfl rfl (by rw [w64 (by omega) (by omega)]; rfl)) ?_
   refine Jl.pv (PR.qa rfl)<|Jl.qn ?_
   refine Jq.again ⟨k + 1, hlt', fun j h => ?_⟩ (by simp only; omega) (by repeat (first | exact trivial | refine And.intro rfl ?_)) rfl zF
   rcases Nat.lt_or_ge j k with h1 | h1
   · exact hq j h1
   · obtain rfl : j = k := by omega
     rw [List.getElem?_eq_getElem hlt', List.getElem?_eq_getElem hlt2, Decidable.of_not_not h2]
 try replace hlt := zW hlt
 have hms : a.ms = b.ms := List.ext_getElem? fun j => by
  rcases Nat.lt_or_ge j k with h1 | h1
  · exact hq j h1
  · rw [List.getElem?_eq_none (by omega), List.getElem?_eq_none (by omega)]
 refine Jc.exit ?_
 refine Jq.thenX ?_
 refine Jq.thenX ?_
 refine Jq.blkX ?_
 refine Jq.qt<|Jc.qs<|Jc.qr<|Jl.pv (PR.qf rfl tfl32_0) ?_
 refine Jl.pv (PR.load1 rfl tsh3 zH (by rfl)) ?_
 refine Jl.pv (PR.qf rfl tfl32_1) ?_
 refine Jl.pv (PR.load1 rfl tsh3 zH (by rfl)) ?_
 refine Jl.pv (PR.qf rfl tfl32_2) ?_
 refine Jl.pv (PR.load1 rfl tsh3 zH (by rfl)) ?_
 refine Jl.pv (PR.qf rfl tfl32_3) ?_
 refine Jl.pv (PR.load1 rfl tsh3 zH (by rfl)) ?_
 refine Jl.pv (PR.qf rfl tfl32_4) ?_
 refine Jl.pv (PR.load1 rfl tsh3 zH (by rfl)) ?_
 refine Jl.pv (PR.qf rfl tfl32_5) ?_
 refine Jl.pv (PR.load1 rfl tsh3 zH (by rfl)) ?_
 refine Jl.pv (PR.qf rfl tfl32_6) ?_
 refine Jl.pv (PR.load1 rfl tsh3 zH (by rfl)) ?_
 refine Jl.pv (PR.qf rfl tfl32_7) ?_
 refine Jl.pv (PR.load1 rfl tsh3 zH (by rfl)) ?_
 refine Jl.pv (PR.qf rfl tfl32_8) ?_
 refine Jl.pv (PR.load1 rfl tsh3 zH (by rfl)) ?_
 refine Jl.pv (PR.qf rfl tfl32_9) ?_
 refine Jl.pv (PR.load1 rfl tsh3 zH (by rfl)) ?_
 refine Jl.pv (PR.qf rfl tfl32_10) ?_
 refine Jl.pv (PR.load1 rfl tsh3 zH (by rfl)) ?_
 refine Jl.pv (PR.qf rfl tfl32_11) ?_
 refine Jl.pv (PR.load1 rfl tsh3 zH (by rfl)) ?_
 refine Jl.pv (PR.qf rfl tfl32_12) ?_
 refine Jl.pv (PR.load1 rfl tsh3 zH (by rfl)) ?_
 refine Jl.pv (PR.build (by rfl) tze102 tpl102_0_1_2_3_4_5_6_7_8_9_10_11_12 (by rfl)) ?_
 refine Jl.alloc tze102 ?_
 intro b6
 refine Jl.storeW rfl tsh102 rfl (by rfl) (by simp [Value.oneCell']) zS (by rfl) ?_
 refine Jl.qn<|Jq.qt<|Jc.qs<|Jc.qr<|Jl.pv (PR.qf rfl tfl32_0) ?_
 refine Jl.pv (PR.load1 rfl tsh3 zH (by rfl)) ?_
 refine Jl.pv (PR.qf rfl tfl32_1) ?_
 refine Jl.pv (PR.load1 rfl tsh3 zH (by rfl)) ?_
 refine Jl.pv (PR.qf rfl tfl32_2) ?_
 refine Jl.pv (PR.load1 rfl tsh3 zH (by rfl)) ?_
 refine Jl.pv (PR.qf rfl tfl32_3) ?_
 refine Jl.pv (PR.load1 rfl tsh3 zH (by rfl)) ?_
 refine Jl.pv (PR.qf rfl tfl32_4) ?_
 refine Jl.pv (PR.load1 rfl tsh3 zH (by rfl)) ?_
 refine Jl.pv (PR.qf rfl tfl32_5) ?_
 refine Jl.pv (PR.load1 rfl tsh3 zH (by rfl)) ?_
 refine Jl.pv (PR.qf rfl tfl32_6) ?_
 refine Jl.pv (PR.load1 rfl tsh3 zH (by rfl)) ?_
 refine Jl.pv (PR.qf rfl tfl32_7) ?_
 refine Jl.pv (PR.load1 rfl tsh3 zH (by rfl)) ?_
 refine Jl.pv (PR.qf rfl tfl32_8) ?_
 refine Jl.pv (PR.load1 rfl tsh3 zH (by rfl)) ?_
 refine Jl.pv (PR.qf rfl tfl32_9) ?_
 refine Jl.pv (PR.load1 rfl tsh3 zH (by rfl)) ?_
 refine Jl.pv (PR.qf rfl tfl32_10) ?_
 refine Jl.pv (PR.load1 rfl tsh3 zH (by rfl)) ?_
 refine Jl.pv (PR.qf rfl tfl32_11) ?_
 refine Jl.pv (PR.load1 rfl tsh3 zH (by rfl)) ?_
 refine Jl.pv (PR.qf rfl tfl32_12) ?_
 refine Jl.pv (PR.load1 rfl tsh3 zH (by rfl)) ?_
 refine Jl.pv (PR.build (by rfl) tze102 tpl102_0_1_2_3_4_5_6_7_8_9_10_11_12 (by rfl)) ?_
 refine Jl.alloc tze102 ?_
 intro b7
 refine Jl.storeW rfl tsh102 rfl (by rfl) (by simp [Value.oneCell']) zS (by rfl) ?_
 refine Jl.qn<|Jq.qt<|Jc.qs<|Jc.qr ?_
 refine Jl.pv (PR.loadW rfl tsh102 zH (by rfl)) ?_
 refine Jl.pv (PR.loadW rfl tsh102 zH (by rfl)) ?_
 refine Jl.pv (PR.eqlA (sameC a b) rfl rfl teq102 (by rfl) ⟨fun h => by rw [sameC_iff.1 h], fun h => sameC_iff.2 (nums_inj h hsk hms)⟩) ?_
 refine Jl.pv (PR.qa rfl)<|Jl.qn<|Jq.qt<|Jc.ret ?_
 exact Jq.fin () (.inl rfl) rfl (RetVs.tmp rfl RetVs.nil) rfl zT zF
end Go.Proofs.YtakbgccddokbbaaGreatDoor
namespace Go.Proofs.YtakbgccddokbbaaGreatDoor
open Go.RowKit
attribute [local irreducible] Res.blk Res.row Fact.rd
end Go.Proofs.YtakbgccddokbbaaGreatDoor
namespace Go.Proofs.YtakbgccddokbbaaGreatDoor
open Go.RowKit
attribute [local irreducible] Res.blk Res.row Fact.rd
theorem index_ct (q : Int → Bool) (A : Option Addr) (c : Nat) (l : List Int) (hn : l.length ≤ 1000000) (g : FuncId) (hg : ∀ n, Ct Tryz.prog g [.int .i64 n] [] [] (fun _ : Unit => .bool (q n)) (fun _ => []) (fun _ => [])) (hen : ∀ args w, (callFunc g args).run Tryz.prog w = .ok (.enter g args) w) :
 Ct Tryz.prog 103 [.slice A l.length c, .func (.func g) #[] #[]] [] [.rd A (l.map (Value.int .i64))] (fun _ : Unit => .int .i64 (if l.any q then (l.findIdx q : Int) else -1)) (fun _ => []) (fun _ => []) := by
 refine Ct.of _ Tryz.func103 Tryz.ntmps103 rfl rfl (fun X W => ?_)
 refine Jc.qs<|Jc.qr<|Jl.pv (PR.qa rfl)<|Jl.qn<|Jq.qt<|Jc.qs<|Jc.qs<|Jc.qr<|Jl.pv (PR.qm rfl) ?_
 refine Jl.pv (PR.len rfl tsl23) ?_
 refine Jl.pv (PR.qm rfl)<|Jl.qn<|Jq.qt ?_
 refine Jc.block ?_
 refine Jc.loop (σ := { k : Nat // k ≤ l.length ∧ ∀ j, (h : j < k) → (h' : j < l.length) → q l[j] = false }) (fun s => [(8, .int .i64 (s.1 : Int)), (7, .int .i64 (l.length : Int)), (0, .slice A l.length c), (1, .func (.func g) #[] #[])]) (fun _ => []) (fun _ => [.rd A (l.map (Value.int .i64))]) (fun s => l.length - s.1) ⟨0, Nat.zero_le _, fun _ h => by omega⟩ (by exact ⟨rfl, rfl, rfl, rfl, trivial⟩) rfl (by exact ⟨Mem.here, trivial⟩) ?_
 rintro ⟨k, hk, hq⟩
 show Jc _ _ _ _ _ _ [(8, Value.int .i64 (k : Int)), (7, Value.int .i64 (l.length : Int)), (0, .slice A l.length c), (1, .func (.func g) #[] #[])] [] [.rd A (l.map (Value.int .i64))]
 refine Jc.qs<|Jc.qr ?_
 refine Jl.pv (PR.lss _ rfl rfl rfl) ?_
 refine Jl.qn<|Jq.qt<|Jc.qs ?_
 refine Jc.cond rfl (fun hlt => ?_) (fun hlt => ?_)
 · try replace hlt := zV hlt
   have hlt' : k < l.length := by omega
   refine Jc.skip<|Jq.qt<|Jc.qs ?_
   refine Jc.block ?_
   refine Jc.qs<|Jc.qr<|Jl.pv (PR.qm rfl)<|Jl.pv (PR.qa rfl)<|Jl.qn<|Jq.qt<|Jc.qs<|Jc.qr<|Jl.pv (PR.qm rfl)<|Jl.pv (PR.qm rfl)<|Jl.pv (PR.qm rfl) ?_
   refine Jl.pv (PR.idx1 k rfl rfl tsl23 zM (by simp) rfl hlt') ?_
   refine Jl.pv (PR.loadR rfl tsh3 zM (getm hlt')) ?_
   refine Jl.callv (hg _) hen rfl (by rfl) (by rfl) zT zF ?_
   rintro ⟨⟩
   refine Jl.qn<|Jq.qt ?_
   refine Jc.cond rfl (fun hqk => ?_) (fun hqk => ?_)
   · try replace hqk := zV hqk
     refine Jc.qs<|Jc.qr<|Jl.pv (PR.qm rfl)<|Jl.pv (PR.qa rfl)<|Jl.qn<|Jq.qt<|Jc.ret ?_
     refine Jq.blkR ?_
     refine Jq.thenR<|Jq.thenR ?_
     refine Jq.blkR ?_
     refine Jq.thenR ?_
     have ha : l.any q = true := List.any_eq_true.2 ⟨l[k], List.getElem_mem _, hqk⟩
     have hi : l.findIdx q = k := by rw [List.findIdx_eq hlt']; exact ⟨hqk, fun j hj => hq j hj (by omega)⟩
     exact Jq.fin () (.inl rfl) rfl (RetVs.tmp rfl RetVs.nil) (by rw [if_pos ha, hi]; rfl) zT zF
   try replace hqk := zW hqk
   refine Jc.skip ?_
   refine Jq.blkN ?_
   refine Jq.qt<|Jc.qr ?_
   refine Jl.pv (PR.add ((k + 1 : Nat) : Int) rfl rfl (by rw [w64 (by omega) (by omega)]; rfl)) ?_
   refine Jl.pv (PR.qm rfl)<|Jl.qn ?_
   refine Jq.again ⟨k + 1, hlt', fun j h h' => ?_⟩ (by simp only; omega) (by exact ⟨rfl, rfl, rfl, rfl, trivial⟩) rfl (by exact ⟨Mem.here, trivial⟩)
   rcases Nat.lt_or_ge j k with h1 | h1
   · exact hq j h1 h'
   · obtain rfl : j = k := by omega
     exact hqk
 try replace hlt := zW hlt
 refine Jc.exit ?_
 refine Jq.thenX ?_
 refine Jq.thenX ?_
 refine Jq.blkX ?_
 refine Jq.qt<|Jc.qs<|Jc.qr<|Jl.pv (PR.qa rfl)<|Jl.qn<|Jq.qt<|Jc.ret ?_
 have ha : ¬ l.any q = true := fun h => by
  obtain ⟨x, hx, hxq⟩ := List.any_eq_true.1 h
  obtain ⟨j, hj, rfl⟩ := List.mem_iff_getElem.1 hx
  rw [hq j (by omega) hj] at hxq; cases hxq
 exact Jq.fin () (.inl rfl) rfl (RetVs.tmp rfl RetVs.nil) (by rw [if_neg ha]; rfl) zT zF
theorem contains_ct (q : Int → Bool) (A : Option Addr) (c : Nat) (l : List Int) (hn : l.length ≤ 1000000) (g : FuncId) (hg : ∀ n, Ct Tryz.prog g [.int .i64 n] [] [] (fun _ : Unit => .bool (q n)) (fun _ => []) (fun _ => [])) (hen : ∀ args w, (callFunc g args).run Tryz.prog w = .ok (.enter g args) w) :
 Ct Tryz.prog 74 [.slice A l.length c, .func (.func g) #[] #[]] [] [.rd A (l.map (Value.int .i64))] (fun _ : Unit => .bool (l.any q)) (fun _ => []) (fun _ => []) := by
 refine Ct.of _ Tryz.func74 Tryz.ntmps74 rfl rfl (fun X W => ?_)
 refine Jc.qs<|Jc.qr<|Jl.pv (PR.qa rfl)<|Jl.qn<|Jq.qt<|Jc.qs<|Jc.qr<|Jl.pv (PR.qm rfl)<|Jl.pv (PR.qm rfl) ?_
 refine Jl.call (index_ct q A c l hn g hg hen) en103 (by rfl) zT zF ?_
 rintro ⟨⟩
 refine Jl.pv (PR.geq (l.any q) rfl rfl (by split <;> rename_i h <;> simp [h])) ?_
 refine Jl.pv (PR.qa rfl)<|Jl.qn<|Jq.qt<|Jc.ret ?_
 exact Jq.fin () (.inl rfl) rfl (RetVs.tmp rfl RetVs.nil) rfl zT zF
end Go.Proofs.YtakbgccddokbbaaGreatDoor
namespace Go.Proofs.YtakbgccddokbbaaGreatDoor
open Go.RowKit
attribute [local irreducible] Res.blk Res.row Fact.rd
noncomputable def eqC {α : Type} (a b : α) : Bool := @decide (a = b) (Classical.propDecidable _)
theorem eqC_iff {α : Type} {a b : α} : eqC a b = true ↔ a = b := by unfold eqC; exact @decide_eq_true_iff _ (Classical.propDecidable _)
theorem eqC_no {α : Type} {a b : α} (h : a ≠ b) : eqC a b = false := Bool.eq_false_iff.2 fun h1 => h (eqC_iff.1 h1)
theorem eqC_self {α : Type} (a : α) : eqC a a = true := eqC_iff.2 rfl
theorem u8I_eq {a b : UInt8} : ((a.toNat : Nat) : Int) = (b.toNat : Int) ↔ a = b := by
 rw [Int.ofNat_inj]; exact ⟨UInt8.toNat_inj.1, fun h => by rw [h]⟩
theorem rf_cs {a b : Rf} : a.cs = b.cs ↔ a = b := by
 obtain ⟨a1, a2, a3, a4, a5, a6, a7⟩ := a
 obtain ⟨b1, b2, b3, b4, b5, b6, b7⟩ := b
 simp [Rf.cs, u8I_eq]
theorem it_cs {a b : It1} : a.cs = b.cs ↔ a = b := by
 obtain ⟨a1, a2, a3, a4⟩ := a
 obtain ⟨b1, b2, b3, b4⟩ := b
 simp [It1.cs]
theorem kp_cs {a b : Kp} : a.cs = b.cs ↔ a = b := by
 obtain ⟨a1, a2, a3, a4, a5, a6, a7, a8⟩ := a
 obtain ⟨b1, b2, b3, b4, b5, b6, b7, b8⟩ := b
 simp [Kp.cs, u8I_eq]
theorem ne_cs {α : Type} {f : α → List Value} {a b : α} (h : f a = f b ↔ a = b) : (!eqC a b) = true ↔ f a ≠ f b := by
 by_cases e : a = b
 · subst e; simp [eqC_self]
 · rw [eqC_no e]; simp [h, e]
theorem brsame_ct (a b : Br) (x y : BrA) (hn : a.its.length ≤ 1000000) (hm : a.kps.length ≤ 1000000) (hms : a.cf.ms.length ≤ 1000000) : Ct Tryz.prog 13 [a.v x, b.v y] [] (a.rd x ++ b.rd y) (fun _ : Unit => .bool (eqC a b)) (fun _ => []) (fun _ => []) := by
 obtain ⟨⟨M, cM⟩, ⟨I, cI⟩, ⟨K, cK⟩⟩ := x
 obtain ⟨⟨N, cN⟩, ⟨J, cJ⟩, ⟨P, cP⟩⟩ := y
 have hi1 := itsV_len a.its
 have hi2 := itsV_len b.its
 have hk1 := kpsV_len a.kps
 have hk2 := kpsV_len b.kps
 refine Ct.of _ Tryz.func13 Tryz.ntmps13 rfl rfl (fun X W => ?_)
 refine Jc.qs<|Jc.qr ?_
 refine Jl.box rfl (by rfl) ?_
 intro b2
 refine Jl.box rfl (by rfl) ?_
 intro b3
 refine Jl.pv (PR.qa rfl)<|Jl.qn<|Jq.qt<|Jc.qs<|Jc.qs<|Jc.qr<|Jl.pv (PR.qf rfl tfl38_0) ?_
 refine Jl.pv (PR.load1 rfl tsh3 zH (by rfl)) ?_
 refine Jl.pv (PR.qf rfl tfl38_0) ?_
 refine Jl.pv (PR.load1 rfl tsh3 zH (by rfl)) ?_
 refine Jl.pv (PR.neq _ rfl rfl rfl) ?_
 refine Jl.pv (PR.qm rfl) ?_
 refine Jl.bsplit (fun g12 => ?_) (fun g12 => ?_)
 · try replace g12 := zV g12
   refine Jl.qo rfl rfl rfl<|Jl.qo rfl rfl rfl<|Jl.qo rfl rfl rfl<|Jl.qo rfl rfl rfl<|Jl.qo rfl rfl rfl<|Jl.pv (PR.pickT rfl rfl)<|Jl.pv (PR.qm rfl)<|Jl.qo rfl rfl rfl<|Jl.qo rfl rfl rfl<|Jl.qo rfl rfl rfl<|Jl.qo rfl rfl rfl<|Jl.qo rfl rfl rfl<|Jl.pv (PR.pickT rfl rfl)<|Jl.pv (PR.qm rfl)<|Jl.qo rfl rfl rfl<|Jl.qo rfl rfl rfl<|Jl.qo rfl rfl rfl<|Jl.qo rfl rfl rfl<|Jl.qo rfl rfl rfl<|Jl.qo rfl rfl rfl<|Jl.pv (PR.pickT rfl rfl)<|Jl.pv (PR.qm rfl)<|Jl.qo rfl rfl rfl<|Jl.qo rfl rfl rfl<|Jl.qo rfl rfl rfl<|Jl.qo rfl rfl rfl<|Jl.qo rfl rfl rfl<|Jl.pv (PR.pickT rfl rfl)<|Jl.pv (PR.qm rfl)<|Jl.qo rfl rfl rfl<|Jl.qo rfl rfl rfl<|Jl.qo rfl rfl rfl<|Jl.qo rfl rfl rfl<|Jl.qo rfl rfl rfl<|Jl.qo rfl rfl rfl<|Jl.qo rfl rfl rfl<|Jl.pv (PR.pickT rfl rfl)<|Jl.pv (PR.qm rfl)<|Jl.qo rfl rfl rfl<|Jl.qo rfl rfl rfl<|Jl.qo rfl rfl rfl<|Jl.qo rfl rfl rfl<|Jl.qo rfl rfl rfl<|Jl.qo rfl rfl rfl<|Jl.qo rfl rfl rfl<|Jl.pv (PR.pickT rfl rfl)<|Jl.qn<|Jq.qt<|Jc.condT rfl<|Jc.qs<|Jc.qr<|Jl.pv (PR.qa rfl)<|Jl.qn<|Jq.qt<|Jc.ret<|Jq.thenR ?_
   exact Jq.fin () (.inl rfl) rfl (RetVs.tmp rfl RetVs.nil) (by rw [eqC_no (fun h => g12 (by rw [h]))]; rfl) zT zF
 try replace g12 := zW g12
 refine Jl.on rfl rfl<|Jl.pv (PR.qf rfl tfl38_1)<|Jl.on rfl rfl ?_
 refine Jl.pv (PR.load1 rfl tsh3 zH (by rfl)) ?_
 refine Jl.on rfl rfl<|Jl.pv (PR.qf rfl tfl38_1)<|Jl.on rfl rfl ?_
 refine Jl.pv (PR.load1 rfl tsh3 zH (by rfl)) ?_
 refine Jl.on rfl rfl ?_
 refine Jl.pv (PR.neq _ rfl rfl rfl) ?_
 refine Jl.pv (PR.pickF rfl rfl)<|Jl.pv (PR.qm rfl) ?_
 refine Jl.bsplit (fun g19 => ?_) (fun g19 => ?_)
 · try replace g19 := zV g19
   refine Jl.qo rfl rfl rfl<|Jl.qo rfl rfl rfl<|Jl.qo rfl rfl rfl<|Jl.qo rfl rfl rfl<|Jl.qo rfl rfl rfl<|Jl.pv (PR.pickT rfl rfl)<|Jl.pv (PR.qm rfl)<|Jl.qo rfl rfl rfl<|Jl.qo rfl rfl rfl<|Jl.qo rfl rfl rfl<|Jl.qo rfl rfl rfl<|Jl.qo rfl rfl rfl<|Jl.qo rfl rfl rfl<|Jl.pv (PR.pickT rfl rfl)<|Jl.pv (PR.qm rfl)<|Jl.qo rfl rfl rfl<|Jl.qo rfl rfl rfl<|Jl.qo rfl rfl rfl<|Jl.qo rfl rfl rfl<|Jl.qo rfl rfl rfl<|Jl.pv (PR.pickT rfl rfl)<|Jl.pv (PR.qm rfl)<|Jl.qo rfl rfl rfl<|Jl.qo rfl rfl rfl<|Jl.qo rfl rfl rfl<|Jl.qo rfl rfl rfl<|Jl.qo rfl rfl rfl<|Jl.qo rfl rfl rfl<|Jl.qo rfl rfl rfl<|Jl.pv (PR.pickT rfl rfl)<|Jl.pv (PR.qm rfl)<|Jl.qo rfl rfl rfl<|Jl.qo rfl rfl rfl<|Jl.qo rfl rfl rfl<|Jl.qo rfl rfl rfl<|Jl.qo rfl rfl rfl<|Jl.qo rfl rfl rfl<|Jl.qo rfl rfl rfl<|Jl.pv (PR.pickT rfl rfl)<|Jl.qn<|Jq.qt<|Jc.condT rfl<|Jc.qs<|Jc.qr<|Jl.pv (PR.qa rfl)<|Jl.qn<|Jq.qt<|Jc.ret<|Jq.thenR ?_
   exact Jq.fin () (.inl rfl) rfl (RetVs.tmp rfl RetVs.nil) (by rw [eqC_no (fun h => g19 (by rw [h]))]; rfl) zT zF
 try replace g19 := zW g19
 refine Jl.on rfl rfl<|Jl.pv (PR.qf rfl tfl38_2)<|Jl.on rfl rfl ?_
 refine Jl.pv (PR.load1 rfl tsh4 zH (by rfl)) ?_
 refine Jl.on rfl rfl<|Jl.pv (PR.qf rfl tfl38_2)<|Jl.on rfl rfl ?_
 refine Jl.pv (PR.load1 rfl tsh4 zH (by rfl)) ?_
 refine Jl.on rfl rfl ?_
 refine Jl.pv (PR.bneq _ Tryz.underlying4 rfl rfl rfl) ?_
 refine Jl.pv (PR.pickF rfl rfl)<|Jl.pv (PR.qm rfl) ?_
 refine Jl.bsplit (fun g26 => ?_) (fun g26 => ?_)
 · try replace g26 := zV g26
   refine Jl.qo rfl rfl rfl<|Jl.qo rfl rfl rfl<|Jl.qo rfl rfl rfl<|Jl.qo rfl rfl rfl<|Jl.qo rfl rfl rfl<|Jl.qo rfl rfl rfl<|Jl.pv (PR.pickT rfl rfl)<|Jl.pv (PR.qm rfl)<|Jl.qo rfl rfl rfl<|Jl.qo rfl rfl rfl<|Jl.qo rfl rfl rfl<|Jl.qo rfl rfl rfl<|Jl.qo rfl rfl rfl<|Jl.pv (PR.pickT rfl rfl)<|Jl.pv (PR.qm rfl)<|Jl.qo rfl rfl rfl<|Jl.qo rfl rfl rfl<|Jl.qo rfl rfl rfl<|Jl.qo rfl rfl rfl<|Jl.qo rfl rfl rfl<|Jl.qo rfl rfl rfl<|Jl.qo rfl rfl rfl<|Jl.pv (PR.pickT rfl rfl)<|Jl.pv (PR.qm rfl)<|Jl.qo rfl rfl rfl<|Jl.qo rfl rfl rfl<|Jl.qo rfl rfl rfl<|Jl.qo rfl rfl rfl<|Jl.qo rfl rfl rfl<|Jl.qo rfl rfl rfl<|Jl.qo rfl rfl rfl<|Jl.pv (PR.pickT rfl rfl)<|Jl.qn<|Jq.qt<|Jc.condT rfl<|Jc.qs<|Jc.qr<|Jl.pv (PR.qa rfl)<|Jl.qn<|Jq.qt<|Jc.ret<|Jq.thenR ?_
   exact Jq.fin () (.inl rfl) rfl (RetVs.tmp rfl RetVs.nil) (by rw [eqC_no (fun h => by rw [h] at g26; simp at g26)]; rfl) zT zF
 try replace g26 := zW g26
 refine Jl.on rfl rfl<|Jl.pv (PR.qf rfl tfl38_3)<|Jl.on rfl rfl ?_
 refine Jl.pv (PR.loadA rfl tsh32 zH (by rfl)) ?_
 refine Jl.on rfl rfl<|Jl.pv (PR.qf rfl tfl38_3)<|Jl.on rfl rfl ?_
 refine Jl.pv (PR.loadA rfl tsh32 zH (by rfl)) ?_
 refine Jl.on rfl rfl ?_
 refine Jl.call (cfsame_ct a.cf b.cf (M, cM) (N, cN) hms) en31 (by rfl) zT zF ?_
 rintro ⟨⟩
 refine Jl.on rfl rfl ?_
 refine Jl.pv (PR.not rfl) ?_
 refine Jl.pv (PR.pickF rfl rfl)<|Jl.pv (PR.qm rfl) ?_
 refine Jl.bsplit (fun g34 => ?_) (fun g34 => ?_)
 · try replace g34 := zV g34
   refine Jl.qo rfl rfl rfl<|Jl.qo rfl rfl rfl<|Jl.qo rfl rfl rfl<|Jl.qo rfl rfl rfl<|Jl.qo rfl rfl rfl<|Jl.pv (PR.pickT rfl rfl)<|Jl.pv (PR.qm rfl)<|Jl.qo rfl rfl rfl<|Jl.qo rfl rfl rfl<|Jl.qo rfl rfl rfl<|Jl.qo rfl rfl rfl<|Jl.qo rfl rfl rfl<|Jl.qo rfl rfl rfl<|Jl.qo rfl rfl rfl<|Jl.pv (PR.pickT rfl rfl)<|Jl.pv (PR.qm rfl)<|Jl.qo rfl rfl rfl<|Jl.qo rfl rfl rfl<|Jl.qo rfl rfl rfl<|Jl.qo rfl rfl rfl<|Jl.qo rfl rfl rfl<|Jl.qo rfl rfl rfl<|Jl.qo rfl rfl rfl<|Jl.pv (PR.pickT rfl rfl)<|Jl.qn<|Jq.qt<|Jc.condT rfl<|Jc.qs<|Jc.qr<|Jl.pv (PR.qa rfl)<|Jl.qn<|Jq.qt<|Jc.ret<|Jq.thenR ?_
   exact Jq.fin () (.inl rfl) rfl (RetVs.tmp rfl RetVs.nil) (by rw [eqC_no (fun h => by rw [h, sameC_iff.2 rfl] at g34; cases g34)]; rfl) zT zF
 try replace g34 := zW g34
 refine Jl.on rfl rfl<|Jl.pv (PR.qf rfl tfl38_6)<|Jl.on rfl rfl ?_
 refine Jl.pv (PR.loadA rfl tsh36 zH (by rfl)) ?_
 refine Jl.on rfl rfl<|Jl.pv (PR.qf rfl tfl38_6)<|Jl.on rfl rfl ?_
 refine Jl.pv (PR.loadA rfl tsh36 zH (by rfl)) ?_
 refine Jl.on rfl rfl ?_
 refine Jl.pv (PR.neqA (xs := a.rf.cs) (ys := b.rf.cs) (!eqC a.rf b.rf) rfl rfl teq36 (by rfl) (ne_cs rf_cs)) ?_
 refine Jl.pv (PR.pickF rfl rfl)<|Jl.pv (PR.qm rfl) ?_
 refine Jl.bsplit (fun g41 => ?_) (fun g41 => ?_)
 · try replace g41 := zV g41
   refine Jl.qo rfl rfl rfl<|Jl.qo rfl rfl rfl<|Jl.qo rfl rfl rfl<|Jl.qo rfl rfl rfl<|Jl.qo rfl rfl rfl<|Jl.qo rfl rfl rfl<|Jl.qo rfl rfl rfl<|Jl.pv (PR.pickT rfl rfl)<|Jl.pv (PR.qm rfl)<|Jl.qo rfl rfl rfl<|Jl.qo rfl rfl rfl<|Jl.qo rfl rfl rfl<|Jl.qo rfl rfl rfl<|Jl.qo rfl rfl rfl<|Jl.qo rfl rfl rfl<|Jl.qo rfl rfl rfl<|Jl.pv (PR.pickT rfl rfl)<|Jl.qn<|Jq.qt<|Jc.condT rfl<|Jc.qs<|Jc.qr<|Jl.pv (PR.qa rfl)<|Jl.qn<|Jq.qt<|Jc.ret<|Jq.thenR ?_
   exact Jq.fin () (.inl rfl) rfl (RetVs.tmp rfl RetVs.nil) (by rw [eqC_no (fun h => by rw [h, eqC_self] at g41; cases g41)]; rfl) zT zF
 try replace g41 := zW g41
 refine Jl.on rfl rfl<|Jl.pv (PR.qf rfl tfl38_4)<|Jl.on rfl rfl ?_
 refine Jl.pv (PR.load1 rfl tsh33 zH (by rfl)) ?_
 refine Jl.on rfl rfl ?_
 refine Jl.pv (PR.len rfl tsl33) ?_
 refine Jl.on rfl rfl<|Jl.pv (PR.qf rfl tfl38_4)<|Jl.on rfl rfl ?_
 refine Jl.pv (PR.load1 rfl tsh33 zH (by rfl)) ?_
 refine Jl.on rfl rfl ?_
 refine Jl.pv (PR.len rfl tsl33) ?_
 refine Jl.on rfl rfl ?_
 refine Jl.pv (PR.neq _ rfl rfl rfl) ?_
 refine Jl.pv (PR.pickF rfl rfl)<|Jl.pv (PR.qm rfl) ?_
 refine Jl.bsplit (fun g50 => ?_) (fun g50 => ?_)
 · try replace g50 := zV g50
   refine Jl.qo rfl rfl rfl<|Jl.qo rfl rfl rfl<|Jl.qo rfl rfl rfl<|Jl.qo rfl rfl rfl<|Jl.qo rfl rfl rfl<|Jl.qo rfl rfl rfl<|Jl.qo rfl rfl rfl<|Jl.pv (PR.pickT rfl rfl)<|Jl.qn<|Jq.qt<|Jc.condT rfl<|Jc.qs<|Jc.qr<|Jl.pv (PR.qa rfl)<|Jl.qn<|Jq.qt<|Jc.ret<|Jq.thenR ?_
   exact Jq.fin () (.inl rfl) rfl (RetVs.tmp rfl RetVs.nil) (by rw [eqC_no (fun h => g50 (by rw [h]))]; rfl) zT zF
 try replace g50 := zW g50
 refine Jl.on rfl rfl<|Jl.pv (PR.qf rfl tfl38_5)<|Jl.on rfl rfl ?_
 refine Jl.pv (PR.load1 rfl tsh34 zH (by rfl)) ?_
 refine Jl.on rfl rfl ?_
 refine Jl.pv (PR.len rfl tsl34) ?_
 refine Jl.on rfl rfl<|Jl.pv (PR.qf rfl tfl38_5)<|Jl.on rfl rfl ?_
 refine Jl.pv (PR.load1 rfl tsh34 zH (by rfl)) ?_
 refine Jl.on rfl rfl ?_
 refine Jl.pv (PR.len rfl tsl34) ?_
 refine Jl.on rfl rfl ?_
 refine Jl.pv (PR.neq _ rfl rfl rfl) ?_
 refine Jl.pv (PR.pickF rfl rfl)<|Jl.qn<|Jq.qt ?_
 refine Jc.cond rfl (fun h0 => ?_) (fun h0 => ?_)
 · try replace h0 := zV h0
   refine Jc.qs<|Jc.qr<|Jl.pv (PR.qa rfl)<|Jl.qn<|Jq.qt<|Jc.ret<|Jq.thenR ?_
   exact Jq.fin () (.inl rfl) rfl (RetVs.tmp rfl RetVs.nil) (by rw [eqC_no (fun h => h0 (by rw [h]))]; rfl) zT zF
 try replace h0 := zW h0
 have e1 : a.ep = b.ep := by omega
 have e2 : a.sq = b.sq := by omega
 have e3 : a.set = b.set := by simpa using g26
 have e4 : a.cf = b.cf := sameC_iff.1 (by simpa using g34)
 have e5 : a.rf = b.rf := eqC_iff.1 (by simpa using g41)
 have e6 : a.its.length = b.its.length := by omega
 have e7 : a.kps.length = b.kps.length := by omega
 refine Jc.skip<|Jq.qt<|Jc.qs<|Jc.qs<|Jc.qr<|Jl.pv (PR.qa rfl)<|Jl.qn<|Jq.qt ?_
 refine Jc.block ?_
 refine Jc.loop (σ := { k : Nat // k ≤ a.its.length ∧ ∀ j, j < k → a.its[j]? = b.its[j]? }) (fun s => [(5, .int .i64 (s.1 : Int)), (2, .pointer (some ⟨b2, 0, none⟩)), (3, .pointer (some ⟨b3, 0, none⟩))]) (fun _ => [.blk b3 38 (b.cs ((N, cN), (J, cJ), (P, cP))), .blk b2 38 (a.cs ((M, cM), (I, cI), (K, cK)))]) (fun _ => [.rd I (itsV a.its), .rd K (kpsV a.kps), .rd J (itsV b.its), .rd P (kpsV b.kps)]) (fun s => a.its.length - s.1) ⟨0, Nat.zero_le _, fun _ h => by omega⟩ (by repeat (first | exact trivial | refine And.intro rfl ?_)) rfl zF ?_
 rintro ⟨k, hk, hq⟩
 show Jc _ _ _ _ _ _ [(5, Value.int .i64 (k : Int)), (2, .pointer (some ⟨b2, 0, none⟩)), (3, .pointer (some ⟨b3, 0, none⟩))] [.blk b3 38 (b.cs ((N, cN), (J, cJ), (P, cP))), .blk b2 38 (a.cs ((M, cM), (I, cI), (K, cK)))] [.rd I (itsV a.its), .rd K (kpsV a.kps), .rd J (itsV b.its), .rd P (kpsV b.kps)]
 refine Jc.qs<|Jc.qs<|Jc.qr<|Jl.pv (PR.qm rfl)<|Jl.pv (PR.qf rfl tfl38_4) ?_
 refine Jl.pv (PR.load1 rfl tsh33 zH (by rfl)) ?_
 refine Jl.pv (PR.len rfl tsl33) ?_
 refine Jl.pv (PR.lss _ rfl rfl rfl) ?_
 refine Jl.qn<|Jq.qt ?_
 refine Jc.cond rfl (fun h1 => ?_) (fun h1 => ?_)
 · try replace h1 := zV h1
   have hlt : k < a.its.length := by omega
   have hlt2 : k < b.its.length := by omega
   refine Jc.skip<|Jq.qt<|Jc.qs ?_
   refine Jc.block ?_
   refine Jc.qs ?_
   refine Jc.drawn [0, 1, 0, 7, 15, 0, 32, 0, 224, 480, 1023] ([(0, false), (1, false), (2, false), (3, false), (4, false), (5, false), (6, false), (7, false), (8, false), (9, false), (10, false)], []) [] tmx (by kernel_rfl) ?_
   refine Dh.JH.nil ?_
   refine Dh.JB.pv rfl trivial (fun _ => PR.qf rfl tfl38_4) ?_
   refine Dh.JB.rd [.blk _ _ _] rfl trivial zT (fun _ => PR.load1 rfl tsh33 Has.here (by rfl)) ?_
   refine Dh.JB.pv rfl trivial (fun _ => PR.qm rfl) ?_
   refine Dh.JB.pv rfl trivial (fun _ => PR.idx k rfl rfl tsl33 zM (itsV_len _) (by omega) rfl hlt) ?_
   refine Dh.JB.pv rfl trivial (fun _ => PR.loadRA rfl tsh70 zM (by decide) (its_at hlt)) ?_
   refine Dh.JB.pv rfl trivial (fun _ => PR.qf rfl tfl38_4) ?_
   refine Dh.JB.rd [.blk _ _ _] rfl trivial zT (fun _ => PR.load1 rfl tsh33 Has.here (by rfl)) ?_
   refine Dh.JB.pv rfl trivial (fun _ => PR.qm rfl) ?_
   refine Dh.JB.pv rfl trivial (fun _ => PR.idx k rfl rfl tsl33 zM (itsV_len _) (by omega) rfl hlt2) ?_
   refine Dh.JB.pv rfl trivial (fun _ => PR.loadRA rfl tsh70 zM (by decide) (its_at hlt2)) ?_
   refine Dh.JB.pv rfl trivial (fun _ => PR.neqA (xs := a.its[k].cs) (ys := b.its[k].cs) (!eqC a.its[k] b.its[k]) rfl rfl teq70 (by rfl) (ne_cs it_cs)) ?_
   refine Dh.JB.nil<|Dh.JL.nil<|Jq.qt ?_
   refine Jc.cond rfl (fun h2 => ?_) (fun h2 => ?_)
   · try replace h2 := zV h2
     refine Jc.qs<|Jc.qr<|Jl.pv (PR.qa rfl)<|Jl.qn<|Jq.qt<|Jc.ret ?_
     refine Jq.blkR ?_
     refine Jq.thenR<|Jq.thenR ?_
     refine Jq.blkR ?_
     refine Jq.thenR ?_
     exact Jq.fin () (.inl rfl) rfl (RetVs.tmp rfl RetVs.nil) (by rw [eqC_no (fun h => by subst h; rw [eqC_self] at h2; cases h2)]; rfl) zT zF
   try replace h2 := zW h2
   refine Jc.skip ?_
   refine Jq.blkN ?_
   refine Jq.qt<|Jc.qr<|Jl.pv (PR.qm rfl) ?_
   refine Jl.pv (PR.add ((k + 1 : Nat) : Int) rfl rfl (by rw [w64 (by omega) (by omega)]; rfl)) ?_
   refine Jl.pv (PR.qa rfl)<|Jl.qn ?_
   refine Jq.againT ⟨k + 1, hlt, fun j h => ?_⟩ (by simp only; omega) (by repeat (first | exact trivial | refine And.intro rfl ?_)) zT zF
   rcases Nat.lt_succ_iff_lt_or_eq.1 h with h3 | h3
   · exact hq j h3
   · obtain rfl : j = k := h3
     rw [List.getElem?_eq_getElem hlt, List.getElem?_eq_getElem hlt2, show a.its[j] = b.its[j] from eqC_iff.1 (by simpa using h2)]
 try replace h1 := zW h1
 have e8 : a.its = b.its := List.ext_getElem? fun j => by
  rcases Nat.lt_or_ge j k with h1 | h1
  · exact hq j h1
  · rw [List.getElem?_eq_none (by omega), List.getElem?_eq_none (by omega)]
 refine Jc.exit ?_
 refine Jq.thenX ?_
 refine Jq.thenX ?_
 refine Jq.blkX ?_
 refine Jq.qt<|Jc.qs<|Jc.qs<|Jc.qr<|Jl.pv (PR.qa rfl)<|Jl.qn<|Jq.qt ?_
 refine Jc.block ?_
 refine Jc.loop (σ := { k : Nat // k ≤ a.kps.length ∧ ∀ j, j < k → a.kps[j]? = b.kps[j]? }) (fun s => [(6, .int .i64 (s.1 : Int)), (2, .pointer (some ⟨b2, 0, none⟩)), (3, .pointer (some ⟨b3, 0, none⟩))]) (fun _ => [.blk b3 38 (b.cs ((N, cN), (J, cJ), (P, cP))), .blk b2 38 (a.cs ((M, cM), (I, cI), (K, cK)))]) (fun _ => [.rd K (kpsV a.kps), .rd P (kpsV b.kps)]) (fun s => a.kps.length - s.1) ⟨0, Nat.zero_le _, fun _ h => by omega⟩ (by repeat (first | exact trivial | refine And.intro rfl ?_)) rfl zF ?_
 rintro ⟨m, hm1, hq2⟩
 show Jc _ _ _ _ _ _ [(6, Value.int .i64 (m : Int)), (2, .pointer (some ⟨b2, 0, none⟩)), (3, .pointer (some ⟨b3, 0, none⟩))] [.blk b3 38 (b.cs ((N, cN), (J, cJ), (P, cP))), .blk b2 38 (a.cs ((M, cM), (I, cI), (K, cK)))] [.rd K (kpsV a.kps), .rd P (kpsV b.kps)]
 refine Jc.qs<|Jc.qs<|Jc.qr<|Jl.pv (PR.qm rfl)<|Jl.pv (PR.qf rfl tfl38_5) ?_
 refine Jl.pv (PR.load1 rfl tsh34 zH (by rfl)) ?_
 refine Jl.pv (PR.len rfl tsl34) ?_
 refine Jl.pv (PR.lss _ rfl rfl rfl) ?_
 refine Jl.qn<|Jq.qt ?_
 refine Jc.cond rfl (fun h3 => ?_) (fun h3 => ?_)
 · try replace h3 := zV h3
   have hlt : m < a.kps.length := by omega
   have hlt2 : m < b.kps.length := by omega
   refine Jc.skip<|Jq.qt<|Jc.qs ?_
   refine Jc.block ?_
   refine Jc.qs ?_
   refine Jc.drawn [0, 1, 0, 7, 15, 0, 32, 0, 224, 480, 1023] ([(0, false), (1, false), (2, false), (3, false), (4, false), (5, false), (6, false), (7, false), (8, false), (9, false), (10, false)], []) [] tmx (by kernel_rfl) ?_
   refine Dh.JH.nil ?_
   refine Dh.JB.pv rfl trivial (fun _ => PR.qf rfl tfl38_5) ?_
   refine Dh.JB.rd [.blk _ _ _] rfl trivial zT (fun _ => PR.load1 rfl tsh34 Has.here (by rfl)) ?_
   refine Dh.JB.pv rfl trivial (fun _ => PR.qm rfl) ?_
   refine Dh.JB.pv rfl trivial (fun _ => PR.idx m rfl rfl tsl34 zM (kpsV_len _) (by omega) rfl hlt) ?_
   refine Dh.JB.pv rfl trivial (fun _ => PR.loadRA rfl tsh72 zM (by decide) (kps_at hlt)) ?_
   refine Dh.JB.pv rfl trivial (fun _ => PR.qf rfl tfl38_5) ?_
   refine Dh.JB.rd [.blk _ _ _] rfl trivial zT (fun _ => PR.load1 rfl tsh34 Has.here (by rfl)) ?_
   refine Dh.JB.pv rfl trivial (fun _ => PR.qm rfl) ?_
   refine Dh.JB.pv rfl trivial (fun _ => PR.idx m rfl rfl tsl34 zM (kpsV_len _) (by omega) rfl hlt2) ?_
   refine Dh.JB.pv rfl trivial (fun _ => PR.loadRA rfl tsh72 zM (by decide) (kps_at hlt2)) ?_
   refine Dh.JB.pv rfl trivial (fun _ => PR.neqA (xs := a.kps[m].cs) (ys := b.kps[m].cs) (!eqC a.kps[m] b.kps[m]) rfl rfl teq72 (by rfl) (ne_cs kp_cs)) ?_
   refine Dh.JB.nil<|Dh.JL.nil<|Jq.qt ?_
   refine Jc.cond rfl (fun h4 => ?_) (fun h4 => ?_)
   · try replace h4 := zV h4
     refine Jc.qs<|Jc.qr<|Jl.pv (PR.qa rfl)<|Jl.qn<|Jq.qt<|Jc.ret ?_
     refine Jq.blkR ?_
     refine Jq.thenR<|Jq.thenR ?_
     refine Jq.blkR ?_
     refine Jq.thenR ?_
     exact Jq.fin () (.inl rfl) rfl (RetVs.tmp rfl RetVs.nil) (by rw [eqC_no (fun h => by subst h; rw [eqC_self] at h4; cases h4)]; rfl) zT zF
   try replace h4 := zW h4
   refine Jc.skip ?_
   refine Jq.blkN ?_
   refine Jq.qt<|Jc.qr<|Jl.pv (PR.qm rfl) ?_
   refine Jl.pv (PR.add ((m + 1 : Nat) : Int) rfl rfl (by rw [w64 (by omega) (by omega)]; rfl)) ?_
   refine Jl.pv (PR.qa rfl)<|Jl.qn ?_
   refine Jq.againT ⟨m + 1, hlt, fun j h => ?_⟩ (by simp only; omega) (by repeat (first | exact trivial | refine And.intro rfl ?_)) zT zF
   rcases Nat.lt_succ_iff_lt_or_eq.1 h with h5 | h5
   · exact hq2 j h5
   · obtain rfl : j = m := h5
     rw [List.getElem?_eq_getElem hlt, List.getElem?_eq_getElem hlt2, show a.kps[j] = b.kps[j] from eqC_iff.1 (by simpa using h4)]
 try replace h3 := zW h3
 have e9 : a.kps = b.kps := List.ext_getElem? fun j => by
  rcases Nat.lt_or_ge j m with h1 | h1
  · exact hq2 j h1
  · rw [List.getElem?_eq_none (by omega), List.getElem?_eq_none (by omega)]
 have e10 : a = b := by
  obtain ⟨a1, a2, a3, a4, a5, a6, a7⟩ := a
  obtain ⟨b1, b2, b3, b4, b5, b6, b7⟩ := b
  simp only at e1 e2 e3 e4 e5 e8 e9
  rw [e1, e2, e3, e4, e5, e8, e9]
 refine Jc.exit ?_
 refine Jq.thenX ?_
 refine Jq.thenX ?_
 refine Jq.blkX ?_
 refine Jq.qt<|Jc.qs<|Jc.qr<|Jl.pv (PR.qa rfl)<|Jl.qn<|Jq.qt<|Jc.ret ?_
 exact Jq.fin () (.inl rfl) rfl (RetVs.tmp rfl RetVs.nil) (by rw [eqC_iff.2 e10]; rfl) zT zF
 -- hint not used: one
theorem brsame_at {a b : Br} {x y : BrA} (hn : a.its.length ≤ 1000000) (hm : a.kps.length ≤ 1000000) (hms : a.cf.ms.length ≤ 1000000) (h : a = b) : Ct Tryz.prog 13 [a.v x, b.v y] [] (a.rd x ++ b.rd y) (fun _ : Unit => .bool true) (fun _ => []) (fun _ => []) := by
 have h0 := brsame_ct a b x y hn hm hms
 rw [eqC_iff.2 h] at h0
 exact h0
end Go.Proofs.YtakbgccddokbbaaGreatDoor
namespace Go.Proofs.YtakbgccddokbbaaGreatDoor
open Go.RowKit
attribute [local irreducible] Res.blk Res.row Fact.rd
abbrev OA := Option Addr × Nat
def natI (l : List Nat) : List Value := l.map fun n : Nat => Value.int .i64 (n : Int)
theorem shr7 (n : Int) (h : 0 ≤ n) : Int.fdiv n (2 ^ 7) = n / 128 := by rw [Int.fdiv_eq_ediv_of_nonneg _ (by decide)]; rfl
theorem sl_end (b : List UInt8) (k : Nat) : ((u8s b).drop (k * 1)).take ((b.length - k) * 1) = u8s (b.drop k) := by
 rw [List.take_of_length_le (by simp [u8s])]; simp [u8s, List.map_drop]
theorem getu {b : List UInt8} {k : Nat} (h : k < b.length) : (u8s b)[k]? = some (.int .u8 b[k].toNat) := by simp [u8s, h]
def LongI (n : Nat) (s : Nat × Nat) : Prop := s.1 + dlen (10 - s.1) s.2 = dlen 10 n ∧ s.2 < 128 ^ (10 - s.1) ∧ s.1 < 10
abbrev LongS (n : Nat) := { s : Nat × Nat // LongI n s }
theorem longI_step {n : Nat} {s : Nat × Nat} (h : LongI n s) (hd : 0 < s.2 / 128) : LongI n (s.1 + 1, s.2 / 128) := by
 obtain ⟨h1, h2, h3⟩ := h
 obtain ⟨f, hf⟩ : ∃ f, 10 - s.1 = f + 1 := ⟨9 - s.1, by omega⟩
 rw [hf] at h1 h2
 have e : dlen (f + 1) s.2 = 1 + dlen f (s.2 / 128) := by
  conv => lhs; unfold dlen
  rw [if_neg (by omega)]
 have a1 : s.2 / 128 < 128 ^ f := by rw [Nat.div_lt_iff_lt_mul (by omega)]; rw [Nat.pow_succ] at h2; exact h2
 have hf0 : 0 < f := by
  rcases Nat.eq_zero_or_pos f with e | e
  · subst e; simp at a1; omega
  · exact e
 refine ⟨?_, ?_, ?_⟩ <;> simp only [show 10 - (s.1 + 1) = f by omega]
 · omega
 · exact a1
 · omega
theorem longI_end {n : Nat} {s : Nat × Nat} (h : LongI n s) (hd : s.2 / 128 = 0) : ((s.1 + 1 : Nat) : Int) = dlen 10 n := by
 obtain ⟨h1, h2, h3⟩ := h
 obtain ⟨f, hf⟩ : ∃ f, 10 - s.1 = f + 1 := ⟨9 - s.1, by omega⟩
 rw [hf] at h1
 have e : dlen (f + 1) s.2 = 1 := by
  unfold dlen
  rw [if_pos (by omega)]
 omega
theorem long_ct (n : Int) : Ct Tryz.prog 131 [.int .i64 n] [] [] (fun _ : Unit => .int .i64 (longZ n)) (fun _ => []) (fun _ => []) := by
 by_cases hfn : fineN n = true
 · have hf : 0 ≤ n ∧ n ≤ 1099511627776 := by simpa [fineN] using hfn
   obtain ⟨m, rfl⟩ : ∃ m : Nat, n = m := ⟨n.toNat, by omega⟩
   have hz : longZ (m : Int) = dlen 10 m := by simp [longZ, hfn]
   refine Ct.of _ Tryz.func131 Tryz.ntmps131 rfl rfl (fun X W => ?_)
   refine Jc.qs<|Jc.qr<|Jl.pv (PR.qa rfl)<|Jl.qn<|Jq.qt ?_
   refine Jc.scope (σ := LongS m) (fun s => [(0, .int .i64 (s.1.2 : Int)), (2, .int .i64 (s.1.1 : Int))]) (fun _ => []) (fun _ => []) (fun s => 10 - s.1.1) (l := 0) rfl ?_ ?_
   · rintro ⟨⟨k, q⟩, hs⟩
     show Jc _ _ _ _ _ _ [(0, Value.int .i64 (q : Int)), (2, Value.int .i64 (k : Int))] [] []
     have hk : k < 10 := hs.2.2
     refine Jc.qs<|Jc.qr<|Jl.pv (PR.qm rfl) ?_
     refine Jl.pv (PR.add ((k + 1 : Nat) : Int) rfl rfl (by rw [w64 (by omega) (by omega)]; rfl)) ?_
     refine Jl.pv (PR.qa rfl)<|Jl.qn<|Jq.qt<|Jc.qs<|Jc.qs<|Jc.qr<|Jl.pv (PR.qm rfl) ?_
     refine Jl.pv (PR.shr ((q / 128 : Nat) : Int) rfl rfl (by decide) (by show Int.fdiv _ (2 ^ 7) = _; rw [shr7 _ (by omega)]; rfl)) ?_
     refine Jl.pv (PR.qa rfl)<|Jl.qn<|Jq.qt<|Jc.qs<|Jc.qr<|Jl.pv (PR.qm rfl) ?_
     refine Jl.pv (PR.gtr _ rfl rfl rfl) ?_
     refine Jl.qn<|Jq.qt ?_
     refine Jc.cond rfl (fun h0 => ?_) (fun h0 => ?_)
     · try replace h0 := zV h0
       have hq : 0 < q / 128 := by omega
       refine Jc.goto ?_
       refine Jq.thenG ?_
       exact Jq.jmpB ⟨(k + 1, q / 128), longI_step hs hq⟩ (by simp only; omega) (by exact ⟨rfl, rfl, trivial⟩) rfl trivial
     try replace h0 := zW h0
     have hq : q / 128 = 0 := by omega
     refine Jc.skip<|Jq.qt<|Jc.qs<|Jc.qr<|Jl.pv (PR.qm rfl)<|Jl.pv (PR.qa rfl)<|Jl.qn<|Jq.qt<|Jc.ret ?_
     refine Jq.jmpR ?_
     have he := longI_end hs hq
     exact Jq.fin () (.inl rfl) rfl (RetVs.tmp rfl RetVs.nil) (by rw [hz]; exact congrArg (Value.int .i64) he.symm) zT zF
   intro hfirst0
   refine Jc.qs<|Jc.qs<|Jc.qr<|Jl.pv (PR.qm rfl) ?_
   refine Jl.pv (PR.lss false rfl rfl (by simp)) ?_
   refine Jl.pv (PR.qm rfl)<|Jl.on rfl rfl<|Jl.pv (PR.qm rfl)<|Jl.on rfl rfl ?_
   refine Jl.pv (PR.gtr false rfl rfl (by simp; omega)) ?_
   refine Jl.pv (PR.pickF rfl rfl)<|Jl.qn<|Jq.qt<|Jc.condF rfl<|Jc.skip<|Jq.qt<|Jc.qs ?_
   refine Jc.label ?_
   refine Jq.qt ?_
   exact Jc.at_ hfirst0 ⟨(0, m), by simp [LongI]; omega⟩ (by exact ⟨rfl, rfl, trivial⟩) rfl trivial
 · have hz : longZ n = 0 := by simp [longZ, hfn]
   have hf : n < 0 ∨ 1099511627776 < n := by simp [fineN] at hfn; omega
   by_cases h0 : n < 0
   · skip
     refine Ct.of _ Tryz.func131 Tryz.ntmps131 rfl rfl (fun X W => ?_)
     refine Jc.qs<|Jc.qr<|Jl.pv (PR.qa rfl)<|Jl.qn<|Jq.qt ?_
     refine Jc.scope (σ := Empty) (fun s => s.elim) (fun _ => []) (fun _ => []) (fun _ => 0) (l := 0) rfl ?_ ?_
     · exact fun s => s.elim
     intro hfirst0
     refine Jc.qs<|Jc.qs<|Jc.qr<|Jl.pv (PR.qm rfl) ?_
     refine Jl.pv (PR.lss true rfl rfl (by simpa using h0)) ?_
     refine Jl.pv (PR.qm rfl)<|Jl.qo rfl rfl rfl<|Jl.qo rfl rfl rfl<|Jl.pv (PR.pickT rfl rfl)<|Jl.qn<|Jq.qt<|Jc.condT rfl<|Jc.qs<|Jc.qr<|Jl.pv (PR.qa rfl)<|Jl.qn<|Jq.qt<|Jc.ret<|Jq.thenR ?_
     refine Jq.jmpR ?_
     exact Jq.fin () (.inl rfl) rfl (RetVs.tmp rfl RetVs.nil) (by rw [hz]; rfl) zT zF
   · skip
     refine Ct.of _ Tryz.func131 Tryz.ntmps131 rfl rfl (fun X W => ?_)
     refine Jc.qs<|Jc.qr<|Jl.pv (PR.qa rfl)<|Jl.qn<|Jq.qt ?_
     refine Jc.scope (σ := Empty) (fun s => s.elim) (fun _ => []) (fun _ => []) (fun _ => 0) (l := 0) rfl ?_ ?_
     · exact fun s => s.elim
     intro hfirst0
     refine Jc.qs<|Jc.qs<|Jc.qr<|Jl.pv (PR.qm rfl) ?_
     refine Jl.pv (PR.lss false rfl rfl (by simpa using h0)) ?_
     refine Jl.pv (PR.qm rfl)<|Jl.on rfl rfl<|Jl.pv (PR.qm rfl)<|Jl.on rfl rfl ?_
     refine Jl.pv (PR.gtr true rfl rfl (by simp; omega)) ?_
     refine Jl.pv (PR.pickF rfl rfl)<|Jl.qn<|Jq.qt<|Jc.condT rfl<|Jc.qs<|Jc.qr<|Jl.pv (PR.qa rfl)<|Jl.qn<|Jq.qt<|Jc.ret<|Jq.thenR ?_
     refine Jq.jmpR ?_
     exact Jq.fin () (.inl rfl) rfl (RetVs.tmp rfl RetVs.nil) (by rw [hz]; rfl) zT zF
theorem clone_ct (A : Option Addr) (c : Nat) (l : List UInt8) (hn : l.length ≤ 10000000) :
    Ct Tryz.prog 70 [.slice A l.length c] [] [.rd A (u8s l)] (fun x : Option Addr × Nat => .slice x.1 l.length x.2) (fun x => [.row 5 1 (.slice x.1 l.length x.2) l.length (u8s l)]) (fun _ => []) := by
  cases A with
  | none =>
    refine Ct.of _ Tryz.func70 Tryz.ntmps70 rfl rfl (fun X W => ?_)
    refine Jc.pure (p := l = []) Mem.here (fun X W h => ?_) ?_
    · cases l with
      | nil => rfl
      | cons x l => exact absurd (Fact.rd_none h) (by simp [u8s])
    rintro rfl
    refine Jc.qs<|Jc.qr<|Jl.pv (PR.qa rfl)<|Jl.qn<|Jq.qt<|Jc.qs<|Jc.qs<|Jc.qr<|Jl.pv (PR.qm rfl) ?_
    refine Jl.pv (PR.eqlNil true rfl tsl25 rfl) ?_
    refine Jl.qn<|Jq.qt<|Jc.condT rfl<|Jc.qs<|Jc.qr<|Jl.pv (PR.qa rfl)<|Jl.qn<|Jq.qt<|Jc.ret<|Jq.thenR ?_
    refine Jq.nilRow 5 1 ?_
    exact Jq.fin (none, 0) (.inl rfl) rfl (RetVs.tmp rfl RetVs.nil) rfl zT zF
  | some a =>
    refine Ct.of _ Tryz.func70 Tryz.ntmps70 rfl rfl (fun X W => ?_)
    refine Jc.qs<|Jc.qr<|Jl.pv (PR.qa rfl)<|Jl.qn<|Jq.qt<|Jc.qs<|Jc.qs<|Jc.qr<|Jl.pv (PR.qm rfl) ?_
    refine Jl.pv (PR.eqlNil false rfl tsl25 rfl) ?_
    refine Jl.qn<|Jq.qt<|Jc.condF rfl<|Jc.skip<|Jq.qt<|Jc.qs<|Jc.qr ?_
    refine Jl.buildSlice (by rfl) tsl25 tzr25_0 (by rfl) (by rfl) ?_
    intro b5
    refine Jl.pv (PR.qm rfl) ?_
    refine Jl.toRow 1 0 zS (by rfl) (by rfl) ?_
    refine Jl.append l.length (u8s l) rfl rfl rfl tsl25 tze5 (by rfl) (by decide) tby5 (fun _ _ => zS) zM (by omega) rfl (by simp [u8s]) (u8s_one _) (by omega) (by decide) ?_
    intro A7 c7
    refine Jl.pv (PR.qa rfl)<|Jl.qn<|Jq.qt<|Jc.ret ?_
    exact Jq.fin (A7, c7) (.inl rfl) rfl (RetVs.tmp rfl RetVs.nil) rfl zT zF
def takeV (t : Nat × List UInt8 × Nat) (x : Option Addr × Nat) : Value := .tuple #[.int .i64 t.1, .slice x.1 t.2.1.length x.2, .int .i64 t.2.2]
def rowU (l : List UInt8) (x : Option Addr × Nat) : List Res := [.row 5 1 (.slice x.1 l.length x.2) l.length (u8s l)]
theorem take_ct (A : Option Addr) (c : Nat) (b : List UInt8) (hn : b.length ≤ 1000000) (hc : b.length ≤ c) :
 Ct Tryz.prog 145 [.slice A b.length c] [] [.rd A (u8s b)] (takeV (takeN b)) (rowU (takeN b).2.1) (fun _ => []) := by
 refine Ct.of _ Tryz.func145 Tryz.ntmps145 rfl rfl (fun X W => ?_)
 refine Jc.qs<|Jc.qr<|Jl.pv (PR.qa rfl)<|Jl.pv (PR.qa rfl)<|Jl.pv (PR.qa rfl)<|Jl.qn<|Jq.qt ?_
 refine Jc.scope (σ := { s : Nat × Nat // TakeI b s.1 s.2 }) (fun s => [(0, .slice A b.length c), (2, .int .i64 (s.1.2 : Int)), (5, .int .i64 (s.1.1 : Int))]) (fun _ => []) (fun _ => [.rd A (u8s b)]) (fun s => 6 - s.1.1) (l := 0) rfl ?_ ?_
 · rintro ⟨⟨i, acc⟩, hs0⟩
   have hs : TakeI b i acc := hs0
   show Jc _ _ _ _ _ _ [(0, Value.slice A b.length c), (2, .int .i64 (acc : Int)), (5, .int .i64 (i : Int))] [] [.rd A (u8s b)]
   have hlt6 := hs.lt
   have hle := hs.le
   refine Jc.qs ?_
   refine Jc.block ?_
   refine Jc.qs<|Jc.qr<|Jl.pv (PR.qm rfl)<|Jl.pv (PR.qm rfl) ?_
   refine Jl.pv (PR.len rfl tsl25) ?_
   refine Jl.pv (PR.eql _ rfl rfl rfl) ?_
   refine Jl.pv (PR.qa rfl)<|Jl.qn<|Jq.qt ?_
   refine Jc.cond rfl (fun h0 => ?_) (fun h0 => ?_)
   · try replace h0 := zV h0
     refine Jc.qs<|Jc.qr<|Jl.pv (PR.qa rfl)<|Jl.pv (PR.qa rfl)<|Jl.pv (PR.qa rfl)<|Jl.qn<|Jq.qt<|Jc.ret ?_
     refine Jq.blkR ?_
     refine Jq.thenR ?_
     refine Jq.jmpR ?_
     refine Jq.nilRow 5 1 ?_
     rw [hs.short (by omega)]
     exact Jq.fin (none, 0) (.inl rfl) rfl (RetVs.tmp rfl (RetVs.tmp rfl (RetVs.tmp rfl RetVs.nil))) rfl zT zF
   try replace h0 := zW h0
   have hi : i < b.length := by omega
   have hm128 : b[i].toNat % 128 < 128 := Nat.mod_lt _ (by omega)
   have hbig := hs.big _ hm128
   have hbb := b[i].toNat_lt
   refine Jc.qs<|Jc.qr<|Jl.pv (PR.qm rfl) ?_
   refine Jl.pv (PR.eql false rfl rfl (by simp; omega)) ?_
   refine Jl.pv (PR.qa rfl)<|Jl.qn<|Jq.qt<|Jc.condF rfl<|Jc.skip ?_
   refine Jq.blkN ?_
   refine Jq.qt<|Jc.qs<|Jc.qr<|Jl.pv (PR.qm rfl)<|Jl.pv (PR.qm rfl)<|Jl.pv (PR.qm rfl) ?_
   refine Jl.pv (PR.idx1 i rfl rfl tsl25 zM (by simp [u8s]) rfl hi) ?_
   refine Jl.pv (PR.loadR rfl tsh5 zM (getu hi)) ?_
   refine Jl.pv (PR.and ((b[i].toNat % 128 : Nat) : Int) rfl rfl (and127 _)) ?_
   refine Jl.pv (PR.conv ((b[i].toNat % 128 : Nat) : Int) rfl Tryz.underlying5 Tryz.underlying3 (w64 (by omega) (by omega))) ?_
   refine Jl.pv (PR.qm rfl) ?_
   refine Jl.pv (PR.mul (7 * (i : Int)) rfl rfl (w64 (by omega) (by omega))) ?_
   refine Jl.pv (PR.shl _ rfl rfl (by simp; omega) (take_shl hs _ hm128)) ?_
   refine Jl.pv (PR.or _ rfl rfl (take_or hs _ hm128)) ?_
   refine Jl.pv (PR.qa rfl)<|Jl.qn<|Jq.qt<|Jc.qs<|Jc.qr<|Jl.pv (PR.qm rfl) ?_
   refine Jl.pv (PR.add ((i + 1 : Nat) : Int) rfl rfl (by rw [w64 (by omega) (by omega)]; rfl)) ?_
   refine Jl.pv (PR.qa rfl)<|Jl.qn<|Jq.qt<|Jc.qs<|Jc.qs<|Jc.qr<|Jl.pv (PR.qm rfl)<|Jl.pv (PR.qm rfl) ?_
   refine Jl.pv (PR.sub (i : Int) rfl rfl (by rw [w64 (by omega) (by omega)]; omega)) ?_
   refine Jl.pv (PR.idx1 i rfl rfl tsl25 zM (by simp [u8s]) rfl hi) ?_
   refine Jl.pv (PR.loadR rfl tsh5 zM (getu hi)) ?_
   refine Jl.pv (PR.geq _ rfl rfl rfl) ?_
   refine Jl.pv (PR.qm rfl) ?_
   refine Jl.bsplit (fun g33 => ?_) (fun g33 => ?_)
   · try replace g33 := zV g33
     refine Jl.on rfl rfl<|Jl.pv (PR.qm rfl)<|Jl.on rfl rfl ?_
     refine Jl.pv (PR.lss _ rfl rfl rfl) ?_
     refine Jl.pv (PR.pickT rfl rfl)<|Jl.qn<|Jq.qt ?_
     refine Jc.cond rfl (fun h1 => ?_) (fun h1 => ?_)
     · try replace h1 := zV h1
       refine Jc.goto ?_
       refine Jq.thenG ?_
       exact Jq.jmpB ⟨(i + 1, acc + b[i].toNat % 128 * 128 ^ i), hs.next hi (by omega) (by omega)⟩ (by simp only; omega) (by exact ⟨rfl, rfl, rfl, trivial⟩) rfl (by exact ⟨Mem.here, trivial⟩)
     try replace h1 := zW h1
     refine Jc.skip<|Jq.qt<|Jc.qs<|Jc.qs<|Jc.qr<|Jl.pv (PR.qm rfl)<|Jl.pv (PR.qm rfl) ?_
     refine Jl.pv (PR.sub (i : Int) rfl rfl (by rw [w64 (by omega) (by omega)]; omega)) ?_
     refine Jl.pv (PR.idx1 i rfl rfl tsl25 zM (by simp [u8s]) rfl hi) ?_
     refine Jl.pv (PR.loadR rfl tsh5 zM (getu hi)) ?_
     refine Jl.pv (PR.geq true rfl rfl (by simpa using g33)) ?_
     refine Jl.pv (PR.qm rfl)<|Jl.qo rfl rfl rfl<|Jl.qo rfl rfl rfl<|Jl.qo rfl rfl rfl<|Jl.qo rfl rfl rfl<|Jl.qo rfl rfl rfl<|Jl.qo rfl rfl rfl<|Jl.qo rfl rfl rfl ?_
     refine Jl.offUS rfl rfl ?_
     refine Jl.offUS rfl rfl ?_
     refine Jl.qo rfl rfl rfl<|Jl.pv (PR.pickT rfl rfl)<|Jl.pv (PR.qm rfl)<|Jl.qo rfl rfl rfl<|Jl.qo rfl rfl rfl<|Jl.pv (PR.pickT rfl rfl)<|Jl.qn<|Jq.qt<|Jc.condT rfl<|Jc.qs<|Jc.qr<|Jl.pv (PR.qa rfl)<|Jl.pv (PR.qa rfl)<|Jl.pv (PR.qa rfl)<|Jl.qn<|Jq.qt<|Jc.ret<|Jq.thenR ?_
     refine Jq.jmpR ?_
     refine Jq.nilRow 5 1 ?_
     rw [hs.bad hi (by omega)]
     exact Jq.fin (none, 0) (.inl rfl) rfl (RetVs.tmp rfl (RetVs.tmp rfl (RetVs.tmp rfl RetVs.nil))) rfl zT zF
   try replace g33 := zW g33
   refine Jl.qo rfl rfl rfl<|Jl.qo rfl rfl rfl<|Jl.pv (PR.pickF rfl rfl)<|Jl.qn<|Jq.qt<|Jc.condF rfl<|Jc.skip<|Jq.qt<|Jc.qs<|Jc.qs<|Jc.qr<|Jl.pv (PR.qm rfl)<|Jl.pv (PR.qm rfl) ?_
   refine Jl.pv (PR.sub (i : Int) rfl rfl (by rw [w64 (by omega) (by omega)]; omega)) ?_
   refine Jl.pv (PR.idx1 i rfl rfl tsl25 zM (by simp [u8s]) rfl hi) ?_
   refine Jl.pv (PR.loadR rfl tsh5 zM (getu hi)) ?_
   refine Jl.pv (PR.geq false rfl rfl (by simpa using g33)) ?_
   refine Jl.pv (PR.qm rfl)<|Jl.on rfl rfl<|Jl.pv (PR.qm rfl)<|Jl.on rfl rfl<|Jl.pv (PR.qm rfl)<|Jl.on rfl rfl ?_
   refine Jl.pv (PR.sub (i : Int) rfl rfl (by rw [w64 (by omega) (by omega)]; omega)) ?_
   refine Jl.on rfl rfl ?_
   refine Jl.pv (PR.idx1 i rfl rfl tsl25 zM (by simp [u8s]) rfl hi) ?_
   refine Jl.on rfl rfl ?_
   refine Jl.pv (PR.loadR rfl tsh5 zM (getu hi)) ?_
   refine Jl.on rfl rfl ?_
   refine Jl.pv (PR.eql _ rfl rfl rfl) ?_
   refine Jl.on rfl rfl<|Jl.pv (PR.qm rfl) ?_
   refine Jl.bsplit (fun g50 => ?_) (fun g50 => ?_)
   · try replace g50 := zV g50
     refine Jl.on rfl rfl<|Jl.pv (PR.qm rfl)<|Jl.on rfl rfl ?_
     refine Jl.pv (PR.gtr _ rfl rfl rfl) ?_
     refine Jl.on rfl rfl<|Jl.pv (PR.pickT rfl rfl)<|Jl.pv (PR.pickF rfl rfl)<|Jl.pv (PR.qm rfl) ?_
     refine Jl.bsplit (fun g55 => ?_) (fun g55 => ?_)
     · try replace g55 := zV g55
       refine Jl.qo rfl rfl rfl<|Jl.qo rfl rfl rfl<|Jl.pv (PR.pickT rfl rfl)<|Jl.qn<|Jq.qt<|Jc.condT rfl<|Jc.qs<|Jc.qr<|Jl.pv (PR.qa rfl)<|Jl.pv (PR.qa rfl)<|Jl.pv (PR.qa rfl)<|Jl.qn<|Jq.qt<|Jc.ret<|Jq.thenR ?_
       refine Jq.jmpR ?_
       refine Jq.nilRow 5 1 ?_
       rw [hs.bad hi (by omega)]
       exact Jq.fin (none, 0) (.inl rfl) rfl (RetVs.tmp rfl (RetVs.tmp rfl (RetVs.tmp rfl RetVs.nil))) rfl zT zF
     try replace g55 := zW g55
     refine Jl.on rfl rfl<|Jl.pv (PR.qm rfl)<|Jl.on rfl rfl ?_
     refine Jl.pv (PR.gtr _ rfl rfl rfl) ?_
     refine Jl.pv (PR.pickF rfl rfl)<|Jl.qn<|Jq.qt ?_
     refine Jc.cond rfl (fun h2 => ?_) (fun h2 => ?_)
     · try replace h2 := zV h2
       refine Jc.qs<|Jc.qr<|Jl.pv (PR.qa rfl)<|Jl.pv (PR.qa rfl)<|Jl.pv (PR.qa rfl)<|Jl.qn<|Jq.qt<|Jc.ret<|Jq.thenR ?_
       refine Jq.jmpR ?_
       refine Jq.nilRow 5 1 ?_
       rw [hs.bad hi (by omega)]
       exact Jq.fin (none, 0) (.inl rfl) rfl (RetVs.tmp rfl (RetVs.tmp rfl (RetVs.tmp rfl RetVs.nil))) rfl zT zF
     try replace h2 := zW h2
     refine Jc.skip<|Jq.qt<|Jc.qs<|Jc.qr<|Jl.pv (PR.qm rfl)<|Jl.pv (PR.qm rfl)<|Jl.pv (PR.qm rfl) ?_
     refine Jl.slice (i + 1) b.length (b.length - (i + 1)) (u8s (b.drop (i + 1))) rfl tsl25 rfl rfl zM (by omega) (Nat.le_refl _) hc rfl (sl_end b (i + 1)) ?_
     intro A62 c62 hc62
     clear hc62
     rw [show b.length - (i + 1) = (b.drop (i + 1)).length by simp]
     refine Jl.call (clone_ct A62 c62 (b.drop (i + 1)) (by simp; omega)) en70 (by rfl) zT zF ?_
     rintro ⟨A63, c63⟩
     refine Jl.pv (PR.qa rfl)<|Jl.pv (PR.qa rfl)<|Jl.pv (PR.qa rfl)<|Jl.qn<|Jq.qt<|Jc.ret ?_
     refine Jq.jmpR ?_
     rw [hs.good hi (by omega) (by omega) (by omega)]
     exact Jq.fin (A63, c63) (.inl rfl) rfl (RetVs.tmp rfl (RetVs.tmp rfl (RetVs.tmp rfl RetVs.nil))) rfl zT zF
   try replace g50 := zW g50
   refine Jl.qo rfl rfl rfl<|Jl.qo rfl rfl rfl<|Jl.on rfl rfl<|Jl.pv (PR.pickF rfl rfl)<|Jl.pv (PR.pickF rfl rfl)<|Jl.pv (PR.qm rfl)<|Jl.on rfl rfl<|Jl.pv (PR.qm rfl)<|Jl.on rfl rfl ?_
   refine Jl.pv (PR.gtr _ rfl rfl rfl) ?_
   refine Jl.pv (PR.pickF rfl rfl)<|Jl.qn<|Jq.qt ?_
   refine Jc.cond rfl (fun h3 => ?_) (fun h3 => ?_)
   · try replace h3 := zV h3
     refine Jc.qs<|Jc.qr<|Jl.pv (PR.qa rfl)<|Jl.pv (PR.qa rfl)<|Jl.pv (PR.qa rfl)<|Jl.qn<|Jq.qt<|Jc.ret<|Jq.thenR ?_
     refine Jq.jmpR ?_
     refine Jq.nilRow 5 1 ?_
     rw [hs.bad hi (by omega)]
     exact Jq.fin (none, 0) (.inl rfl) rfl (RetVs.tmp rfl (RetVs.tmp rfl (RetVs.tmp rfl RetVs.nil))) rfl zT zF
   try replace h3 := zW h3
   refine Jc.skip<|Jq.qt<|Jc.qs<|Jc.qr<|Jl.pv (PR.qm rfl)<|Jl.pv (PR.qm rfl)<|Jl.pv (PR.qm rfl) ?_
   refine Jl.slice (i + 1) b.length (b.length - (i + 1)) (u8s (b.drop (i + 1))) rfl tsl25 rfl rfl zM (by omega) (Nat.le_refl _) hc rfl (sl_end b (i + 1)) ?_
   intro A62 c62 hc62
   clear hc62
   rw [show b.length - (i + 1) = (b.drop (i + 1)).length by simp]
   refine Jl.call (clone_ct A62 c62 (b.drop (i + 1)) (by simp; omega)) en70 (by rfl) zT zF ?_
   rintro ⟨A63, c63⟩
   refine Jl.pv (PR.qa rfl)<|Jl.pv (PR.qa rfl)<|Jl.pv (PR.qa rfl)<|Jl.qn<|Jq.qt<|Jc.ret ?_
   refine Jq.jmpR ?_
   rw [hs.good hi (by omega) (by omega) (by omega)]
   exact Jq.fin (A63, c63) (.inl rfl) rfl (RetVs.tmp rfl (RetVs.tmp rfl (RetVs.tmp rfl RetVs.nil))) rfl zT zF
 intro hfirst0
 refine Jc.qs<|Jc.qr<|Jl.pv (PR.qa rfl)<|Jl.qn<|Jq.qt<|Jc.qs ?_
 refine Jc.label ?_
 refine Jq.qt ?_
 exact Jc.at_ hfirst0 ⟨(0, 0), TakeI.zero b⟩ (by exact ⟨rfl, rfl, rfl, trivial⟩) rfl (by exact ⟨Mem.here, trivial⟩)
end Go.Proofs.YtakbgccddokbbaaGreatDoor
namespace Go.Proofs.YtakbgccddokbbaaGreatDoor
open Go.RowKit
attribute [local irreducible] Res.blk Res.row Fact.rd
def dvals (n k : Nat) : List Value := [.int .u8 (n / 128 ^ k % 128 : Nat), .bool (decide (n / 128 ^ k < 128))]
theorem digits1_it (n : Nat) (hn : n ≤ 1099511627776) (b : Nat) : It Tryz.prog 150 [.pointer (some ⟨b, 0, none⟩)] [.blk b 3 [.int .i64 n]] [] (dlen 10 n) (dvals n) := by
 refine It.of _ Tryz.func150 Tryz.ntmps150 rfl rfl (by rfl) (by simp) (fun W l cl clx hy => ?_)
 refine Jc.scope (σ := { k : Nat // k < dlen 10 n }) (fun s => [(0, .func (.yield l) #[] #[]), (1, .pointer (some ⟨b, 0, none⟩))]) (fun s => [.blk b 3 [.int .i64 (n / 128 ^ s.1 : Nat)]]) (fun s => [cl s.1]) (fun s => 10 - s.1) (l := 0) rfl ?_ ?_
 · rintro ⟨k, hk⟩
   show Jc _ _ _ _ _ _ [(0, Value.func (.yield l) #[] #[]), (1, .pointer (some ⟨b, 0, none⟩))] [.blk b 3 [.int .i64 (n / 128 ^ k : Nat)]] [cl k]
   have hq : n / 128 ^ k ≤ n := Nat.div_le_self _ _
   have hlast := dlen_last 10 n k (p128_10 n hn) hk
   refine Jc.qs<|Jc.qs<|Jc.qr<|Jl.pv (PR.qm rfl) ?_
   refine Jl.pv (PR.load1 rfl tsh3 zH (by rfl)) ?_
   refine Jl.pv (PR.and ((n / 128 ^ k % 128 : Nat) : Int) rfl rfl (andI127 _ (by omega))) ?_
   refine Jl.pv (PR.conv ((n / 128 ^ k % 128 : Nat) : Int) rfl Tryz.underlying3 Tryz.underlying5 (by rw [IntKind.wrap_u8]; omega)) ?_
   refine Jl.pv (PR.load1 rfl tsh3 zH (by rfl)) ?_
   refine Jl.pv (PR.lss (decide (n / 128 ^ k < 128)) rfl rfl (decide_eq_decide.2 (Int.ofNat_lt (m := 128)))) ?_
   refine hy _ _ _ _ _ _ _ _ _ _ _ _ _ _ k hk rfl rfl zM rfl ?_ ?_
   · refine Jl.pv (PR.not rfl) ?_
     refine Jl.pv (PR.qm rfl)<|Jl.on rfl rfl ?_
     refine Jl.pv (PR.load1 rfl tsh3 zH (by rfl)) ?_
     refine Jl.on rfl rfl ?_
     refine Jl.pv (PR.lss (decide (n / 128 ^ k < 128)) rfl rfl (decide_eq_decide.2 (Int.ofNat_lt (m := 128)))) ?_
     refine Jl.pv (PR.pickF rfl rfl)<|Jl.qn<|Jq.qt ?_
     refine Jc.cond rfl (fun h0 => ?_) (fun h0 => ?_)
     · try replace h0 := zV h0
       refine Jc.ret<|Jq.thenR ?_
       refine Jq.jmpR ?_
       rw [hlast.1 h0]; exact Jq.itDone (.inl rfl) zM
     try replace h0 := zW h0
     refine Jc.skip<|Jq.qt<|Jc.qs<|Jc.qr ?_
     refine Jl.pv (PR.load1 rfl tsh3 zH (by rfl)) ?_
     refine Jl.pv (PR.shr ((n / 128 ^ (k + 1) : Nat) : Int) rfl rfl (by decide) (by show Int.fdiv _ (2 ^ 7) = _; rw [shr7 _ (by omega)]; exact congrArg Nat.cast (div128 n k))) ?_
     refine Jl.store1 rfl tsh3 rfl (by rfl) zS (by rfl) ?_
     refine Jl.qn<|Jq.qt ?_
     refine Jc.goto ?_
     exact Jq.jmpB ⟨k + 1, by have := fun h => h0 (hlast.2 h); omega⟩ (by have := dlen_le 10 n; simp only; omega) (by exact ⟨rfl, rfl, trivial⟩) rfl (by exact ⟨Mem.here, trivial⟩)
   refine Jl.pv (PR.not rfl) ?_
   refine Jl.pv (PR.qm rfl)<|Jl.qo rfl rfl rfl<|Jl.qo rfl rfl rfl<|Jl.pv (PR.pickT rfl rfl)<|Jl.qn<|Jq.qt<|Jc.condT rfl<|Jc.ret<|Jq.thenR ?_
   refine Jq.jmpR ?_
   exact Jq.itStop (.inl rfl) hk zM
 intro hfirst0
 refine Jc.qs ?_
 refine Jc.label ?_
 refine Jq.qt ?_
 exact Jc.at_ hfirst0 ⟨0, dlen0 n⟩ (by exact ⟨rfl, rfl, trivial⟩) (by simp) (by exact ⟨Mem.here, trivial⟩)
theorem digits_ct (n : Nat) : Ct Tryz.prog 147 [.int .i64 n] [] [] (fun b : Nat => .func (.func 150) #[] #[.pointer (some ⟨b, 0, none⟩)]) (fun b => [.blk b 3 [.int .i64 n]]) (fun _ => []) := by
 refine Ct.of _ Tryz.func147 Tryz.ntmps147 rfl rfl (fun X W => ?_)
 refine Jc.qs<|Jc.qr ?_
 refine Jl.box rfl (by rfl) ?_
 intro b1
 refine Jl.pv (PR.qa rfl)<|Jl.qn<|Jq.qt<|Jc.qs<|Jc.qr ?_
 refine Jl.pv (PR.makeFunc rfl rfl) ?_
 refine Jl.pv (PR.qa rfl)<|Jl.qn<|Jq.qt<|Jc.ret ?_
 exact Jq.fin b1 (.inl rfl) rfl (RetVs.tmp rfl RetVs.nil) rfl zT zF
theorem digs_step (n k : Nat) (hn : n ≤ 1099511627776) (hk : k < dlen 10 n) : (digs 10 n).take (k + 1) = (digs 10 n).take k ++ [UInt8.ofNat (n / 128 ^ k % 128 + if n / 128 ^ k < 128 then 0 else 128)] := by
 have hl : k < (digs 10 n).length := by rw [digs_len]; exact hk
 rw [List.take_succ_eq_append_getElem hl, dig_at 10 n k (p128_10 n hn) hl]
theorem digs_app (ys : List UInt8) (n k x : Nat) (hn : n ≤ 1099511627776) (hk : k < dlen 10 n) (hx : x = n / 128 ^ k % 128 + if n / 128 ^ k < 128 then 0 else 128) :
 u8s (ys ++ (digs 10 n).take k) ++ [Value.int .u8 (x : Int)] = u8s (ys ++ (digs 10 n).take (k + 1)) := by
 subst hx
 rw [digs_step n k hn hk]
 have h : n / 128 ^ k % 128 < 128 := Nat.mod_lt _ (by omega)
 have h2 : (n / 128 ^ k % 128 + if n / 128 ^ k < 128 then 0 else 128) < 256 := by split <;> omega
 simp only [u8s, List.map_append, List.map_cons, List.map_nil, List.append_assoc, UInt8.toNat_ofNat', show (2:Nat) ^ 8 = 256 from rfl, Nat.mod_eq_of_lt h2]
theorem digs_lt (ys : List UInt8) (n k : Nat) (hn : n ≤ 1099511627776) (hk : k < dlen 10 n) : (ys ++ (digs 10 n).take k).length + 1 = (ys ++ (digs 10 n).take (k + 1)).length ∧ (ys ++ (digs 10 n).take k).length ≤ ys.length + 10 := by
 have := dlen_le 10 n
 simp [digs_len]; omega
theorem digs_all (n : Nat) : (digs 10 n).take (dlen 10 n) = putB n := by rw [List.take_of_length_le (by rw [digs_len]; exact Nat.le_refl _)]; rfl
theorem put_ct (ys : List UInt8) (A : Option Addr) (c n : Nat) (hn : n ≤ 1099511627776) (hy : ys.length ≤ 10000) :
 Ct Tryz.prog 132 [.slice A ys.length c, .int .i64 n] (rowU ys (A, c)) [] (fun x : Option Addr × Nat => .slice x.1 (ys ++ putB n).length x.2) (rowU (ys ++ putB n)) (fun _ => []) := by
 refine Ct.of _ Tryz.func132 Tryz.ntmps132 rfl rfl (fun X W => ?_)
 refine Jc.qs<|Jc.qr ?_
 refine Jl.box rfl (by rfl) ?_
 intro b2
 refine Jl.pv (PR.qa rfl)<|Jl.qn<|Jq.qt<|Jc.qs<|Jc.qs<|Jc.qr<|Jl.pv (PR.qm rfl) ?_
 refine Jl.call (digits_ct n) en147 (by rfl) zT zF ?_
 rintro b8
 refine Jl.qn<|Jq.qt ?_
 refine Jc.block ?_
 refine Jc.range (σ := (k : Nat) × (Option Addr × Nat)) (τ := Empty) (Inv := fun k s => s.1 = k) (Rs := fun s => [.blk b2 25 [.slice s.2.1 (ys ++ (digs 10 n).take s.1).length s.2.2], .row 5 1 (.slice s.2.1 (ys ++ (digs 10 n).take s.1).length s.2.2) (ys ++ (digs 10 n).take s.1).length (u8s (ys ++ (digs 10 n).take s.1))]) (Φs := fun _ => []) (InvX := fun _ _ _ => False) (RsX := fun _ => []) (ΦsX := fun _ => []) (vals := dvals n) rfl en150 (digits1_it n hn b8) zT trivial (fun _ => rfl) rfl ⟨0, A, c⟩ rfl (by simp [rowU]) trivial ?_ ?_ ?_
 · rintro k ⟨j, A', c'⟩ hk hj l C1
   obtain rfl : k = j := hj.symm
   have hlt := digs_lt ys n k hn hk
   have hmod : n / 128 ^ k % 128 < 128 := Nat.mod_lt _ (by omega)
   show Jc _ _ _ _ _ _ (psetL [9, 10] [.int .u8 (n / 128 ^ k % 128 : Nat), .bool (decide (n / 128 ^ k < 128))] _) [.blk b2 25 [.slice A' (ys ++ (digs 10 n).take k).length c'], .row 5 1 (.slice A' (ys ++ (digs 10 n).take k).length c') (ys ++ (digs 10 n).take k).length (u8s (ys ++ (digs 10 n).take k))] []
   refine Jc.qs<|Jc.qr<|Jl.pv (PR.qa rfl)<|Jl.qn<|Jq.qt<|Jc.qr<|Jl.pv (PR.qa rfl)<|Jl.qn ?_
   refine Jq.assigned (fun C2 => ?_)
   refine Jc.block ?_
   refine Jc.qs<|Jc.qs<|Jc.qr<|Jl.pv (PR.qm rfl) ?_
   refine Jl.pv (PR.not rfl) ?_
   refine Jl.qn<|Jq.qt ?_
   refine Jc.cond rfl (fun h0 => ?_) (fun h0 => ?_)
   · try replace h0 := zV h0
     replace h0 : ¬ n / 128 ^ k < 128 := by simpa using h0
     refine Jc.qr<|Jl.pv (PR.qm rfl) ?_
     refine Jl.pv (PR.or ((n / 128 ^ k % 128 + 128 : Nat) : Int) rfl rfl (orU128 _ hmod)) ?_
     refine Jl.pv (PR.qa rfl)<|Jl.qn<|Jq.qt<|Jc.qr ?_
     refine Jl.pv (PR.load1 rfl tsh25 zH (by rfl)) ?_
     refine Jl.pv (PR.qm rfl) ?_
     refine Jl.buildSlice (by rfl) tsl25 tzr25_1 (by rfl) (by rfl) ?_
     intro b17
     refine Jl.seal zD ?_
     refine Jl.append (ys ++ (digs 10 n).take (k + 1)).length (u8s (ys ++ (digs 10 n).take (k + 1))) rfl rfl rfl tsl25 tze5 (by rfl) (by decide) tby5 (fun _ _ => zS) zM hlt.1 (digs_app ys n k _ hn hk (by rw [if_neg h0])) rfl (by simp [Value.oneCell']) (by omega) (by decide) ?_
     intro A18 c18
     refine Jl.store1 rfl tsh25 rfl (by rfl) zS (by rfl) ?_
     refine Jl.qn ?_
     refine Jq.blkN ?_
     exact Jq.next ⟨k + 1, A18, c18⟩ rfl rfl trivial
   try replace h0 := zW h0
   replace h0 : n / 128 ^ k < 128 := by simpa using h0
   refine Jc.skip<|Jq.qt<|Jc.qr ?_
   refine Jl.pv (PR.load1 rfl tsh25 zH (by rfl)) ?_
   refine Jl.pv (PR.qm rfl) ?_
   refine Jl.buildSlice (by rfl) tsl25 tzr25_1 (by rfl) (by rfl) ?_
   intro b17
   refine Jl.seal zD ?_
   refine Jl.append (ys ++ (digs 10 n).take (k + 1)).length (u8s (ys ++ (digs 10 n).take (k + 1))) rfl rfl rfl tsl25 tze5 (by rfl) (by decide) tby5 (fun _ _ => zS) zM hlt.1 (digs_app ys n k _ hn hk (by rw [if_pos h0, Nat.add_zero])) rfl (by simp [Value.oneCell']) (by omega) (by decide) ?_
   intro A18 c18
   refine Jl.store1 rfl tsh25 rfl (by rfl) zS (by rfl) ?_
   refine Jl.qn ?_
   refine Jq.blkN ?_
   exact Jq.next ⟨k + 1, A18, c18⟩ rfl rfl trivial
 · rintro ⟨j, A', c'⟩ D0 hj
   obtain rfl : j = dlen 10 n := hj
   show Jq _ _ _ .normal _ [.mark D0, .blk b2 25 [.slice A' (ys ++ (digs 10 n).take (dlen 10 n)).length c'], .row 5 1 (.slice A' (ys ++ (digs 10 n).take (dlen 10 n)).length c') (ys ++ (digs 10 n).take (dlen 10 n)).length (u8s (ys ++ (digs 10 n).take (dlen 10 n)))] []
   rw [digs_all]
   refine Jq.blkN ?_
   refine Jq.qt<|Jc.qs<|Jc.qr ?_
   refine Jl.pv (PR.load1 rfl tsh25 zH (by rfl)) ?_
   refine Jl.pv (PR.qa rfl)<|Jl.qn<|Jq.qt<|Jc.ret ?_
   exact Jq.finM (Ds := [D0]) (A', c') (.inl rfl) rfl zT (RetVs.tmp rfl RetVs.nil) rfl zT zF
 exact fun _ _ t => t.elim
end Go.Proofs.YtakbgccddokbbaaGreatDoor
namespace Go.Proofs.YtakbgccddokbbaaGreatDoor
open Go.RowKit
attribute [local irreducible] Res.blk Res.row Fact.rd
theorem put1_ct (n : Int) : Ct Tryz.prog 112 [.int .i64 n] [] [] (fun x : Option Addr × Nat => .tuple #[.slice x.1 (putN n).length x.2, .int .i64 (putR n)]) (rowU (putN n)) (fun _ => []) := by
 by_cases hfn : fineN n = true
 · have hf : 0 ≤ n ∧ n ≤ 1099511627776 := by simpa [fineN] using hfn
   obtain ⟨m, rfl⟩ : ∃ m : Nat, n = m := ⟨n.toNat, by omega⟩
   have e1 : putN (m : Int) = putB m := if_pos hfn
   have e2 : putR (m : Int) = 0 := if_pos hfn
   rw [e1, e2]
   refine Ct.of _ Tryz.func112 Tryz.ntmps112 rfl rfl (fun X W => ?_)
   refine Jc.qs<|Jc.qr<|Jl.pv (PR.qa rfl)<|Jl.pv (PR.qa rfl)<|Jl.qn<|Jq.qt<|Jc.qs<|Jc.qs<|Jc.qr<|Jl.pv (PR.qm rfl) ?_
   refine Jl.call (long_ct m) en131 (by rfl) zT zF ?_
   rintro ⟨⟩
   refine Jl.pv (PR.eql false rfl rfl (by have := longZ_eq0 (m : Int); simp [hfn] at this; simpa using this)) ?_
   refine Jl.qn<|Jq.qt<|Jc.condF rfl<|Jc.skip<|Jq.qt<|Jc.qs<|Jc.qr<|Jl.pv (PR.qm rfl) ?_
   refine Jl.nilRow 5 1 ?_
   refine Jl.call (put_ct [] none 0 m (by omega) (by simp)) en132 (by rfl) zT zF ?_
   rintro ⟨A8, c8⟩
   refine Jl.pv (PR.qa rfl)<|Jl.pv (PR.qa rfl)<|Jl.qn<|Jq.qt<|Jc.ret ?_
   exact Jq.fin (A8, c8) (.inl rfl) rfl (RetVs.tmp rfl (RetVs.tmp rfl RetVs.nil)) rfl zT zF
 · have hz := (longZ_eq0 n).2 (by simpa using hfn)
   have e1 : putN n = [] := if_neg hfn
   have e2 : putR n = 2 := if_neg hfn
   rw [e1, e2]
   refine Ct.of _ Tryz.func112 Tryz.ntmps112 rfl rfl (fun X W => ?_)
   refine Jc.qs<|Jc.qr<|Jl.pv (PR.qa rfl)<|Jl.pv (PR.qa rfl)<|Jl.qn<|Jq.qt<|Jc.qs<|Jc.qs<|Jc.qr<|Jl.pv (PR.qm rfl) ?_
   refine Jl.call (long_ct n) en131 (by rfl) zT zF ?_
   rintro ⟨⟩
   refine Jl.pv (PR.eql true rfl rfl (by simpa using hz)) ?_
   refine Jl.qn<|Jq.qt<|Jc.condT rfl<|Jc.qs<|Jc.qr<|Jl.pv (PR.qa rfl)<|Jl.pv (PR.qa rfl)<|Jl.qn<|Jq.qt<|Jc.ret<|Jq.thenR ?_
   refine Jq.nilRow 5 1 ?_
   exact Jq.fin (none, 0) (.inl rfl) rfl (RetVs.tmp rfl (RetVs.tmp rfl RetVs.nil)) rfl zT zF
theorem put1_at {n : Int} {l : List UInt8} {r : Int} (h : putN n = l) (h2 : putR n = r) : Ct Tryz.prog 112 [.int .i64 n] [] [] (fun x : Option Addr × Nat => .tuple #[.slice x.1 l.length x.2, .int .i64 r]) (rowU l) (fun _ => []) := by
 subst h h2; exact put1_ct n
theorem take_at {A : Option Addr} {c : Nat} {b : List UInt8} {t : Nat × List UInt8 × Nat} (h : takeN b = t) (hn : b.length ≤ 1000000) (hc : b.length ≤ c) : Ct Tryz.prog 145 [.slice A b.length c] [] [.rd A (u8s b)] (takeV t) (rowU t.2.1) (fun _ => []) := by
 subst h; exact take_ct A c b hn hc
theorem put_fine {a : Int} (h : fineN a = true) : Ct Tryz.prog 112 [.int .i64 a] [] [] (fun x : Option Addr × Nat => .tuple #[.slice x.1 (putB a).length x.2, .int .i64 0]) (rowU (putB a)) (fun _ => []) := put1_at (if_pos h) (if_pos h)
theorem sl_take (b : List UInt8) (k : Nat) : ((u8s b).drop (0 * 1)).take (k * 1) = u8s (b.take k) := by simp [u8s]
end Go.Proofs.YtakbgccddokbbaaGreatDoor
namespace Go.Proofs.YtakbgccddokbbaaGreatDoor
open Go.RowKit
attribute [local irreducible] Res.blk Res.row Fact.rd
theorem row1_ct (n : Int) : Ct Tryz.prog 130 [.int .i64 n] [] [] (fun _ : Unit => .bool (!fineN n)) (fun _ => []) (fun _ => []) := by
 refine Ct.of _ Tryz.func130 Tryz.ntmps130 rfl rfl (fun X W => ?_)
 refine Jc.qs<|Jc.qr<|Jl.pv (PR.qa rfl)<|Jl.qn<|Jq.qt<|Jc.qs<|Jc.qr<|Jl.pv (PR.qm rfl) ?_
 refine Jl.call (long_ct n) en131 (by rfl) zT zF ?_
 rintro ⟨⟩
 refine Jl.pv (PR.eql (!fineN n) rfl rfl (by rw [Bool.eq_iff_iff]; simp [longZ_eq0])) ?_
 refine Jl.pv (PR.qa rfl)<|Jl.qn<|Jq.qt<|Jc.ret ?_
 exact Jq.fin () (.inl rfl) rfl (RetVs.tmp rfl RetVs.nil) rfl zT zF
theorem row_ct (A : Option Addr) (c : Nat) (l : List Int) (hl : l.length ≤ 1000) : Ct Tryz.prog 110 [.slice A l.length c] [] [.rd A (l.map (Value.int .i64))] (fun x : Option Addr × Nat => .tuple #[.slice x.1 (rowN l).length x.2, .int .i64 (rowR l)]) (rowU (rowN l)) (fun _ => []) := by
 by_cases hok : rowOk l = true
 · have ho : l.length ≤ 40 ∧ l.any (fun n => !fineN n) = false := by simpa only [rowOk, Bool.and_eq_true, decide_eq_true_eq, Bool.not_eq_true'] using hok
   have hfl := flat_len l
   have hfine : ∀ n ∈ l, 0 ≤ n ∧ n ≤ 1099511627776 := fun n hn => by
    have := List.any_eq_false.1 ho.2 n hn
    simpa [fineN] using this
   have e1 : rowN l = rowsB l := if_pos hok
   have e2 : rowR l = 0 := if_pos hok
   rw [e1, e2]
   refine Ct.of _ Tryz.func110 Tryz.ntmps110 rfl rfl (fun X W => ?_)
   refine Jc.qs<|Jc.qr<|Jl.pv (PR.qa rfl)<|Jl.pv (PR.qa rfl)<|Jl.qn<|Jq.qt<|Jc.qs<|Jc.qs<|Jc.qr<|Jl.pv (PR.qm rfl) ?_
   refine Jl.pv (PR.len rfl tsl23) ?_
   refine Jl.pv (PR.gtr false rfl rfl (by simp; omega)) ?_
   refine Jl.pv (PR.qm rfl)<|Jl.on rfl rfl<|Jl.pv (PR.qm rfl)<|Jl.on rfl rfl ?_
   refine Jl.call (contains_ct (fun n => !fineN n) A c l (by omega) 130 row1_ct en130) en74 (by rfl) zT zF ?_
   rintro ⟨⟩
   refine Jl.as (.bool false) (congrArg Value.bool ho.2) ?_
   refine Jl.pv (PR.pickF rfl rfl)<|Jl.qn<|Jq.qt<|Jc.condF rfl<|Jc.skip<|Jq.qt<|Jc.qs<|Jc.qr<|Jl.pv (PR.qm rfl) ?_
   refine Jl.pv (PR.len rfl tsl23) ?_
   refine Jl.nilRow 5 1 ?_
   refine Jl.call (put_ct [] none 0 l.length (by omega) (by simp)) en132 (by rfl) zT zF ?_
   rintro ⟨A16, c16⟩
   refine Jl.pv (PR.qa rfl)<|Jl.qn<|Jq.qt<|Jc.qs<|Jc.qs<|Jc.qr<|Jl.pv (PR.qm rfl) ?_
   refine Jl.pv (PR.len rfl tsl23) ?_
   refine Jl.pv (PR.qm rfl)<|Jl.qn<|Jq.qt ?_
   refine Jc.block ?_
   refine Jc.loop (σ := (k : { k : Nat // k ≤ l.length }) × (Option Addr × Nat)) (fun s => [(19, .int .i64 (s.1.1 : Int)), (18, .int .i64 (l.length : Int)), (17, .slice A l.length c), (4, .slice s.2.1 (putB l.length ++ (l.take s.1.1).flatMap putB).length s.2.2)]) (fun s => rowU (putB l.length ++ (l.take s.1.1).flatMap putB) s.2) (fun _ => [.rd A (l.map (Value.int .i64))]) (fun s => l.length - s.1.1) ⟨⟨0, Nat.zero_le _⟩, A16, c16⟩ (by exact ⟨rfl, rfl, rfl, by simp [elook], trivial⟩) (by simp [rowU]) (by exact ⟨Mem.here, trivial⟩) ?_
   rintro ⟨⟨k, hk⟩, A', c'⟩
   show Jc _ _ _ _ _ _ [(19, Value.int .i64 (k : Int)), (18, Value.int .i64 (l.length : Int)), (17, .slice A l.length c), (4, .slice A' (putB l.length ++ (l.take k).flatMap putB).length c')] (rowU (putB l.length ++ (l.take k).flatMap putB) (A', c')) [.rd A (l.map (Value.int .i64))]
   refine Jc.qs<|Jc.qr ?_
   refine Jl.pv (PR.lss _ rfl rfl rfl) ?_
   refine Jl.qn<|Jq.qt<|Jc.qs ?_
   refine Jc.cond rfl (fun hlt => ?_) (fun hlt => ?_)
   · try replace hlt := zV hlt
     have hlt' : k < l.length := by omega
     have hfk := hfine l[k] (List.getElem_mem _)
     have hf10 := flat_len (l.take k)
     have hp10 := putB_len (l.length : Int)
     obtain ⟨v, hv⟩ : ∃ v : Nat, l[k] = v := ⟨l[k].toNat, by omega⟩
     have hstep : putB l.length ++ (l.take (k + 1)).flatMap putB = putB l.length ++ (l.take k).flatMap putB ++ putB v := by rw [List.take_succ_eq_append_getElem hlt', hv]; simp
     refine Jc.skip<|Jq.qt<|Jc.qs ?_
     refine Jc.block ?_
     refine Jc.qs<|Jc.qr ?_
     refine Jl.pv (PR.idx1 k rfl rfl tsl23 zM (by simp) rfl hlt') ?_
     refine Jl.pv (PR.loadR rfl tsh3 zM ((getm hlt').trans (congrArg (fun x => some (Value.int .i64 x)) hv))) ?_
     refine Jl.pv (PR.qa rfl)<|Jl.qn<|Jq.qt<|Jc.qr<|Jl.pv (PR.qm rfl)<|Jl.pv (PR.qm rfl) ?_
     refine Jl.call (put_ct (putB l.length ++ (l.take k).flatMap putB) A' c' v (by omega) (by simp only [List.length_append, List.length_take] at *; omega)) en132 (by rfl) zT zF ?_
     rintro ⟨A25, c25⟩
     refine Jl.pv (PR.qa rfl)<|Jl.qn ?_
     refine Jq.blkN ?_
     refine Jq.qt<|Jc.qr ?_
     refine Jl.pv (PR.add ((k + 1 : Nat) : Int) rfl rfl (by rw [w64 (by omega) (by omega)]; rfl)) ?_
     refine Jl.pv (PR.qm rfl)<|Jl.qn ?_
     refine Jq.again ⟨⟨k + 1, hlt'⟩, A25, c25⟩ (by simp only; omega) (by exact ⟨rfl, rfl, rfl, by rw [hstep]; rfl, trivial⟩) (by simp only [hstep, List.append_nil]) (by exact ⟨Mem.here, trivial⟩)
   try replace hlt := zW hlt
   have hkl : k = l.length := by omega
   have hall : putB l.length ++ (l.take k).flatMap putB = rowsB l := by rw [hkl, List.take_length]; rfl
   rw [hall]
   refine Jc.exit ?_
   refine Jq.thenX ?_
   refine Jq.thenX ?_
   refine Jq.blkX ?_
   refine Jq.qt<|Jc.qs<|Jc.qr<|Jl.pv (PR.qm rfl)<|Jl.pv (PR.qa rfl)<|Jl.pv (PR.qa rfl)<|Jl.qn<|Jq.qt<|Jc.ret ?_
   exact Jq.fin (A', c') (.inl rfl) rfl (RetVs.tmp rfl (RetVs.tmp rfl RetVs.nil)) rfl zT zF
 · have e1 : rowN l = [] := if_neg hok
   have e2 : rowR l = 2 := if_neg hok
   rw [e1, e2]
   by_cases h40 : l.length ≤ 40
   · have ho : l.any (fun n => !fineN n) = true := by
      simp only [rowOk, Bool.and_eq_true, decide_eq_true_eq, Bool.not_eq_true', not_and] at hok
      simpa only [Bool.not_eq_false] using hok h40
     refine Ct.of _ Tryz.func110 Tryz.ntmps110 rfl rfl (fun X W => ?_)
     refine Jc.qs<|Jc.qr<|Jl.pv (PR.qa rfl)<|Jl.pv (PR.qa rfl)<|Jl.qn<|Jq.qt<|Jc.qs<|Jc.qs<|Jc.qr<|Jl.pv (PR.qm rfl) ?_
     refine Jl.pv (PR.len rfl tsl23) ?_
     refine Jl.pv (PR.gtr false rfl rfl (by simp; omega)) ?_
     refine Jl.pv (PR.qm rfl)<|Jl.on rfl rfl<|Jl.pv (PR.qm rfl)<|Jl.on rfl rfl ?_
     refine Jl.call (contains_ct (fun n => !fineN n) A c l (by omega) 130 row1_ct en130) en74 (by rfl) zT zF ?_
     rintro ⟨⟩
     refine Jl.as (.bool true) (congrArg Value.bool ho) ?_
     refine Jl.pv (PR.pickF rfl rfl)<|Jl.qn<|Jq.qt<|Jc.condT rfl<|Jc.qs<|Jc.qr<|Jl.pv (PR.qa rfl)<|Jl.pv (PR.qa rfl)<|Jl.qn<|Jq.qt<|Jc.ret<|Jq.thenR ?_
     refine Jq.nilRow 5 1 ?_
     exact Jq.fin (none, 0) (.inl rfl) rfl (RetVs.tmp rfl (RetVs.tmp rfl RetVs.nil)) rfl zT zF
   · skip
     refine Ct.of _ Tryz.func110 Tryz.ntmps110 rfl rfl (fun X W => ?_)
     refine Jc.qs<|Jc.qr<|Jl.pv (PR.qa rfl)<|Jl.pv (PR.qa rfl)<|Jl.qn<|Jq.qt<|Jc.qs<|Jc.qs<|Jc.qr<|Jl.pv (PR.qm rfl) ?_
     refine Jl.pv (PR.len rfl tsl23) ?_
     refine Jl.pv (PR.gtr true rfl rfl (by simp; omega)) ?_
     refine Jl.pv (PR.qm rfl)<|Jl.qo rfl rfl rfl<|Jl.qo rfl rfl rfl<|Jl.pv (PR.pickT rfl rfl)<|Jl.qn<|Jq.qt<|Jc.condT rfl<|Jc.qs<|Jc.qr<|Jl.pv (PR.qa rfl)<|Jl.pv (PR.qa rfl)<|Jl.qn<|Jq.qt<|Jc.ret<|Jq.thenR ?_
     refine Jq.nilRow 5 1 ?_
     exact Jq.fin (none, 0) (.inl rfl) rfl (RetVs.tmp rfl (RetVs.tmp rfl RetVs.nil)) rfl zT zF
def takeRowV (t : List Nat × List UInt8 × Nat) (x : OA × OA) : Value := .tuple #[.slice x.1.1 t.1.length x.1.2, .slice x.2.1 t.2.1.length x.2.2, .int .i64 t.2.2]
abbrev TRS (b : List UInt8) (n : Nat) := { s : (List Nat × List UInt8 × Nat) × OA × OA // TRowI b n s.1.1 s.1.2.1 s.1.2.2 ∧ s.1.2.1.length ≤ s.2.2.2 }
theorem takeRow_ct (A : Option Addr) (c : Nat) (b : List UInt8) (hn : b.length ≤ 1000000) (hc : b.length ≤ c) :
 Ct Tryz.prog 127 [.slice A b.length c] [] [.rd A (u8s b)] (takeRowV (takeRowN b)) (fun x => [.row 3 1 (.slice x.1.1 (takeRowN b).1.length x.1.2) (takeRowN b).1.length (natI (takeRowN b).1)]) (fun x => [.rd x.2.1 (u8s (takeRowN b).2.1), .is ((takeRowN b).2.1.length ≤ x.2.2)]) := by
 refine Ct.of _ Tryz.func127 Tryz.ntmps127 rfl rfl (fun X W => ?_)
 refine Jc.qs<|Jc.qr<|Jl.pv (PR.qa rfl)<|Jl.pv (PR.qa rfl)<|Jl.pv (PR.qa rfl)<|Jl.qn<|Jq.qt<|Jc.qs<|Jc.qr<|Jl.pv (PR.qm rfl) ?_
 refine Jl.call (take_ct A c b hn hc) en145 (by rfl) zT zF ?_
 rintro ⟨A9, c9⟩
 refine Jl.sealC zD (fun hc9 => ?_)
 refine Jl.pv (PR.qm rfl) ?_
 refine Jl.pv (PR.extract rfl (by rfl)) ?_
 refine Jl.pv (PR.extract rfl (by rfl)) ?_
 refine Jl.pv (PR.extract rfl (by rfl)) ?_
 refine Jl.pv (PR.qa rfl)<|Jl.pv (PR.qa rfl)<|Jl.pv (PR.qa rfl)<|Jl.qn<|Jq.qt ?_
 refine Jc.nilRow 3 1 ?_
 refine Jc.mid (σ := TRS b (takeN b).1) (fun s => [(2, .slice s.1.2.1.1 s.1.1.1.length s.1.2.1.2), (3, .slice s.1.2.2.1 s.1.1.2.1.length s.1.2.2.2), (4, .int .i64 (s.1.1.2.2 : Int)), (5, .int .i64 ((takeN b).1 : Int))]) (fun s => [.row 3 1 (.slice s.1.2.1.1 s.1.1.1.length s.1.2.1.2) s.1.1.1.length (natI s.1.1.1)]) (fun s => [.rd s.1.2.2.1 (u8s s.1.1.2.1)]) ?_ ?_
 · refine Jc.qs<|Jc.qr<|Jl.pv (PR.qm rfl) ?_
   refine Jl.pv (PR.eql _ rfl rfl rfl) ?_
   refine Jl.pv (PR.qm rfl) ?_
   refine Jl.bsplit (fun g15 => ?_) (fun g15 => ?_)
   · try replace g15 := zV g15
     refine Jl.on rfl rfl<|Jl.pv (PR.qm rfl)<|Jl.on rfl rfl ?_
     refine Jl.pv (PR.gtr _ rfl rfl rfl) ?_
     refine Jl.pv (PR.pickT rfl rfl)<|Jl.qn<|Jq.qt ?_
     refine Jc.cond rfl (fun h0 => ?_) (fun h0 => ?_)
     · try replace h0 := zV h0
       refine Jc.qr<|Jl.pv (PR.qa rfl)<|Jl.qn ?_
       exact Jq.mid ⟨(([], (takeN b).2.1, 11), (none, 0), (A9, c9)), TRowI.zero_big (by omega) (by omega), hc9⟩ (by exact ⟨rfl, rfl, rfl, rfl, trivial⟩) (by simp [natI]) (by exact ⟨zM, trivial⟩)
     try replace h0 := zW h0
     refine Jc.skip ?_
     exact Jq.mid ⟨(([], (takeN b).2.1, (takeN b).2.2), (none, 0), (A9, c9)), by rw [show (takeN b).2.2 = 0 by omega]; exact TRowI.zero_ok (by omega) (by omega), hc9⟩ (by exact ⟨rfl, rfl, rfl, rfl, trivial⟩) (by simp [natI]) (by exact ⟨zM, trivial⟩)
   try replace g15 := zW g15
   refine Jl.qo rfl rfl rfl<|Jl.qo rfl rfl rfl<|Jl.pv (PR.pickF rfl rfl)<|Jl.qn<|Jq.qt<|Jc.condF rfl<|Jc.skip ?_
   exact Jq.mid ⟨(([], (takeN b).2.1, (takeN b).2.2), (none, 0), (A9, c9)), TRowI.zero_bad (by omega), hc9⟩ (by exact ⟨rfl, rfl, rfl, rfl, trivial⟩) (by simp [natI]) (by exact ⟨zM, trivial⟩)
 intro s0
 refine Jc.qs ?_
 refine Jc.block ?_
 refine Jc.loop (σ := TRS b (takeN b).1) (fun s => [(2, .slice s.1.2.1.1 s.1.1.1.length s.1.2.1.2), (3, .slice s.1.2.2.1 s.1.1.2.1.length s.1.2.2.2), (4, .int .i64 (s.1.1.2.2 : Int)), (5, .int .i64 ((takeN b).1 : Int))]) (fun s => [.row 3 1 (.slice s.1.2.1.1 s.1.1.1.length s.1.2.1.2) s.1.1.1.length (natI s.1.1.1)]) (fun s => [.rd s.1.2.2.1 (u8s s.1.1.2.1)]) (fun s => (takeN b).1 - s.1.1.1.length) s0 (by exact ⟨rfl, rfl, rfl, rfl, trivial⟩) rfl (by exact ⟨zM, trivial⟩) ?_
 rintro ⟨⟨⟨l, r, e⟩, ⟨A1, c1⟩, ⟨A2, c2⟩⟩, hI, hcap⟩
 show Jc _ _ _ _ _ _ [(2, Value.slice A1 l.length c1), (3, .slice A2 r.length c2), (4, .int .i64 (e : Int)), (5, .int .i64 ((takeN b).1 : Int))] [.row 3 1 (.slice A1 l.length c1) l.length (natI l)] [.rd A2 (u8s r)]
 replace hI : TRowI b (takeN b).1 l r e := hI
 replace hcap : r.length ≤ c2 := hcap
 have hle := hI.le
 have hsm := hI.small
 have hrl := hI.len
 refine Jc.qs<|Jc.qs<|Jc.qr<|Jl.pv (PR.qm rfl) ?_
 refine Jl.pv (PR.eql _ rfl rfl rfl) ?_
 refine Jl.pv (PR.qm rfl) ?_
 refine Jl.bsplit (fun g21 => ?_) (fun g21 => ?_)
 · try replace g21 := zV g21
   obtain rfl : e = 0 := by omega
   refine Jl.on rfl rfl<|Jl.pv (PR.qm rfl)<|Jl.on rfl rfl ?_
   refine Jl.pv (PR.len rfl tsl23) ?_
   refine Jl.on rfl rfl<|Jl.pv (PR.qm rfl)<|Jl.on rfl rfl ?_
   refine Jl.pv (PR.lss _ rfl rfl rfl) ?_
   refine Jl.pv (PR.pickT rfl rfl)<|Jl.qn<|Jq.qt ?_
   refine Jc.cond rfl (fun h1 => ?_) (fun h1 => ?_)
   · try replace h1 := zV h1
     refine Jc.skip<|Jq.qt ?_
     refine Jc.block ?_
     refine Jc.qs<|Jc.qr<|Jl.pv (PR.qa rfl)<|Jl.qn<|Jq.qt<|Jc.qs<|Jc.qr<|Jl.pv (PR.qm rfl) ?_
     refine Jl.call (take_ct A2 c2 r (by omega) hcap) en145 (by rfl) zT zF ?_
     rintro ⟨A29, c29⟩
     refine Jl.sealC zD (fun hc29 => ?_)
     refine Jl.pv (PR.qm rfl) ?_
     refine Jl.pv (PR.extract rfl (by rfl)) ?_
     refine Jl.pv (PR.extract rfl (by rfl)) ?_
     refine Jl.pv (PR.extract rfl (by rfl)) ?_
     refine Jl.pv (PR.qa rfl)<|Jl.pv (PR.qa rfl)<|Jl.pv (PR.qa rfl)<|Jl.qn<|Jq.qt<|Jc.qr<|Jl.pv (PR.qm rfl)<|Jl.pv (PR.qm rfl) ?_
     refine Jl.buildSlice (by rfl) tsl23 tzr23_1 (by rfl) (by rfl) ?_
     intro b35
     refine Jl.seal zD ?_
     refine Jl.append (l ++ [(takeN r).1]).length (natI (l ++ [(takeN r).1])) rfl rfl rfl tsl23 tze3 (by rfl) (by decide) tby3 (fun _ _ => zS) zM (by simp) (by simp [natI]) rfl (by simp [Value.oneCell']) (by omega) (by decide) ?_
     intro A36 c36
     refine Jl.pv (PR.qa rfl)<|Jl.qn ?_
     refine Jq.blkN ?_
     refine Jq.again ⟨((l ++ [(takeN r).1], (takeN r).2.1, (takeN r).2.2), (A36, c36), (A29, c29)), hI.next (by omega), hc29⟩ (by simp only [List.length_append, List.length_singleton]; omega) (by exact ⟨rfl, rfl, rfl, rfl, trivial⟩) rfl (by exact ⟨zM, trivial⟩)
   try replace h1 := zW h1
   refine Jc.exit ?_
   refine Jq.thenX ?_
   refine Jq.thenX ?_
   refine Jq.blkX ?_
   refine Jq.qt<|Jc.qs<|Jc.qs<|Jc.qr<|Jl.pv (PR.qm rfl) ?_
   refine Jl.pv (PR.neq false rfl rfl (by simp)) ?_
   refine Jl.qn<|Jq.qt<|Jc.condF rfl<|Jc.skip<|Jq.qt<|Jc.qs<|Jc.qr<|Jl.pv (PR.qm rfl)<|Jl.pv (PR.qm rfl)<|Jl.pv (PR.qa rfl)<|Jl.pv (PR.qa rfl)<|Jl.pv (PR.qa rfl)<|Jl.qn<|Jq.qt<|Jc.ret ?_
   rw [hI.good (by omega)]
   refine Jq.fact0 (.is (r.length ≤ c2)) (fun _ _ => hcap) ?_
   exact Jq.fin ((A1, c1), (A2, c2)) (.inl rfl) rfl (RetVs.tmp rfl (RetVs.tmp rfl (RetVs.tmp rfl RetVs.nil))) rfl zT zF
 try replace g21 := zW g21
 refine Jl.qo rfl rfl rfl<|Jl.qo rfl rfl rfl<|Jl.qo rfl rfl rfl<|Jl.qo rfl rfl rfl<|Jl.pv (PR.pickF rfl rfl)<|Jl.qn<|Jq.qt<|Jc.condF rfl ?_
 refine Jc.exit ?_
 refine Jq.thenX ?_
 refine Jq.thenX ?_
 refine Jq.blkX ?_
 refine Jq.qt<|Jc.qs<|Jc.qs<|Jc.qr<|Jl.pv (PR.qm rfl) ?_
 refine Jl.pv (PR.neq true rfl rfl (by simpa using g21)) ?_
 refine Jl.qn<|Jq.qt<|Jc.condT rfl<|Jc.qs<|Jc.qr<|Jl.pv (PR.qm rfl)<|Jl.pv (PR.qa rfl)<|Jl.pv (PR.qa rfl)<|Jl.pv (PR.qa rfl)<|Jl.qn<|Jq.qt<|Jc.ret<|Jq.thenR ?_
 rw [hI.bad (by omega)]
 refine Jq.nilRow 3 1 ?_
 refine Jq.fact0 (.rd none []) (fun X W => Fact.rd_nil none X W) ?_
 refine Jq.fact0 (.is (([] : List UInt8).length ≤ 0)) (fun _ _ => Nat.le_refl 0) ?_
 exact Jq.fin ((none, 0), (none, 0)) (.inl rfl) rfl (RetVs.tmp rfl (RetVs.tmp rfl (RetVs.tmp rfl RetVs.nil))) rfl zT zF
theorem row_at {A : Option Addr} {c : Nat} {l : List Int} {m : List UInt8} {r : Int} (hl : l.length ≤ 1000) (h : rowN l = m) (h2 : rowR l = r) : Ct Tryz.prog 110 [.slice A l.length c] [] [.rd A (l.map (Value.int .i64))] (fun x : Option Addr × Nat => .tuple #[.slice x.1 m.length x.2, .int .i64 r]) (rowU m) (fun _ => []) := by
 subst h h2; exact row_ct A c l hl
end Go.Proofs.YtakbgccddokbbaaGreatDoor
namespace Go.Proofs.YtakbgccddokbbaaGreatDoor
open Go.RowKit
attribute [local irreducible] Res.blk Res.row Fact.rd
theorem tmodN (a b : Nat) : ((a : Nat) : Int).tmod (b : Int) = ((a % b : Nat) : Int) := by rw [Int.tmod_eq_emod_of_nonneg (by omega)]; rfl
theorem tdivN (a b : Nat) : ((a : Nat) : Int).tdiv (b : Int) = ((a / b : Nat) : Int) := by rw [Int.tdiv_eq_ediv_of_nonneg (by omega)]; rfl
theorem w64n {x : Nat} (h : x < 9223372036854775808) : IntKind.i64.wrap (x : Int) = (x : Int) := w64 (by omega) (by omega)
theorem w8n {x : Nat} (h : x < 256) : IntKind.u8.wrap (x : Int) = (x : Int) := by rw [IntKind.wrap_u8]; omega
theorem rfine_ct (n : Int) : Ct Tryz.prog 108 [.int .i64 n] [] [] (fun _ : Unit => .bool (fineN n)) (fun _ => []) (fun _ => []) := by
 by_cases h0 : 0 ≤ n
 · skip
   refine Ct.of _ Tryz.func108 Tryz.ntmps108 rfl rfl (fun X W => ?_)
   refine Jc.qs<|Jc.qr<|Jl.pv (PR.qa rfl)<|Jl.qn<|Jq.qt<|Jc.qs<|Jc.qr<|Jl.pv (PR.qm rfl) ?_
   refine Jl.pv (PR.geq true rfl rfl (by simpa using h0)) ?_
   refine Jl.pv (PR.qm rfl)<|Jl.on rfl rfl<|Jl.pv (PR.qm rfl)<|Jl.on rfl rfl ?_
   refine Jl.pv (PR.leq _ rfl rfl rfl) ?_
   refine Jl.pv (PR.pickT rfl rfl)<|Jl.pv (PR.qa rfl)<|Jl.qn<|Jq.qt<|Jc.ret ?_
   exact Jq.fin () (.inl rfl) rfl (RetVs.tmp rfl RetVs.nil) (by simp [retval, fineN, h0]) zT zF
 · skip
   refine Ct.of _ Tryz.func108 Tryz.ntmps108 rfl rfl (fun X W => ?_)
   refine Jc.qs<|Jc.qr<|Jl.pv (PR.qa rfl)<|Jl.qn<|Jq.qt<|Jc.qs<|Jc.qr<|Jl.pv (PR.qm rfl) ?_
   refine Jl.pv (PR.geq false rfl rfl (by simpa using h0)) ?_
   refine Jl.pv (PR.qm rfl)<|Jl.qo rfl rfl rfl<|Jl.qo rfl rfl rfl<|Jl.pv (PR.pickF rfl rfl)<|Jl.pv (PR.qa rfl)<|Jl.qn<|Jq.qt<|Jc.ret ?_
   exact Jq.fin () (.inl rfl) rfl (RetVs.tmp rfl RetVs.nil) (by simp [retval, fineN, h0]) zT zF
theorem rfine_at {n : Int} {t : Bool} (h : fineN n = t) : Ct Tryz.prog 108 [.int .i64 n] [] [] (fun _ : Unit => .bool t) (fun _ => []) (fun _ => []) := by subst h; exact rfine_ct n
theorem rput_ct (n : Int) : Ct Tryz.prog 79 [.int .i64 n] [] [] (fun x : OA => .tuple #[.slice x.1 (putN n).length x.2, .int .i64 (putR n)]) (rowU (putN n)) (fun _ => []) := by
 by_cases hfn : fineN n = true
 · have hf : 0 ≤ n ∧ n ≤ 1099511627776 := by simpa [fineN] using hfn
   obtain ⟨m, rfl⟩ : ∃ m : Nat, n = m := ⟨n.toNat, by omega⟩
   have hm : m ≤ 1099511627776 := by omega
   have e1 : putN (m : Int) = putB m := if_pos hfn
   have e2 : putR (m : Int) = 0 := if_pos hfn
   have hd10 := dlen_le 10 m
   rw [e1, e2]
   refine Ct.of _ Tryz.func79 Tryz.ntmps79 rfl rfl (fun X W => ?_)
   refine Jc.qs<|Jc.qr<|Jl.pv (PR.qa rfl)<|Jl.pv (PR.qa rfl)<|Jl.qn<|Jq.qt<|Jc.qs<|Jc.qs<|Jc.qr<|Jl.pv (PR.qm rfl) ?_
   refine Jl.call (rfine_at hfn) en108 (by rfl) zT zF ?_
   rintro ⟨⟩
   refine Jl.pv (PR.not rfl) ?_
   refine Jl.as (.bool false) (congrArg Value.bool rfl) ?_
   refine Jl.qn<|Jq.qt<|Jc.condF rfl<|Jc.skip<|Jq.qt<|Jc.qs ?_
   refine Jc.nilRow 5 1 ?_
   refine Jc.qr<|Jl.pv (PR.qa rfl)<|Jl.qn<|Jq.qt<|Jc.qs ?_
   refine Jc.block ?_
   refine Jc.loop (σ := { s : Nat × OA // s.1 < dlen 10 m }) (fun s => [(0, .int .i64 ((m / 128 ^ s.1.1 : Nat) : Int)), (4, .slice s.1.2.1 ((digs 10 m).take s.1.1).length s.1.2.2)]) (fun s => [.row 5 1 (.slice s.1.2.1 ((digs 10 m).take s.1.1).length s.1.2.2) ((digs 10 m).take s.1.1).length (u8s ((digs 10 m).take s.1.1))]) (fun _ => []) (fun s => dlen 10 m - s.1.1) ⟨(0, (none, 0)), dlen0 m⟩ (by exact ⟨by rw [Nat.pow_zero, Nat.div_one]; rfl, rfl, trivial⟩) rfl trivial ?_
   rintro ⟨⟨k, A', c'⟩, hk0⟩
   have hk : k < dlen 10 m := hk0
   have hlt := digs_lt [] m k hm hk
   simp only [List.nil_append, List.length_nil, Nat.zero_add] at hlt
   have hq : m / 128 ^ k ≤ m := Nat.div_le_self _ _
   have hmod : m / 128 ^ k % 128 < 128 := Nat.mod_lt _ (by omega)
   have hlast := dlen_last 10 m k (p128_10 m hm) hk
   show Jc _ _ _ _ _ _ [(0, Value.int .i64 ((m / 128 ^ k : Nat) : Int)), (4, .slice A' ((digs 10 m).take k).length c')] [.row 5 1 (.slice A' ((digs 10 m).take k).length c') ((digs 10 m).take k).length (u8s ((digs 10 m).take k))] []
   refine Jc.qs<|Jc.qs<|Jc.qr<|Jl.pv (PR.qm rfl) ?_
   refine Jl.pv (PR.geq _ rfl rfl rfl) ?_
   refine Jl.qn<|Jq.qt ?_
   refine Jc.cond rfl (fun h0 => ?_) (fun h0 => ?_)
   · try replace h0 := zV h0
     replace h0 : ¬ m / 128 ^ k < 128 := by omega
     refine Jc.skip<|Jq.qt ?_
     refine Jc.block ?_
     refine Jc.qs<|Jc.qr<|Jl.pv (PR.qm rfl)<|Jl.pv (PR.qm rfl) ?_
     refine Jl.pv (PR.rem ((m / 128 ^ k % 128 : Nat) : Int) rfl rfl (by decide) (tmodN _ 128)) ?_
     refine Jl.pv (PR.add ((m / 128 ^ k % 128 + 128 : Nat) : Int) rfl rfl (by rw [w64 (by omega) (by omega)]; rfl)) ?_
     refine Jl.pv (PR.conv ((m / 128 ^ k % 128 + 128 : Nat) : Int) rfl Tryz.underlying3 Tryz.underlying5 (by rw [IntKind.wrap_u8]; omega)) ?_
     refine Jl.buildSlice (by rfl) tsl25 tzr25_1 (by rfl) (by rfl) ?_
     intro b15
     refine Jl.seal zD ?_
     refine Jl.append ((digs 10 m).take (k + 1)).length (u8s ((digs 10 m).take (k + 1))) rfl rfl rfl tsl25 tze5 (by rfl) (by decide) tby5 (fun _ _ => zS) zM (by omega) (digs_app [] m k _ hm hk (by rw [if_neg h0])) rfl (by simp [Value.oneCell']) (by omega) (by decide) ?_
     intro A16 c16
     refine Jl.pv (PR.qa rfl)<|Jl.qn<|Jq.qt<|Jc.qr<|Jl.pv (PR.qm rfl) ?_
     refine Jl.pv (PR.quo ((m / 128 ^ (k + 1) : Nat) : Int) rfl rfl (by decide) (by rw [show (128 : Int) = ((128 : Nat) : Int) from rfl, tdivN, div128, w64n (by have := Nat.div_le_self m (128 ^ (k + 1)); omega)])) ?_
     refine Jl.pv (PR.qa rfl)<|Jl.qn ?_
     refine Jq.blkN ?_
     refine Jq.again ⟨(k + 1, (A16, c16)), by have := fun h => h0 (hlast.2 h); simp only; omega⟩ (by simp only; omega) (by exact ⟨rfl, rfl, trivial⟩) rfl trivial
   try replace h0 := zW h0
   replace h0 : m / 128 ^ k < 128 := by omega
   refine Jc.exit ?_
   refine Jq.thenX ?_
   refine Jq.thenX ?_
   refine Jq.blkX ?_
   refine Jq.qt<|Jc.qs<|Jc.qr<|Jl.pv (PR.qm rfl)<|Jl.pv (PR.qm rfl) ?_
   refine Jl.pv (PR.conv ((m / 128 ^ k : Nat) : Int) rfl Tryz.underlying3 Tryz.underlying5 (w8n (by omega))) ?_
   refine Jl.buildSlice (by rfl) tsl25 tzr25_1 (by rfl) (by rfl) ?_
   intro b22
   refine Jl.seal zD ?_
   refine Jl.append ((digs 10 m).take (k + 1)).length (u8s ((digs 10 m).take (k + 1))) rfl rfl rfl tsl25 tze5 (by rfl) (by decide) tby5 (fun _ _ => zS) zM (by omega) (digs_app [] m k _ hm hk (by rw [if_pos h0, Nat.add_zero, Nat.mod_eq_of_lt h0])) rfl (by simp [Value.oneCell']) (by omega) (by decide) ?_
   intro A23 c23
   refine Jl.pv (PR.qa rfl)<|Jl.pv (PR.qa rfl)<|Jl.qn<|Jq.qt<|Jc.ret ?_
   rw [show (digs 10 m).take (k + 1) = putB m by rw [hlast.1 h0, digs_all]]
   exact Jq.fin (A23, c23) (.inl rfl) rfl (RetVs.tmp rfl (RetVs.tmp rfl RetVs.nil)) rfl zT zF
 · have e1 : putN n = [] := if_neg hfn
   have e2 : putR n = 2 := if_neg hfn
   rw [e1, e2]
   refine Ct.of _ Tryz.func79 Tryz.ntmps79 rfl rfl (fun X W => ?_)
   refine Jc.qs<|Jc.qr<|Jl.pv (PR.qa rfl)<|Jl.pv (PR.qa rfl)<|Jl.qn<|Jq.qt<|Jc.qs<|Jc.qs<|Jc.qr<|Jl.pv (PR.qm rfl) ?_
   refine Jl.call (rfine_at (t := false) (by simpa using hfn)) en108 (by rfl) zT zF ?_
   rintro ⟨⟩
   refine Jl.pv (PR.not rfl) ?_
   refine Jl.as (.bool true) (congrArg Value.bool rfl) ?_
   refine Jl.qn<|Jq.qt<|Jc.condT rfl<|Jc.qs<|Jc.qr<|Jl.pv (PR.qa rfl)<|Jl.pv (PR.qa rfl)<|Jl.qn<|Jq.qt<|Jc.ret<|Jq.thenR ?_
   refine Jq.nilRow 5 1 ?_
   exact Jq.fin (none, 0) (.inl rfl) rfl (RetVs.tmp rfl (RetVs.tmp rfl RetVs.nil)) rfl zT zF
theorem rput_fine {a : Int} (h : fineN a = true) : Ct Tryz.prog 79 [.int .i64 a] [] [] (fun x : OA => .tuple #[.slice x.1 (putB a).length x.2, .int .i64 0]) (rowU (putB a)) (fun _ => []) := by
 have h0 := rput_ct a
 rw [show putN a = putB a from if_pos h, show putR a = 0 from if_pos h] at h0
 exact h0
end Go.Proofs.YtakbgccddokbbaaGreatDoor
namespace Go.Proofs.YtakbgccddokbbaaGreatDoor
open Go.RowKit
attribute [local irreducible] Res.blk Res.row Fact.rd
theorem rrowN_ct (A : Option Addr) (c : Nat) (l : List Int) (hl : l.length ≤ 1000) : Ct Tryz.prog 78 [.slice A l.length c] [] [.rd A (l.map (Value.int .i64))] (fun x : Option Addr × Nat => .tuple #[.slice x.1 (rowN l).length x.2, .int .i64 (rowR l)]) (rowU (rowN l)) (fun _ => []) := by
 have hno : rowOk l = false → rowN l = [] ∧ rowR l = 2 := fun h => ⟨if_neg (by rw [h]; simp), if_neg (by rw [h]; simp)⟩
 refine Ct.of _ Tryz.func78 Tryz.ntmps78 rfl rfl (fun X W => ?_)
 refine Jc.qs<|Jc.qr<|Jl.pv (PR.qa rfl)<|Jl.pv (PR.qa rfl)<|Jl.qn<|Jq.qt<|Jc.qs<|Jc.qs<|Jc.qr<|Jl.pv (PR.qm rfl) ?_
 refine Jl.pv (PR.len rfl tsl23) ?_
 refine Jl.pv (PR.gtr _ rfl rfl rfl) ?_
 refine Jl.qn<|Jq.qt ?_
 refine Jc.cond rfl (fun h0 => ?_) (fun h0 => ?_)
 · try replace h0 := zV h0
   have hb : rowOk l = false := by rw [rowOk, decide_eq_false (by omega), Bool.false_and]
   refine Jc.qs<|Jc.qr<|Jl.pv (PR.qa rfl)<|Jl.pv (PR.qa rfl)<|Jl.qn<|Jq.qt<|Jc.ret<|Jq.thenR ?_
   rw [(hno hb).1, (hno hb).2]
   refine Jq.nilRow 5 1 ?_
   exact Jq.fin (none, 0) (.inl rfl) rfl (RetVs.tmp rfl (RetVs.tmp rfl RetVs.nil)) rfl zT zF
 try replace h0 := zW h0
 have h40 : l.length ≤ 40 := by omega
 refine Jc.skip<|Jq.qt<|Jc.qs<|Jc.qr<|Jl.pv (PR.qm rfl) ?_
 refine Jl.pv (PR.len rfl tsl23) ?_
 refine Jl.call (rput_fine (a := l.length) (by simp [fineN]; omega)) en79 (by rfl) zT zF ?_
 rintro ⟨A15, c15⟩
 refine Jl.pv (PR.qm rfl) ?_
 refine Jl.pv (PR.extract rfl (by rfl)) ?_
 refine Jl.pv (PR.extract rfl (by rfl)) ?_
 refine Jl.pv (PR.qa rfl)<|Jl.pv (PR.qa rfl)<|Jl.qn<|Jq.qt<|Jc.qs<|Jc.qs<|Jc.qr<|Jl.pv (PR.qa rfl)<|Jl.qn<|Jq.qt ?_
 refine Jc.block ?_
 refine Jc.loop (σ := (k : { k : Nat // k ≤ l.length ∧ ∀ j, j < k → ∀ h : j < l.length, fineN l[j] = true }) × (Option Addr × Nat)) (fun s => [(6, .int .i64 (s.1.1 : Int)), (0, .slice A l.length c), (4, .slice s.2.1 (putB l.length ++ (l.take s.1.1).flatMap putB).length s.2.2)]) (fun s => rowU (putB l.length ++ (l.take s.1.1).flatMap putB) s.2) (fun _ => [.rd A (l.map (Value.int .i64))]) (fun s => l.length - s.1.1) ⟨⟨0, Nat.zero_le _, fun _ h => by omega⟩, A15, c15⟩ (by exact ⟨rfl, rfl, by simp [elook], trivial⟩) (by simp [rowU]) zF ?_
 rintro ⟨⟨k, hk, hF⟩, A', c'⟩
 show Jc _ _ _ _ _ _ [(6, Value.int .i64 (k : Int)), (0, .slice A l.length c), (4, .slice A' (putB l.length ++ (l.take k).flatMap putB).length c')] (rowU (putB l.length ++ (l.take k).flatMap putB) (A', c')) [.rd A (l.map (Value.int .i64))]
 refine Jc.qs<|Jc.qs<|Jc.qr<|Jl.pv (PR.qm rfl)<|Jl.pv (PR.qm rfl) ?_
 refine Jl.pv (PR.len rfl tsl23) ?_
 refine Jl.pv (PR.lss _ rfl rfl rfl) ?_
 refine Jl.qn<|Jq.qt ?_
 refine Jc.cond rfl (fun hlt => ?_) (fun hlt => ?_)
 · try replace hlt := zV hlt
   have hlt' : k < l.length := by omega
   have hf10 := flat_len (l.take k)
   have hp10 := putB_len (l.length : Int)
   obtain ⟨v, hv⟩ : ∃ v : Int, l[k] = v := ⟨_, rfl⟩
   have hpv := putB_len v
   have hstep : putB l.length ++ (l.take (k + 1)).flatMap putB = putB l.length ++ (l.take k).flatMap putB ++ putB v := by rw [List.take_succ_eq_append_getElem hlt', hv]; simp
   have hlen : (putB l.length ++ (l.take k).flatMap putB).length ≤ 1000 := by simp only [List.length_append, List.length_take] at *; omega
   refine Jc.skip<|Jq.qt<|Jc.qs ?_
   refine Jc.block ?_
   refine Jc.qs<|Jc.qr<|Jl.pv (PR.qm rfl)<|Jl.pv (PR.qm rfl) ?_
   refine Jl.pv (PR.idx1 k rfl rfl tsl23 zM (by simp) rfl hlt') ?_
   refine Jl.pv (PR.loadR rfl tsh3 zM ((getm hlt').trans (congrArg (fun x => some (Value.int .i64 x)) hv))) ?_
   refine Jl.call (rput_ct v) en79 (by rfl) zT zF ?_
   rintro ⟨A29, c29⟩
   refine Jl.sealR zD ?_
   refine Jl.pv (PR.qm rfl) ?_
   refine Jl.pv (PR.extract rfl (by rfl)) ?_
   refine Jl.pv (PR.extract rfl (by rfl)) ?_
   refine Jl.pv (PR.qa rfl)<|Jl.pv (PR.qa rfl)<|Jl.qn<|Jq.qt<|Jc.qs<|Jc.qs<|Jc.qr<|Jl.pv (PR.qm rfl) ?_
   refine Jl.pv (PR.neq _ rfl rfl rfl) ?_
   refine Jl.qn<|Jq.qt ?_
   refine Jc.cond rfl (fun h2 => ?_) (fun h2 => ?_)
   · try replace h2 := zV h2
     have hfv : fineN v = false := by rw [Bool.eq_false_iff]; intro h; exact h2 (if_pos h)
     have hb : rowOk l = false := by
      rw [rowOk, List.any_eq_true.2 ⟨l[k], List.getElem_mem _, by rw [hv, hfv]; rfl⟩]; simp
     refine Jc.qs<|Jc.qr<|Jl.pv (PR.qm rfl)<|Jl.pv (PR.qa rfl)<|Jl.pv (PR.qa rfl)<|Jl.qn<|Jq.qt<|Jc.ret<|Jq.thenR ?_
     refine Jq.blkR ?_
     refine Jq.thenR<|Jq.thenR ?_
     refine Jq.blkR ?_
     refine Jq.thenR ?_
     rw [(hno hb).1, (hno hb).2]
     refine Jq.nilRow 5 1 ?_
     exact Jq.fin (none, 0) (.inl rfl) rfl (RetVs.tmp rfl (RetVs.tmp rfl RetVs.nil)) (by rw [show putR v = 2 from if_neg (by rw [hfv]; simp)]; rfl) zT zF
   try replace h2 := zW h2
   have hfv : fineN v = true := by
    by_cases h : fineN v = true
    · exact h
    · exact absurd (show putR v = 2 from if_neg h) (by omega)
   have hpn : putN v = putB v := if_pos hfv
   refine Jc.skip<|Jq.qt<|Jc.qr<|Jl.pv (PR.qm rfl)<|Jl.pv (PR.qm rfl) ?_
   refine Jl.append (putB l.length ++ (l.take (k + 1)).flatMap putB).length (u8s (putB l.length ++ (l.take (k + 1)).flatMap putB)) rfl rfl rfl tsl25 tze5 (by rfl) (by decide) tby5 (fun _ _ => zS) zM (by rw [hstep, hpn]; simp only [List.length_append]) (by rw [hstep, hpn]; simp only [u8s, List.map_append]) (by simp) (u8s_one _) (by rw [hpn]; omega) (by decide) ?_
   intro A37 c37
   refine Jl.pv (PR.qa rfl)<|Jl.qn ?_
   refine Jq.blkN ?_
   refine Jq.qt<|Jc.qr<|Jl.pv (PR.qm rfl) ?_
   refine Jl.pv (PR.add ((k + 1 : Nat) : Int) rfl rfl (by rw [w64 (by omega) (by omega)]; rfl)) ?_
   refine Jl.pv (PR.qa rfl)<|Jl.qn ?_
   refine Jq.again ⟨⟨k + 1, hlt', fun j hj hjl => (Nat.lt_succ_iff_lt_or_eq.1 hj).elim (fun h => hF j h hjl) (fun e => by subst e; rw [hv]; exact hfv)⟩, A37, c37⟩ (by simp only; omega) (by repeat (first | exact trivial | refine And.intro rfl ?_)) rfl zF
 try replace hlt := zW hlt
 have hkl : k = l.length := by omega
 have hall : putB l.length ++ (l.take k).flatMap putB = rowsB l := by rw [hkl, List.take_length]; rfl
 have hok : rowOk l = true := by
  simp only [rowOk, Bool.and_eq_true, decide_eq_true_eq, Bool.not_eq_true']
  refine ⟨h40, List.any_eq_false.2 fun n hn => ?_⟩
  obtain ⟨j, hj, rfl⟩ := List.mem_iff_getElem.1 hn
  rw [hF j (by omega) hj]; simp
 rw [hall, show rowN l = rowsB l from if_pos hok, show rowR l = 0 from if_pos hok]
 refine Jc.exit ?_
 refine Jq.thenX ?_
 refine Jq.thenX ?_
 refine Jq.blkX ?_
 refine Jq.qt<|Jc.qs<|Jc.qr<|Jl.pv (PR.qm rfl)<|Jl.pv (PR.qa rfl)<|Jl.pv (PR.qa rfl)<|Jl.qn<|Jq.qt<|Jc.ret ?_
 exact Jq.fin (A', c') (.inl rfl) rfl (RetVs.tmp rfl (RetVs.tmp rfl RetVs.nil)) rfl zT zF
end Go.Proofs.YtakbgccddokbbaaGreatDoor
namespace Go.Proofs.YtakbgccddokbbaaGreatDoor
open Go.RowKit
theorem rc_fine {r : Rc} (h : r.ok = true) : ∀ n ∈ r.nums, fineN n = true := (rowOk_fine (rc_rowOk h)).2
theorem rc_raw {r : Rc} (h : r.ok = true) : rcRaw (r.nums.map Int.toNat) = r := by
 have h1 := rc_fine h
 obtain ⟨k, l⟩ := r
 simp only [Rc.nums, List.map_cons, rcRaw, List.getD_cons_zero, List.drop_one, List.tail_cons, List.map_map]
 congr 1
 · simp
 · conv => rhs; rw [← List.map_id l]
   refine List.map_congr_left fun n hn => ?_
   have := h1 n (List.mem_cons_of_mem _ hn)
   simp only [fineN, decide_eq_true_eq] at this
   simp; omega
theorem rc_take {r : Rc} (h : r.ok = true) (b : List UInt8) : takeRowN (r.bytes ++ b) = (r.nums.map Int.toNat, b, 0) := by
 rw [Rc.bytes, if_pos h]
 exact takeRow_put (rc_rowOk h) b
theorem rc_take0 {r : Rc} (h : r.ok = true) : takeRowN r.bytes = (r.nums.map Int.toNat, [], 0) := by
 have := rc_take h []
 rwa [List.append_nil] at this
theorem rc_head {r : Rc} (h : r.ok = true) : (r.nums.map Int.toNat).getD 0 0 < 17 := by
 have := Rc.ok_len h
 simp [Rc.nums]; omega
theorem rcOf_bytes {r : Rc} (h : r.ok = true) : rcOf r.bytes = r ∧ rcE r.bytes = 0 := by
 have hg : rcGood (takeRowN r.bytes) = true := by
  rw [rc_take0 h]
  simp only [rcGood, rc_raw h, h]
  have := rc_head h
  simp only [List.length_map, Bool.and_true, Bool.and_eq_true, decide_eq_true_eq, List.length_nil, and_self, true_and]
  exact ⟨by simp [Rc.nums], this⟩
 refine ⟨?_, if_pos hg⟩
 rw [rcOf, if_pos hg, rc_take0 h]
 exact rc_raw h
theorem bytes_le {r : Rc} : r.bytes.length ≤ 1000 := by
 by_cases h : r.ok = true
 · have hl := Rc.ok_len h
   rw [Rc.bytes, if_pos h, rowsB, List.length_append]
   have h1 := putB_len (r.nums.length)
   have h2 := flat_len r.nums
   have h3 : r.nums.length = r.l.length + 1 := rfl
   omega
 · rw [Rc.bytes, if_neg h]; simp
theorem rc_good {b : List UInt8} (h : rcE b = 0) : rcGood (takeRowN b) = true := by
 unfold rcE at h
 split at h
 · assumption
 · simp at h
theorem rc_only {b : List UInt8} (h : rcE b = 0) : (rcOf b).ok = true ∧ (rcOf b).bytes = b := by
  have hg := rc_good h
  have hof : rcOf b = rcRaw (takeRowN b).1 := if_pos hg
  simp only [rcGood, Bool.and_eq_true, decide_eq_true_eq] at hg
  obtain ⟨⟨h0, h1⟩, ⟨h2, h3⟩, h4⟩ := hg
  rw [hof]
  refine ⟨h4, ?_⟩
  have h5 := takeRow_only (b := b) (l := (takeRowN b).1) (r := (takeRowN b).2.1) (by rw [← h0])
  rw [List.eq_nil_of_length_eq_zero h1, List.append_nil] at h5
  have hn : (rcRaw (takeRowN b).1).nums = (takeRowN b).1.map Int.ofNat := by
    cases hl : (takeRowN b).1 with
    | nil => rw [hl] at h2; simp at h2
    | cons x l =>
      rw [hl] at h3
      simp only [List.getD_cons_zero] at h3
      have := u8_of (x := x) (by omega)
      simp only [Rc.nums, rcRaw, List.getD_cons_zero, this, List.drop_one, List.tail_cons, List.map_cons]
      rfl
  rw [Rc.bytes, if_pos h4, hn]
  exact h5.2
end Go.Proofs.YtakbgccddokbbaaGreatDoor
namespace Go.Proofs.YtakbgccddokbbaaGreatDoor
open Go.RowKit
attribute [local irreducible] Res.blk Res.row Fact.rd
def manyV (m : Nat → AdC) : List Value := (List.range 17).map fun i => if i = 0 then .slice none 0 0 else .slice (m i).1 2 (m i).2
theorem many_at (m : Nat → AdC) {k : Nat} (h : k < 17) : (manyV m)[k * 1]? = some (if k = 0 then .slice none 0 0 else .slice (m k).1 2 (m k).2) := by
 rw [Nat.mul_one, manyV, List.getElem?_map, List.getElem?_range h]; rfl
def bndV (k : Nat) : List Value := [.int .i64 (((bndAt k).1 : Nat) : Int), .int .i64 (((bndAt k).2 : Nat) : Int)]
def Fact.many (m : Nat → AdC) : Fact := ⟨fun X W => (Fact.rd (some ⟨1, 0, none⟩) (manyV m)).p X W ∧ ∀ i, 1 ≤ i → i < 17 → (Fact.rd (m i).1 (bndV i)).p X W, fun X X' W W' h hf hx =>
 ⟨(Fact.rd (some ⟨1, 0, none⟩) (manyV m)).fr X X' W W' h.1 hf hx, fun i h1 h2 => (Fact.rd (m i).1 (bndV i)).fr X X' W W' (h.2 i h1 h2) hf hx⟩⟩
theorem numbers_ct (r : Rc) (x : AdC) : Ct Tryz.prog 129 [r.v x] [] [] (fun b : Nat => .func (.func 146) #[] #[.pointer (some ⟨b, 0, none⟩)]) (fun b => [.blk b 54 (r.cs x)]) (fun _ => []) := by
 refine Ct.of _ Tryz.func129 Tryz.ntmps129 rfl rfl (fun X W => ?_)
 refine Jc.qs<|Jc.qr ?_
 refine Jl.box rfl (by rfl) ?_
 intro b1
 refine Jl.pv (PR.qa rfl)<|Jl.qn<|Jq.qt<|Jc.qs<|Jc.qr ?_
 refine Jl.pv (PR.makeFunc rfl rfl) ?_
 refine Jl.pv (PR.qa rfl)<|Jl.qn<|Jq.qt<|Jc.ret ?_
 exact Jq.fin b1 (.inl rfl) rfl (RetVs.tmp rfl RetVs.nil) rfl zT zF
def nvals (l : List Int) (k : Nat) : List Value := [.bool (fineN (l.getD k 0))]
theorem fineN_if {n : Int} {a b : Bool} (h1 : a = decide (0 ≤ n)) (h2 : b = decide (n ≤ 1099511627776)) : fineN n = (a && b) := by subst h1 h2; simp [fineN]
theorem numbers1_it (r : Rc) (x : AdC) (b : Nat) (hn : r.l.length ≤ 1000000) : It Tryz.prog 146 [.pointer (some ⟨b, 0, none⟩)] [.blk b 54 (r.cs x)] [.rd x.1 (i64s r.l)] r.l.length (nvals r.l) := by
 refine It.of _ Tryz.func146 Tryz.ntmps146 rfl rfl (by rfl) (by simp only [List.mem_singleton]; rintro φ rfl; exact Fact.rd_old _ _) (fun W l cl clx hy => ?_)
 refine Jc.qs<|Jc.qr<|Jl.pv (PR.qf rfl tfl54_1) ?_
 refine Jl.pv (PR.load1 rfl tsh23 zH (by rfl)) ?_
 refine Jl.pv (PR.len rfl tsl23) ?_
 refine Jl.pv (PR.qm rfl)<|Jl.qn<|Jq.qt ?_
 refine Jc.block ?_
 refine Jc.loop (σ := { k : Nat // k ≤ r.l.length }) (fun s => [(8, .int .i64 (s.1 : Int)), (7, .int .i64 (r.l.length : Int)), (6, .slice x.1 r.l.length x.2), (0, .func (.yield l) #[] #[])]) (fun _ => [.blk b 54 (r.cs x)]) (fun s => [cl s.1, .rd x.1 (i64s r.l)]) (fun s => r.l.length - s.1) ⟨0, Nat.zero_le _⟩ (by repeat (first | exact trivial | refine And.intro rfl ?_)) rfl zF ?_
 rintro ⟨k, hk⟩
 show Jc _ _ _ _ _ _ [(8, Value.int .i64 (k : Int)), (7, .int .i64 (r.l.length : Int)), (6, .slice x.1 r.l.length x.2), (0, .func (.yield l) #[] #[])] [.blk b 54 (r.cs x)] [cl k, .rd x.1 (i64s r.l)]
 refine Jc.qs<|Jc.qr ?_
 refine Jl.pv (PR.lss _ rfl rfl rfl) ?_
 refine Jl.qn<|Jq.qt<|Jc.qs ?_
 refine Jc.cond rfl (fun hlt => ?_) (fun hlt => ?_)
 · try replace hlt := zV hlt
   have hlt' : k < r.l.length := by omega
   refine Jc.skip<|Jq.qt<|Jc.qs ?_
   refine Jc.block ?_
   refine Jc.qs<|Jc.qr ?_
   refine Jl.pv (PR.idx1 k rfl rfl tsl23 zM (by simp) rfl hlt') ?_
   refine Jl.pv (PR.loadR rfl tsh3 zM (getd hlt')) ?_
   refine Jl.pv (PR.qa rfl)<|Jl.qn<|Jq.qt<|Jc.qs<|Jc.qr<|Jl.pv (PR.qm rfl)<|Jl.pv (PR.qm rfl) ?_
   refine Jl.pv (PR.geq _ rfl rfl rfl) ?_
   refine Jl.pv (PR.qm rfl) ?_
   refine Jl.bsplit (fun g15 => ?_) (fun g15 => ?_)
   · try replace g15 := zV g15
     have hv : nvals r.l k = [.bool (decide (r.l.getD k 0 ≤ 1099511627776))] := by rw [nvals, fineN_if rfl rfl, decide_eq_true g15, Bool.true_and]
     refine Jl.on rfl rfl<|Jl.pv (PR.qm rfl)<|Jl.on rfl rfl ?_
     refine Jl.pv (PR.leq _ rfl rfl rfl) ?_
     refine Jl.pv (PR.pickT rfl rfl) ?_
     refine hy _ _ _ _ _ _ _ _ _ _ _ _ _ _ k hlt' rfl (by rw [hv]; rfl) zM rfl ?_ ?_
     · refine Jl.pv (PR.not rfl) ?_
       refine Jl.qn<|Jq.qt<|Jc.condF rfl<|Jc.skip ?_
       refine Jq.blkN ?_
       refine Jq.qt<|Jc.qr ?_
       refine Jl.pv (PR.add ((k + 1 : Nat) : Int) rfl rfl (by rw [w64 (by omega) (by omega)]; rfl)) ?_
       refine Jl.pv (PR.qm rfl)<|Jl.qn ?_
       refine Jq.again ⟨k + 1, hlt'⟩ (by simp only; omega) (by repeat (first | exact trivial | refine And.intro rfl ?_)) rfl zF
     refine Jl.pv (PR.not rfl) ?_
     refine Jl.qn<|Jq.qt<|Jc.condT rfl<|Jc.ret ?_
     refine Jq.blkR ?_
     refine Jq.thenR<|Jq.thenR ?_
     refine Jq.blkR ?_
     exact Jq.itStop (.inl rfl) hlt' zM
   try replace g15 := zW g15
   have hv : nvals r.l k = [.bool false] := by rw [nvals, fineN_if rfl rfl, decide_eq_false g15, Bool.false_and]
   refine Jl.qo rfl rfl rfl<|Jl.qo rfl rfl rfl<|Jl.pv (PR.pickF rfl rfl) ?_
   refine hy _ _ _ _ _ _ _ _ _ _ _ _ _ _ k hlt' rfl (by rw [hv]; rfl) zM rfl ?_ ?_
   · refine Jl.pv (PR.not rfl) ?_
     refine Jl.qn<|Jq.qt<|Jc.condF rfl<|Jc.skip ?_
     refine Jq.blkN ?_
     refine Jq.qt<|Jc.qr ?_
     refine Jl.pv (PR.add ((k + 1 : Nat) : Int) rfl rfl (by rw [w64 (by omega) (by omega)]; rfl)) ?_
     refine Jl.pv (PR.qm rfl)<|Jl.qn ?_
     refine Jq.again ⟨k + 1, hlt'⟩ (by simp only; omega) (by repeat (first | exact trivial | refine And.intro rfl ?_)) rfl zF
   refine Jl.pv (PR.not rfl) ?_
   refine Jl.qn<|Jq.qt<|Jc.condT rfl<|Jc.ret ?_
   refine Jq.blkR ?_
   refine Jq.thenR<|Jq.thenR ?_
   refine Jq.blkR ?_
   exact Jq.itStop (.inl rfl) hlt' zM
 try replace hlt := zW hlt
 refine Jc.exit ?_
 refine Jq.thenX ?_
 refine Jq.thenX ?_
 refine Jq.blkX ?_
 rw [show k = r.l.length by omega]; exact Jq.itDone (.inr rfl) zM
theorem right_ct (r : Rc) (x : AdC) (m : Nat → AdC) (hn : r.l.length ≤ 1000000) : Ct Tryz.prog 109 [r.v x] [] [.rd x.1 (i64s r.l), .many m] (fun _ : Unit => .bool r.ok) (fun _ => []) (fun _ => []) := by
 obtain ⟨A, cA⟩ := x
 have hno : okLen r.k.toNat r.l.length = false → r.ok = false := fun h => by rw [Rc.ok, h]; rfl
 obtain ⟨k, hk⟩ : ∃ k, k = r.k.toNat := ⟨_, rfl⟩
 rw [← hk] at hno
 by_cases h17 : 17 ≤ k
 · rw [hno (by rw [Bool.eq_false_iff, ne_eq, okLen_iff]; omega)]
   refine Ct.of _ Tryz.func109 Tryz.ntmps109 rfl rfl (fun X W => ?_)
   refine Jc.qs<|Jc.qr ?_
   refine Jl.box rfl (by rfl) ?_
   intro b1
   refine Jl.alloc tze4 ?_
   intro b2
   refine Jl.qn<|Jq.qt<|Jc.qs<|Jc.qs ?_
   refine Jc.drawn [0, 1, 3, 7, 15, 31, 63, 127, 255, 511, 1023, 2047, 4095, 8191, 2047, 18431, 51199, 116735, 247807, 509951, 1048575, 2097151, 4194303, 8388607, 16777215, 33554431, 8388607, 75497471, 209715199, 478150655, 1015021567, 2088763391, 4294967295, 8589934591] ([(0, false), (1, false), (2, false), (3, false), (4, false), (5, false), (6, false), (7, false), (8, false), (9, false), (10, false), (11, false), (12, false), (13, false), (14, false), (15, false), (16, false), (17, false), (18, false), (19, false), (20, false), (21, false), (22, false), (23, false), (24, false), (25, false), (26, false), (27, false), (28, false), (29, false), (30, false), (31, false), (32, false), (33, false)], []) [] tmx (by kernel_rfl) ?_
   refine Dh.JH.nil ?_
   refine Dh.JB.pv rfl trivial (fun _ => PR.qf rfl tfl54_0) ?_
   refine Dh.JB.rd [.blk _ _ _] rfl trivial zT (fun _ => PR.load1 rfl tsh5 Has.here (by rfl)) ?_
   refine Dh.JB.pv rfl trivial (fun _ => PR.geq true rfl rfl (by simp; omega)) ?_
   refine Dh.JB.pv rfl trivial (fun _ => PR.qm rfl)<|Dh.JB.off rfl ⟨_, rfl, .inr rfl⟩<|Dh.JB.off rfl ⟨_, rfl, .inr rfl⟩<|Dh.JB.off rfl ⟨_, rfl, .inr rfl⟩<|Dh.JB.off rfl ⟨_, rfl, .inr rfl⟩<|Dh.JB.off rfl ⟨_, rfl, .inr rfl⟩ ?_
   refine Dh.JB.pv rfl trivial (fun _ => PR.pickT rfl rfl) ?_
   refine Dh.JB.pv rfl trivial (fun _ => PR.qm rfl)<|Dh.JB.off rfl ⟨_, rfl, .inr rfl⟩<|Dh.JB.off rfl ⟨_, rfl, .inr rfl⟩<|Dh.JB.off rfl ⟨_, rfl, .inr rfl⟩<|Dh.JB.off rfl ⟨_, rfl, .inr rfl⟩<|Dh.JB.off rfl ⟨_, rfl, .inr rfl⟩<|Dh.JB.off rfl ⟨_, rfl, .inr rfl⟩<|Dh.JB.off rfl ⟨_, rfl, .inr rfl⟩<|Dh.JB.off rfl ⟨_, rfl, .inr rfl⟩<|Dh.JB.off rfl ⟨_, rfl, .inr rfl⟩<|Dh.JB.off rfl ⟨_, rfl, .inr rfl⟩ ?_
   refine Dh.JB.pv rfl trivial (fun _ => PR.pickT rfl rfl) ?_
   refine Dh.JB.pv rfl trivial (fun _ => PR.qm rfl)<|Dh.JB.off rfl ⟨_, rfl, .inr rfl⟩<|Dh.JB.off rfl ⟨_, rfl, .inr rfl⟩<|Dh.JB.off rfl ⟨_, rfl, .inr rfl⟩<|Dh.JB.off rfl ⟨_, rfl, .inr rfl⟩<|Dh.JB.off rfl ⟨_, rfl, .inr rfl⟩<|Dh.JB.off rfl ⟨_, rfl, .inr rfl⟩<|Dh.JB.off rfl ⟨_, rfl, .inr rfl⟩<|Dh.JB.off rfl ⟨_, rfl, .inr rfl⟩<|Dh.JB.off rfl ⟨_, rfl, .inr rfl⟩<|Dh.JB.off rfl ⟨_, rfl, .inr rfl⟩ ?_
   refine Dh.JB.pv rfl trivial (fun _ => PR.pickT rfl rfl) ?_
   refine Dh.JB.nil<|Dh.JL.nil<|Jq.qt<|Jc.condT rfl<|Jc.qs<|Jc.qr ?_
   refine Jl.store1 rfl tsh4 rfl (by rfl) zS (by rfl) ?_
   refine Jl.qn<|Jq.qt<|Jc.ret<|Jq.thenR ?_
   exact Jq.fin () (.inl rfl) rfl (RetVs.cell1 rfl zH tsh4 (by rfl) RetVs.nil) rfl zT zF
 · by_cases h0 : k = 0
   · rw [hno (by rw [Bool.eq_false_iff, ne_eq, okLen_iff]; omega)]
     refine Ct.of _ Tryz.func109 Tryz.ntmps109 rfl rfl (fun X W => ?_)
     refine Jc.fact (.rd (some ⟨1, 0, none⟩) (manyV m)) (φ := .many m) zM (fun X W h => h.1) ?_
     refine Jc.qs<|Jc.qr ?_
     refine Jl.box rfl (by rfl) ?_
     intro b1
     refine Jl.alloc tze4 ?_
     intro b2
     refine Jl.qn<|Jq.qt<|Jc.qs<|Jc.qs ?_
     refine Jc.drawn [0, 1, 3, 7, 15, 31, 63, 127, 255, 511, 1023, 2047, 4095, 8191, 2047, 18431, 51199, 116735, 247807, 509951, 1048575, 2097151, 4194303, 8388607, 16777215, 33554431, 8388607, 75497471, 209715199, 478150655, 1015021567, 2088763391, 4294967295, 8589934591] ([(0, false), (1, false), (2, false), (3, false), (4, false), (5, false), (6, false), (7, false), (8, false), (9, false), (10, false), (11, false), (12, false), (13, false), (14, false), (15, false), (16, false), (17, false), (18, false), (19, false), (20, false), (21, false), (22, false), (23, false), (24, false), (25, false), (26, false), (27, false), (28, false), (29, false), (30, false), (31, false), (32, false), (33, false)], []) [] tmx (by kernel_rfl) ?_
     refine Dh.JH.nil ?_
     refine Dh.JB.pv rfl trivial (fun _ => PR.qf rfl tfl54_0) ?_
     refine Dh.JB.rd [.blk _ _ _] rfl trivial zT (fun _ => PR.load1 rfl tsh5 Has.here (by rfl)) ?_
     refine Dh.JB.pv rfl trivial (fun _ => PR.geq false rfl rfl (by simp; omega)) ?_
     refine Dh.JB.pv rfl trivial (fun _ => PR.qm rfl) ?_
     refine Dh.JB.pv rfl ⟨_, rfl, rfl⟩ (fun _ => PR.qf rfl tfl54_0) ?_
     refine Dh.JB.rd [.blk _ _ _] rfl ⟨_, rfl, rfl⟩ zT (fun _ => PR.load1 rfl tsh5 Has.here (by rfl)) ?_
     refine Dh.JB.pv rfl ⟨_, rfl, rfl⟩ (fun _ => PR.idxRA r.k.toNat rfl rfl tar167 rfl (by omega)) ?_
     refine Dh.JB.pv rfl ⟨_, rfl, rfl⟩ (fun _ => PR.loadR rfl tsh23 zM ((many_at m (by omega)).trans (by rw [← hk, if_pos h0]))) ?_
     refine Dh.JB.pv rfl ⟨_, rfl, rfl⟩ (fun _ => PR.eqlNil true rfl tsl23 rfl) ?_
     refine Dh.JB.pv rfl trivial (fun _ => PR.pickF rfl rfl) ?_
     refine Dh.JB.pv rfl trivial (fun _ => PR.qm rfl)<|Dh.JB.off rfl ⟨_, rfl, .inr rfl⟩<|Dh.JB.off rfl ⟨_, rfl, .inr rfl⟩<|Dh.JB.off rfl ⟨_, rfl, .inr rfl⟩<|Dh.JB.off rfl ⟨_, rfl, .inr rfl⟩<|Dh.JB.off rfl ⟨_, rfl, .inr rfl⟩<|Dh.JB.off rfl ⟨_, rfl, .inr rfl⟩<|Dh.JB.off rfl ⟨_, rfl, .inr rfl⟩<|Dh.JB.off rfl ⟨_, rfl, .inr rfl⟩<|Dh.JB.off rfl ⟨_, rfl, .inr rfl⟩<|Dh.JB.off rfl ⟨_, rfl, .inr rfl⟩ ?_
     refine Dh.JB.pv rfl trivial (fun _ => PR.pickT rfl rfl) ?_
     refine Dh.JB.pv rfl trivial (fun _ => PR.qm rfl)<|Dh.JB.off rfl ⟨_, rfl, .inr rfl⟩<|Dh.JB.off rfl ⟨_, rfl, .inr rfl⟩<|Dh.JB.off rfl ⟨_, rfl, .inr rfl⟩<|Dh.JB.off rfl ⟨_, rfl, .inr rfl⟩<|Dh.JB.off rfl ⟨_, rfl, .inr rfl⟩<|Dh.JB.off rfl ⟨_, rfl, .inr rfl⟩<|Dh.JB.off rfl ⟨_, rfl, .inr rfl⟩<|Dh.JB.off rfl ⟨_, rfl, .inr rfl⟩<|Dh.JB.off rfl ⟨_, rfl, .inr rfl⟩<|Dh.JB.off rfl ⟨_, rfl, .inr rfl⟩ ?_
     refine Dh.JB.pv rfl trivial (fun _ => PR.pickT rfl rfl) ?_
     refine Dh.JB.nil<|Dh.JL.nil<|Jq.qt<|Jc.condT rfl<|Jc.qs<|Jc.qr ?_
     refine Jl.store1 rfl tsh4 rfl (by rfl) zS (by rfl) ?_
     refine Jl.qn<|Jq.qt<|Jc.ret<|Jq.thenR ?_
     exact Jq.fin () (.inl rfl) rfl (RetVs.cell1 rfl zH tsh4 (by rfl) RetVs.nil) rfl zT zF
   · have hb := bnd_le (show k < 17 by omega)
     refine Ct.of _ Tryz.func109 Tryz.ntmps109 rfl rfl (fun X W => ?_)
     refine Jc.fact (.rd (some ⟨1, 0, none⟩) (manyV m)) (φ := .many m) zM (fun X W h => h.1) ?_
     refine Jc.fact (.rd (m k).1 (bndV k)) (φ := .many m) zM (fun X W h => h.2 k (by omega) (by omega)) ?_
     refine Jc.pure (p := (m k).1.isNone = false) (φ := .rd (m k).1 (bndV k)) zM (fun X W h => ?_) fun hsome => ?_
     · cases hm : (m k).1 with
       | some a => rfl
       | none => rw [hm] at h; exact absurd (Fact.rd_none h) (by simp [bndV])
     refine Jc.qs<|Jc.qr ?_
     refine Jl.box rfl (by rfl) ?_
     intro b1
     refine Jl.alloc tze4 ?_
     intro b2
     refine Jl.qn<|Jq.qt<|Jc.qs<|Jc.qs ?_
     refine Jc.drawn [0, 1, 3, 7, 15, 31, 63, 127, 255, 511, 1023, 2047, 4095, 8191, 2047, 18431, 51199, 116735, 247807, 509951, 1048575, 2097151, 4194303, 8388607, 16777215, 33554431, 8388607, 75497471, 209715199, 478150655, 1015021567, 2088763391, 4294967295, 8589934591] ([(0, false), (1, false), (2, false), (3, false), (4, false), (5, false), (6, false), (7, false), (8, false), (9, false), (10, false), (11, false), (12, false), (13, false), (14, false), (15, false), (16, false), (17, false), (18, false), (19, false), (20, false), (21, false), (22, false), (23, false), (24, false), (25, false), (26, false), (27, false), (28, false), (29, false), (30, false), (31, false), (32, false), (33, false)], []) [] tmx (by kernel_rfl) ?_
     refine Dh.JH.nil ?_
     refine Dh.JB.pv rfl trivial (fun _ => PR.qf rfl tfl54_0) ?_
     refine Dh.JB.rd [.blk _ _ _] rfl trivial zT (fun _ => PR.load1 rfl tsh5 Has.here (by rfl)) ?_
     refine Dh.JB.pv rfl trivial (fun _ => PR.geq false rfl rfl (by simp; omega)) ?_
     refine Dh.JB.pv rfl trivial (fun _ => PR.qm rfl) ?_
     refine Dh.JB.pv rfl ⟨_, rfl, rfl⟩ (fun _ => PR.qf rfl tfl54_0) ?_
     refine Dh.JB.rd [.blk _ _ _] rfl ⟨_, rfl, rfl⟩ zT (fun _ => PR.load1 rfl tsh5 Has.here (by rfl)) ?_
     refine Dh.JB.pv rfl ⟨_, rfl, rfl⟩ (fun _ => PR.idxRA r.k.toNat rfl rfl tar167 rfl (by omega)) ?_
     refine Dh.JB.pv rfl ⟨_, rfl, rfl⟩ (fun _ => PR.loadR rfl tsh23 zM ((many_at m (by omega)).trans (by rw [← hk, if_neg h0]))) ?_
     refine Dh.JB.pv rfl ⟨_, rfl, rfl⟩ (fun _ => PR.eqlNil false rfl tsl23 hsome) ?_
     refine Dh.JB.pv rfl trivial (fun _ => PR.pickF rfl rfl) ?_
     refine Dh.JB.pv rfl trivial (fun _ => PR.qm rfl) ?_
     refine Dh.JB.pv rfl ⟨_, rfl, rfl⟩ (fun _ => PR.qf rfl tfl54_1) ?_
     refine Dh.JB.rd [.blk _ _ _] rfl ⟨_, rfl, rfl⟩ zT (fun _ => PR.load1 rfl tsh23 Has.here (by rfl)) ?_
     refine Dh.JB.pv rfl ⟨_, rfl, rfl⟩ (fun _ => PR.len rfl tsl23) ?_
     refine Dh.JB.pv rfl ⟨_, rfl, rfl⟩ (fun _ => PR.qf rfl tfl54_0) ?_
     refine Dh.JB.rd [.blk _ _ _] rfl ⟨_, rfl, rfl⟩ zT (fun _ => PR.load1 rfl tsh5 Has.here (by rfl)) ?_
     refine Dh.JB.pv rfl ⟨_, rfl, rfl⟩ (fun _ => PR.idxRA r.k.toNat rfl rfl tar167 rfl (by omega)) ?_
     refine Dh.JB.pv rfl ⟨_, rfl, rfl⟩ (fun _ => PR.loadR rfl tsh23 zM ((many_at m (by omega)).trans (by rw [← hk, if_neg h0]))) ?_
     refine Dh.JB.pv rfl ⟨_, rfl, rfl⟩ (fun _ => PR.idx1 0 rfl rfl tsl23 zM (by simp [bndV]) rfl (by omega)) ?_
     refine Dh.JB.pv rfl ⟨_, rfl, rfl⟩ (fun _ => PR.loadR rfl tsh3 zM rfl) ?_
     refine Dh.JB.pv rfl ⟨_, rfl, rfl⟩ (fun _ => PR.lss _ rfl rfl rfl) ?_
     refine Dh.JB.pv rfl trivial (fun _ => PR.pickF rfl rfl) ?_
     refine Dh.JB.pv rfl trivial (fun _ => PR.qm rfl) ?_
     refine Dh.JB.bsplit (fun g26 => ?_) (fun g26 => ?_)
     · try replace g26 := zV g26
       have hro : r.ok = false := hno (by rw [Bool.eq_false_iff, ne_eq, okLen_iff]; omega)
       refine Dh.JB.off rfl ⟨_, rfl, .inr rfl⟩<|Dh.JB.off rfl ⟨_, rfl, .inr rfl⟩<|Dh.JB.off rfl ⟨_, rfl, .inr rfl⟩<|Dh.JB.off rfl ⟨_, rfl, .inr rfl⟩<|Dh.JB.off rfl ⟨_, rfl, .inr rfl⟩<|Dh.JB.off rfl ⟨_, rfl, .inr rfl⟩<|Dh.JB.off rfl ⟨_, rfl, .inr rfl⟩<|Dh.JB.off rfl ⟨_, rfl, .inr rfl⟩<|Dh.JB.off rfl ⟨_, rfl, .inr rfl⟩<|Dh.JB.off rfl ⟨_, rfl, .inr rfl⟩ ?_
       refine Dh.JB.pv rfl trivial (fun _ => PR.pickT rfl rfl) ?_
       refine Dh.JB.nil<|Dh.JL.nil<|Jq.qt<|Jc.condT rfl<|Jc.qs<|Jc.qr ?_
       refine Jl.store1 rfl tsh4 rfl (by rfl) zS (by rfl) ?_
       refine Jl.qn<|Jq.qt<|Jc.ret<|Jq.thenR ?_
       exact Jq.fin () (.inl rfl) rfl (RetVs.cell1 rfl zH tsh4 (by rfl) RetVs.nil) (by rw [hro]; rfl) zT zF
     try replace g26 := zW g26
     refine Dh.JB.pv rfl ⟨_, rfl, rfl⟩ (fun _ => PR.qf rfl tfl54_1) ?_
     refine Dh.JB.rd [.blk _ _ _] rfl ⟨_, rfl, rfl⟩ zT (fun _ => PR.load1 rfl tsh23 Has.here (by rfl)) ?_
     refine Dh.JB.pv rfl ⟨_, rfl, rfl⟩ (fun _ => PR.len rfl tsl23) ?_
     refine Dh.JB.pv rfl ⟨_, rfl, rfl⟩ (fun _ => PR.qf rfl tfl54_0) ?_
     refine Dh.JB.rd [.blk _ _ _] rfl ⟨_, rfl, rfl⟩ zT (fun _ => PR.load1 rfl tsh5 Has.here (by rfl)) ?_
     refine Dh.JB.pv rfl ⟨_, rfl, rfl⟩ (fun _ => PR.idxRA r.k.toNat rfl rfl tar167 rfl (by omega)) ?_
     refine Dh.JB.pv rfl ⟨_, rfl, rfl⟩ (fun _ => PR.loadR rfl tsh23 zM ((many_at m (by omega)).trans (by rw [← hk, if_neg h0]))) ?_
     refine Dh.JB.pv rfl ⟨_, rfl, rfl⟩ (fun _ => PR.idx1 1 rfl rfl tsl23 zM (by simp [bndV]) rfl (by omega)) ?_
     refine Dh.JB.pv rfl ⟨_, rfl, rfl⟩ (fun _ => PR.loadR rfl tsh3 zM rfl) ?_
     refine Dh.JB.pv rfl ⟨_, rfl, rfl⟩ (fun _ => PR.gtr _ rfl rfl rfl) ?_
     refine Dh.JB.pv rfl trivial (fun _ => PR.pickF rfl rfl) ?_
     refine Dh.JB.nil<|Dh.JL.nil<|Jq.qt ?_
     refine Jc.cond rfl (fun h1 => ?_) (fun h1 => ?_)
     · try replace h1 := zV h1
       have hro : r.ok = false := hno (by rw [Bool.eq_false_iff, ne_eq, okLen_iff]; omega)
       refine Jc.qs<|Jc.qr ?_
       refine Jl.store1 rfl tsh4 rfl (by rfl) zS (by rfl) ?_
       refine Jl.qn<|Jq.qt<|Jc.ret<|Jq.thenR ?_
       exact Jq.fin () (.inl rfl) rfl (RetVs.cell1 rfl zH tsh4 (by rfl) RetVs.nil) (by rw [hro]; rfl) zT zF
     try replace h1 := zW h1
     have hol : okLen r.k.toNat r.l.length = true := by rw [okLen_iff, ← hk]; omega
     refine Jc.skip<|Jq.qt<|Jc.qs<|Jc.qs<|Jc.qr ?_
     refine Jl.pv (PR.loadW rfl tsh54 zH (by rfl)) ?_
     refine Jl.call (numbers_ct r (A, cA)) en129 (by rfl) zT zF ?_
     rintro b39
     refine Jl.qn<|Jq.qt ?_
     refine Jc.block ?_
     refine Jc.range (σ := Unit) (τ := Unit) (Inv := fun k _ => ∀ j, j < k → fineN (r.l.getD j 0) = true) (Rs := fun _ => [.blk b2 4 [.bool false], .blk b1 54 (r.cs (A, cA))]) (Φs := fun _ => []) (InvX := fun e _ _ => e = .ret ∧ r.ok = false) (RsX := fun _ => [.blk b2 4 [.bool false], .blk b1 54 (r.cs (A, cA))]) (ΦsX := fun _ => []) (vals := nvals r.l) rfl en146 (numbers1_it r (A, cA) b39 hn) zT zF (fun _ => rfl) rfl () (fun _ h => by omega) rfl zF ?_ ?_ ?_
     · rintro j ⟨⟩ hj hI l C1
       show Jc _ _ _ _ _ _ (psetL [40] [.bool (fineN (r.l.getD j 0))] _) [.blk b2 4 [.bool false], .blk b1 54 (r.cs (A, cA))] []
       refine Jc.qr<|Jl.pv (PR.qa rfl)<|Jl.qn ?_
       refine Jq.assigned (fun C2 => ?_)
       refine Jc.block ?_
       refine Jc.qs<|Jc.qr<|Jl.pv (PR.qm rfl) ?_
       refine Jl.pv (PR.not rfl) ?_
       refine Jl.qn<|Jq.qt ?_
       refine Jc.cond rfl (fun h2 => ?_) (fun h2 => ?_)
       · try replace h2 := zV h2
         replace h2 := not_true h2
         refine Jc.qs<|Jc.qr ?_
         refine Jl.store1 rfl tsh4 rfl (by rfl) zS (by rfl) ?_
         refine Jl.qn<|Jq.qt<|Jc.ret ?_
         refine Jq.blkR ?_
         exact Jq.nextR () ⟨rfl, by rw [Bool.eq_false_iff]; intro h; have := (Rc.ok_iff.1 h).2 (r.l.getD j 0) (by rw [getDE hj]; exact List.getElem_mem _); rw [h2] at this; cases this⟩ rfl zF
       try replace h2 := zW h2
       replace h2 := not_false h2
       refine Jc.skip ?_
       refine Jq.blkN ?_
       exact Jq.next () (fun i hi => (Nat.lt_succ_iff_lt_or_eq.1 hi).elim (hI i) (fun e => by rw [e]; exact h2)) rfl zF
     · rintro ⟨⟩ D0 hI
       have hro : r.ok = true := Rc.ok_iff.2 ⟨hol, fun n hn => by
        obtain ⟨j, hj, rfl⟩ := List.mem_iff_getElem.1 hn
        rw [← getDE hj]; exact hI j hj⟩
       refine Jq.blkN ?_
       refine Jq.qt<|Jc.qs<|Jc.qr ?_
       refine Jl.store1 rfl tsh4 rfl (by rfl) zS (by rfl) ?_
       refine Jl.qn<|Jq.qt<|Jc.ret ?_
       exact Jq.finM (Ds := [D0]) () (.inl rfl) rfl zT (RetVs.cell1 rfl zH tsh4 (by rfl) RetVs.nil) (by rw [hro]; rfl) zT zF
     rintro e j t D0 hj ⟨rfl, hro⟩
     skip
     refine Jc.ret ?_
     refine Jq.blkR ?_
     refine Jq.thenR ?_
     exact Jq.finM (Ds := [D0]) () (.inl rfl) rfl zT (RetVs.cell1 rfl zH tsh4 (by rfl) RetVs.nil) (by rw [hro]; rfl) zT zF
theorem of_ct (k : UInt8) (A : Option Addr) (c : Nat) (l : List Int) (hn : l.length ≤ 1000000) : Ct Tryz.prog 128 [.int .u8 k.toNat, .slice A l.length c] [] [.rd A (i64s l)] (⟨k, l⟩ : Rc).v (fun x => [(⟨k, l⟩ : Rc).row x]) (fun _ => []) := by
 refine Ct.of _ Tryz.func128 Tryz.ntmps128 rfl rfl (fun X W => ?_)
 refine Jc.qs<|Jc.qr ?_
 refine Jl.alloc tze54 ?_
 intro b4
 refine Jl.qn<|Jq.qt<|Jc.qs<|Jc.qr<|Jl.pv (PR.qm rfl)<|Jl.pv (PR.qm rfl) ?_
 refine Jl.call (iclone_ct A c l (by omega)) en50 (by rfl) zT zF ?_
 rintro ⟨A7, c7⟩
 refine Jl.pv (PR.build (by rfl) tze54 tpl54_0_1 (by rfl)) ?_
 refine Jl.storeW rfl tsh54 rfl (by rfl) (by simp [Value.oneCell']) zS (by rfl) ?_
 refine Jl.qn<|Jq.qt<|Jc.ret ?_
 exact Jq.fin (A7, c7) (.inl rfl) rfl (RetVs.cellA rfl zH tsh54 (by rfl) RetVs.nil) rfl zT zF
theorem rcput_ct (r : Rc) (x : AdC) (m : Nat → AdC) (hn : r.l.length ≤ 1000000) : Ct Tryz.prog 81 [r.v x] [] [.rd x.1 (i64s r.l), .many m] (fun x : AdC => .tuple #[.slice x.1 r.bytes.length x.2, .int .i64 r.putE]) (fun x => [.row 5 1 (.slice x.1 r.bytes.length x.2) r.bytes.length (u8s r.bytes)]) (fun _ => []) := by
 obtain ⟨A, cA⟩ := x
 by_cases hok : r.ok = true
 · have e1 : r.bytes = rowsB r.nums := if_pos hok
   have e2 : r.putE = 0 := if_pos hok
   have hl := Rc.ok_len hok
   have hro := rc_rowOk hok
   rw [e1, e2]
   refine Ct.of _ Tryz.func81 Tryz.ntmps81 rfl rfl (fun X W => ?_)
   refine Jc.qs<|Jc.qr ?_
   refine Jl.box rfl (by rfl) ?_
   intro b1
   refine Jl.pv (PR.qa rfl)<|Jl.pv (PR.qa rfl)<|Jl.qn<|Jq.qt<|Jc.qs<|Jc.qs<|Jc.qr ?_
   refine Jl.pv (PR.loadW rfl tsh54 zH (by rfl)) ?_
   refine Jl.call (right_ct r (A, cA) m hn) en109 (by rfl) zT zF ?_
   rintro ⟨⟩
   refine Jl.as (.bool true) (congrArg Value.bool hok) ?_
   refine Jl.pv (PR.not rfl) ?_
   refine Jl.qn<|Jq.qt<|Jc.condF rfl<|Jc.skip<|Jq.qt<|Jc.qs<|Jc.qr<|Jl.pv (PR.qf rfl tfl54_0) ?_
   refine Jl.pv (PR.load1 rfl tsh5 zH (by rfl)) ?_
   refine Jl.pv (PR.conv ((r.k.toNat : Nat) : Int) rfl Tryz.underlying5 Tryz.underlying3 (w64 (by omega) (by omega))) ?_
   refine Jl.buildSlice (by rfl) tsl23 tzr23_1 (by rfl) (by rfl) ?_
   intro b10
   refine Jl.pv (PR.qf rfl tfl54_1) ?_
   refine Jl.pv (PR.load1 rfl tsh23 zH (by rfl)) ?_
   refine Jl.seal zD ?_
   refine Jl.buildSlice (by rfl) tsl173 tzr173_2 (by rfl) (by rfl) ?_
   intro b13
   refine Jl.seal zD ?_
   refine Jl.slNil ?_
   refine Jl.slCons ((A, cA), r.l.length, i64s r.l) zM zM ?_
   refine Jl.slCons ((some ⟨b10, 0, none⟩, 1), 1, i64s [((r.k.toNat : Nat) : Int)]) zM zM ?_
   refine Jl.call (iconcat_at (l := r.nums) [((some ⟨b10, 0, none⟩, 1), 1, i64s [((r.k.toNat : Nat) : Int)]), ((A, cA), r.l.length, i64s r.l)] (by simp) (by simp [sumS]; omega) (by simp) (by simp [i64s, Value.oneCell']) rfl (by simp [flatS, Rc.nums]) (by simp [sumS, Rc.nums]; omega)) en111 (by rfl) zT zF ?_
   rintro ⟨A14, c14⟩
   refine Jl.sealR zD ?_
   refine Jl.call (row_at (l := r.nums) (m := rowsB r.nums) (r := 0) (by simp [Rc.nums]; omega) (if_pos hro) (if_pos hro)) en110 (by rfl) zT zF ?_
   rintro ⟨A15, c15⟩
   refine Jl.pv (PR.extract rfl (by rfl)) ?_
   refine Jl.pv (PR.extract rfl (by rfl)) ?_
   refine Jl.pv (PR.qa rfl)<|Jl.pv (PR.qa rfl)<|Jl.qn<|Jq.qt<|Jc.ret ?_
   exact Jq.fin (A15, c15) (.inl rfl) rfl (RetVs.tmp rfl (RetVs.tmp rfl RetVs.nil)) rfl zT zF
 · have e1 : r.bytes = [] := if_neg hok
   have e2 : r.putE = 2 := if_neg hok
   rw [e1, e2]
   refine Ct.of _ Tryz.func81 Tryz.ntmps81 rfl rfl (fun X W => ?_)
   refine Jc.qs<|Jc.qr ?_
   refine Jl.box rfl (by rfl) ?_
   intro b1
   refine Jl.pv (PR.qa rfl)<|Jl.pv (PR.qa rfl)<|Jl.qn<|Jq.qt<|Jc.qs<|Jc.qs<|Jc.qr ?_
   refine Jl.pv (PR.loadW rfl tsh54 zH (by rfl)) ?_
   refine Jl.call (right_ct r (A, cA) m hn) en109 (by rfl) zT zF ?_
   rintro ⟨⟩
   refine Jl.as (.bool false) (congrArg Value.bool (by simpa using hok)) ?_
   refine Jl.pv (PR.not rfl) ?_
   refine Jl.qn<|Jq.qt<|Jc.condT rfl<|Jc.qs<|Jc.qr<|Jl.pv (PR.qa rfl)<|Jl.pv (PR.qa rfl)<|Jl.qn<|Jq.qt<|Jc.ret<|Jq.thenR ?_
   refine Jq.nilRow 5 1 ?_
   exact Jq.fin (none, 0) (.inl rfl) rfl (RetVs.tmp rfl (RetVs.tmp rfl RetVs.nil)) rfl zT zF
theorem rc_one (r : Rc) (x : AdC) : ∀ u ∈ r.cs x, u.oneCell' = true := by simp [Rc.cs, Value.oneCell']
theorem natI_at {l : List Nat} {k : Nat} (h : k < l.length) : (natI l)[k]? = some (.int .i64 ((l.getD k 0 : Nat) : Int)) := by rw [List.getD_eq_getElem?_getD, List.getElem?_eq_getElem h]; simp [natI, h]
theorem natI_drop (l : List Nat) : ((natI l).drop (1 * 1)).take ((((l.drop 1).map Int.ofNat).length) * 1) = i64s ((l.drop 1).map Int.ofNat) := by
 rw [List.take_of_length_le (by simp [natI])]
 rw [natI, i64s, ← List.map_drop, List.map_map, Nat.mul_one]; rfl
theorem takeRow_40 (b : List UInt8) : (takeRowN b).1.length ≤ 40 := by
 by_cases h : (takeRowN b).2.2 = 0
 · have h1 := takeRow_only (b := b) (l := (takeRowN b).1) (r := (takeRowN b).2.1) (by rw [← h])
   have := (rowOk_fine h1.1).1
   simpa using this
 · rw [(takeRow_bad h).1]; simp
theorem take1_ct (A : Option Addr) (cA : Nat) (b : List UInt8) (m : Nat → AdC) (hn : b.length ≤ 1000000) (hc : b.length ≤ cA) : Ct Tryz.prog 107 [.slice A b.length cA] [] [.rd A (u8s b), .many m] (fun x : AdC => .tuple #[(rcOf b).v x, .int .i64 (rcE b)]) (fun x => [(rcOf b).row x]) (fun _ => []) := by
 obtain ⟨tl, tr, te, ht⟩ : ∃ tl tr te, takeRowN b = (tl, tr, te) := ⟨_, _, _, rfl⟩
 have htr : Ct Tryz.prog 127 [.slice A b.length cA] [] [.rd A (u8s b)] (fun x : OA × OA => .tuple #[.slice x.1.1 tl.length x.1.2, .slice x.2.1 tr.length x.2.2, .int .i64 te]) (fun x => [.row 3 1 (.slice x.1.1 tl.length x.1.2) tl.length (natI tl)]) (fun x => [.rd x.2.1 (u8s tr), .is (tr.length ≤ x.2.2)]) := by
  have h0 := takeRow_ct A cA b hn hc
  rw [ht] at h0
  exact h0
 have htl : tl.length ≤ 40 := by have := takeRow_40 b; rw [ht] at this; exact this
 have hgd : rcGood (takeRowN b) = ((decide (te = 0) && decide (tr.length = 0)) && ((decide (0 < tl.length) && decide (tl.getD 0 0 < 17)) && (rcRaw tl).ok)) := by rw [ht]; rfl
 have hno : rcGood (takeRowN b) = false → rcOf b = Rc.zero ∧ rcE b = 11 := fun h => ⟨if_neg (by rw [h]; simp), if_neg (by rw [h]; simp)⟩
 have hye : rcGood (takeRowN b) = true → rcOf b = rcRaw tl ∧ rcE b = 0 := fun h => ⟨by rw [rcOf, if_pos h, ht], if_pos h⟩
 refine Ct.of _ Tryz.func107 Tryz.ntmps107 rfl rfl (fun X W => ?_)
 refine Jc.qs<|Jc.qr ?_
 refine Jl.alloc tze54 ?_
 intro b2
 refine Jl.pv (PR.qa rfl)<|Jl.qn<|Jq.qt ?_
 refine Jc.scope (σ := { _u : Unit // rcGood (takeRowN b) = false } × Rc × AdC) (fun _ => [(2, .pointer (some ⟨b2, 0, none⟩))]) (fun s => [.blk b2 54 (s.2.1.cs s.2.2)]) (fun _ => []) (fun _ => 0) (l := 0) rfl ?_ ?_
 · rintro ⟨⟨_, hbad⟩, r0, x0⟩
   refine Jc.qs<|Jc.qr ?_
   refine Jl.pv (PR.build (by rfl) tze54 tpl54_ (by rfl)) ?_
   refine Jl.storeW rfl tsh54 rfl (by rfl) (by first | exact rc_one _ _ | simp [Value.oneCell']) zS (by rfl) ?_
   refine Jl.pv (PR.qa rfl)<|Jl.qn<|Jq.qt<|Jc.ret ?_
   refine Jq.jmpR ?_
   rw [(hno hbad).1, (hno hbad).2]
   refine Jq.nilRow 3 1 ?_
   exact Jq.fin (none, 0) (.inl rfl) rfl (RetVs.cellA rfl zH tsh54 (by rfl) (RetVs.tmp rfl RetVs.nil)) rfl zT zF
 intro hfirst0
 refine Jc.qs<|Jc.qr<|Jl.pv (PR.qm rfl) ?_
 refine Jl.call htr en127 (by rfl) zT zF ?_
 rintro ⟨⟨A9, c9⟩, ⟨B9, d9⟩⟩
 refine Jl.sealC zD (fun hc9 => ?_)
 refine Jl.pv (PR.qm rfl) ?_
 refine Jl.pv (PR.extract rfl (by rfl)) ?_
 refine Jl.pv (PR.extract rfl (by rfl)) ?_
 refine Jl.pv (PR.extract rfl (by rfl)) ?_
 refine Jl.pv (PR.qa rfl)<|Jl.pv (PR.qa rfl)<|Jl.pv (PR.qa rfl)<|Jl.qn<|Jq.qt<|Jc.qs<|Jc.qs<|Jc.qr<|Jl.pv (PR.qm rfl) ?_
 refine Jl.pv (PR.neq _ rfl rfl rfl) ?_
 refine Jl.pv (PR.qm rfl) ?_
 refine Jl.bsplit (fun g15 => ?_) (fun g15 => ?_)
 · try replace g15 := zV g15
   have hbad : rcGood (takeRowN b) = false := by rw [hgd, decide_eq_false (by omega)]; rfl
   refine Jl.qo rfl rfl rfl<|Jl.qo rfl rfl rfl<|Jl.qo rfl rfl rfl<|Jl.pv (PR.pickT rfl rfl)<|Jl.pv (PR.qm rfl)<|Jl.qo rfl rfl rfl<|Jl.qo rfl rfl rfl<|Jl.qo rfl rfl rfl<|Jl.pv (PR.pickT rfl rfl)<|Jl.pv (PR.qm rfl)<|Jl.qo rfl rfl rfl<|Jl.qo rfl rfl rfl<|Jl.qo rfl rfl rfl<|Jl.qo rfl rfl rfl<|Jl.pv (PR.pickT rfl rfl)<|Jl.qn<|Jq.qt<|Jc.condT rfl ?_
   refine Jc.goto ?_
   refine Jq.thenG ?_
   refine Jq.lessR (rs := [.blk b2 54 (Rc.zero.cs (none, 0))]) zT ?_
   exact Jq.jmpA (⟨(), hbad⟩, Rc.zero, (none, 0)) (by repeat (first | exact trivial | refine And.intro rfl ?_)) rfl trivial
 try replace g15 := zW g15
 refine Jl.on rfl rfl<|Jl.pv (PR.qm rfl)<|Jl.on rfl rfl ?_
 refine Jl.pv (PR.len rfl tsl25) ?_
 refine Jl.on rfl rfl ?_
 refine Jl.pv (PR.gtr _ rfl rfl rfl) ?_
 refine Jl.pv (PR.pickF rfl rfl)<|Jl.pv (PR.qm rfl) ?_
 refine Jl.bsplit (fun g20 => ?_) (fun g20 => ?_)
 · try replace g20 := zV g20
   have hbad : rcGood (takeRowN b) = false := by rw [hgd, decide_eq_false (p := tr.length = 0) (by omega), Bool.and_false]; rfl
   refine Jl.qo rfl rfl rfl<|Jl.qo rfl rfl rfl<|Jl.qo rfl rfl rfl<|Jl.pv (PR.pickT rfl rfl)<|Jl.pv (PR.qm rfl)<|Jl.qo rfl rfl rfl<|Jl.qo rfl rfl rfl<|Jl.qo rfl rfl rfl<|Jl.qo rfl rfl rfl<|Jl.pv (PR.pickT rfl rfl)<|Jl.qn<|Jq.qt<|Jc.condT rfl ?_
   refine Jc.goto ?_
   refine Jq.thenG ?_
   refine Jq.lessR (rs := [.blk b2 54 (Rc.zero.cs (none, 0))]) zT ?_
   exact Jq.jmpA (⟨(), hbad⟩, Rc.zero, (none, 0)) (by repeat (first | exact trivial | refine And.intro rfl ?_)) rfl trivial
 try replace g20 := zW g20
 refine Jl.on rfl rfl<|Jl.pv (PR.qm rfl)<|Jl.on rfl rfl ?_
 refine Jl.pv (PR.len rfl tsl23) ?_
 refine Jl.on rfl rfl ?_
 refine Jl.pv (PR.eql _ rfl rfl rfl) ?_
 refine Jl.pv (PR.pickF rfl rfl)<|Jl.pv (PR.qm rfl) ?_
 refine Jl.bsplit (fun g25 => ?_) (fun g25 => ?_)
 · try replace g25 := zV g25
   have hbad : rcGood (takeRowN b) = false := by rw [hgd, decide_eq_false (p := 0 < tl.length) (by omega), Bool.false_and, Bool.false_and, Bool.and_false]
   refine Jl.qo rfl rfl rfl<|Jl.qo rfl rfl rfl<|Jl.qo rfl rfl rfl<|Jl.qo rfl rfl rfl<|Jl.pv (PR.pickT rfl rfl)<|Jl.qn<|Jq.qt<|Jc.condT rfl ?_
   refine Jc.goto ?_
   refine Jq.thenG ?_
   refine Jq.lessR (rs := [.blk b2 54 (Rc.zero.cs (none, 0))]) zT ?_
   exact Jq.jmpA (⟨(), hbad⟩, Rc.zero, (none, 0)) (by repeat (first | exact trivial | refine And.intro rfl ?_)) rfl trivial
 try replace g25 := zW g25
 have hlt : 0 < tl.length := by omega
 refine Jl.on rfl rfl<|Jl.pv (PR.qm rfl)<|Jl.on rfl rfl ?_
 refine Jl.pv (PR.idx1 0 rfl rfl tsl23 zM (by simp [natI]) rfl hlt) ?_
 refine Jl.on rfl rfl ?_
 refine Jl.pv (PR.loadR rfl tsh3 zM (natI_at hlt)) ?_
 refine Jl.on rfl rfl ?_
 refine Jl.pv (PR.geq _ rfl rfl rfl) ?_
 refine Jl.pv (PR.pickF rfl rfl)<|Jl.qn<|Jq.qt ?_
 refine Jc.cond rfl (fun h0 => ?_) (fun h0 => ?_)
 · try replace h0 := zV h0
   have hbad : rcGood (takeRowN b) = false := by rw [hgd, decide_eq_false (p := tl.getD 0 0 < 17) (by omega), Bool.and_false, Bool.false_and, Bool.and_false]
   refine Jc.goto ?_
   refine Jq.thenG ?_
   refine Jq.lessR (rs := [.blk b2 54 (Rc.zero.cs (none, 0))]) zT ?_
   exact Jq.jmpA (⟨(), hbad⟩, Rc.zero, (none, 0)) (by repeat (first | exact trivial | refine And.intro rfl ?_)) rfl trivial
 try replace h0 := zW h0
 have h17 : tl.getD 0 0 < 17 := by omega
 have hgd2 : rcGood (takeRowN b) = (rcRaw tl).ok := by rw [hgd, decide_eq_true (by omega), decide_eq_true (p := tr.length = 0) (by omega), decide_eq_true hlt, decide_eq_true h17]; rfl
 refine Jc.skip<|Jq.qt<|Jc.qs<|Jc.qs ?_
 refine Jc.drawn [0, 1, 3, 7, 0, 16, 63, 127] ([], []) [⟨[(0, false), (1, false), (2, false), (3, false), (4, false), (5, false)], [], 6⟩, ⟨[], [], 7⟩] tmx (by kernel_rfl) ?_
 refine Dh.JH.cons<|Dh.JB.pv rfl trivial (fun _ => PR.qm rfl) ?_
 refine Dh.JB.pv rfl trivial (fun _ => PR.idx1 0 rfl rfl tsl23 zM (by simp [natI]) rfl hlt) ?_
 refine Dh.JB.pv rfl trivial (fun _ => PR.loadR rfl tsh3 zM (natI_at hlt)) ?_
 refine Dh.JB.pv rfl trivial (fun _ => PR.conv (((UInt8.ofNat (tl.getD 0 0)).toNat : Nat) : Int) rfl Tryz.underlying3 Tryz.underlying5 (by rw [IntKind.wrap_u8, u8_of (by omega)]; omega)) ?_
 refine Dh.JB.pv rfl trivial (fun _ => PR.qm rfl) ?_
 refine Dh.JB.slice 1 tl.length (((tl.drop 1).map Int.ofNat).length) (i64s ((tl.drop 1).map Int.ofNat)) rfl trivial rfl tsl23 rfl rfl zM (by omega) (Nat.le_refl _) hc9 (by simp) (natI_drop tl) ?_
 intro A36 c36 hc36
 clear hc36
 refine Dh.JB.nil<|Dh.JL.nil ?_
 refine Dh.JE.mk rfl (fun _ h => by cases h) (fun C3_6 => ?_)
 refine Jl.call (of_ct (UInt8.ofNat (tl.getD 0 0)) A36 c36 ((tl.drop 1).map Int.ofNat) (by simp; omega)) en128 (by rfl) zT zF ?_
 rintro ⟨A37, c37⟩
 refine Jl.qn ?_
 refine Dh.Jq.segV zX ?_ zK
 refine Dh.JH.cons<|Dh.JB.nil<|Dh.JL.nil ?_
 refine Dh.JE.mk rfl (fun _ h => by cases h) (fun C3_7 => ?_)
 refine Jl.storeW rfl tsh54 rfl (by rfl) (by first | exact rc_one _ _ | simp [Value.oneCell']) zS (by rfl) ?_
 refine Jl.qn ?_
 refine Dh.Jq.segN zX ?_ zK
 refine Dh.JH.nil ?_
 refine Dh.JB.nil<|Dh.JL.nil<|Jq.qt<|Jc.qs<|Jc.qr ?_
 refine Jl.pv (PR.loadW rfl tsh54 zH (by rfl)) ?_
 refine Jl.calll (fs := []) (cs := []) (right_ct (rcRaw tl) (A37, c37) m (by simp [rcRaw]; omega)) en109 rfl (by rfl) (by rfl) zT (ls := [(rcRaw tl).row (A37, c37)]) zT zL zF ?_
 rintro ⟨⟩
 refine Jl.qn<|Jq.qt ?_
 refine Jc.cond rfl (fun h1 => ?_) (fun h1 => ?_)
 · try replace h1 := zV h1
   refine Jc.qs<|Jc.qr ?_
   refine Jl.pv (PR.loadW rfl tsh54 zH (by rfl)) ?_
   refine Jl.storeW rfl tsh54 rfl (by rfl) (by first | exact rc_one _ _ | simp [Value.oneCell']) zS (by rfl) ?_
   refine Jl.pv (PR.qa rfl)<|Jl.qn<|Jq.qt<|Jc.ret<|Jq.thenR ?_
   refine Jq.jmpR ?_
   rw [(hye (hgd2.trans h1)).1, (hye (hgd2.trans h1)).2]
   exact Jq.fin (A37, c37) (.inl rfl) rfl (RetVs.cellA rfl zH tsh54 (by rfl) (RetVs.tmp rfl RetVs.nil)) rfl zT zF
 try replace h1 := zW h1
 refine Jc.skip<|Jq.qt<|Jc.qs ?_
 refine Jc.label ?_
 refine Jq.qt ?_
 refine Jc.lessR (rs := [.blk b2 54 ((rcRaw tl).cs (A37, c37))]) zT ?_
 exact Jc.at_ hfirst0 (⟨(), hgd2.trans h1⟩, rcRaw tl, (A37, c37)) (by repeat (first | exact trivial | refine And.intro rfl ?_)) rfl trivial
end Go.Proofs.YtakbgccddokbbaaGreatDoor
namespace Go.Proofs.YtakbgccddokbbaaGreatDoor
open Go.RowKit
attribute [local irreducible] Res.blk Res.row Fact.rd
def okAll (zs : Rcs) : Bool := zs.all fun z => z.2.ok
end Go.Proofs.YtakbgccddokbbaaGreatDoor
namespace Go.Proofs.YtakbgccddokbbaaGreatDoor
open Go.RowKit
attribute [local irreducible] Res.blk Res.row Fact.rd
def rlo (k : Nat) : Int := if 1 ≤ k ∧ k < 17 then ((bndAt k).1 : Int) else -1
def rhi (k : Nat) : Int := if 1 ≤ k ∧ k < 17 then ((bndAt k).2 : Int) else -1
theorem rmany_ct (k : Nat) : Ct Tryz.prog 45 [.int .u8 (k : Int)] [] [] (fun _ : Unit => .tuple #[.int .i64 (rlo k), .int .i64 (rhi k)]) (fun _ => []) (fun _ => []) := by
 refine Ct.of _ Tryz.func45 Tryz.ntmps45 rfl rfl (fun X W => ?_)
 refine Jc.qs<|Jc.qr<|Jl.pv (PR.qa rfl)<|Jl.pv (PR.qa rfl)<|Jl.qn<|Jq.qt<|Jc.qs<|Jc.qs<|Jc.qr<|Jl.pv (PR.qm rfl)<|Jl.qn<|Jq.qt ?_
 refine Jc.block ?_
 refine Jc.qs<|Jc.qr ?_
 refine Jl.pv (PR.eql _ rfl rfl rfl) ?_
 refine Jl.pv (PR.qa rfl)<|Jl.qn<|Jq.qt ?_
 refine Jc.cond rfl (fun h0 => ?_) (fun h0 => ?_)
 · try replace h0 := zV h0
   obtain rfl : k = 2 := by omega
   refine Jc.qs<|Jc.qr<|Jl.pv (PR.qa rfl)<|Jl.pv (PR.qa rfl)<|Jl.qn<|Jq.qt<|Jc.ret ?_
   refine Jq.blkR ?_
   refine Jq.thenR ?_
   exact Jq.fin () (.inl rfl) rfl (RetVs.tmp rfl (RetVs.tmp rfl RetVs.nil)) rfl zT zF
 try replace h0 := zW h0
 refine Jc.qs<|Jc.qs<|Jc.qr ?_
 refine Jl.pv (PR.eql _ rfl rfl rfl) ?_
 refine Jl.pv (PR.qa rfl)<|Jl.qn<|Jq.qt ?_
 refine Jc.cond rfl (fun h1 => ?_) (fun h1 => ?_)
 · try replace h1 := zV h1
   obtain rfl : k = 1 := by omega
   refine Jc.skip<|Jq.qt<|Jc.condT rfl<|Jc.qs<|Jc.qr<|Jl.pv (PR.qa rfl)<|Jl.pv (PR.qa rfl)<|Jl.qn<|Jq.qt<|Jc.ret ?_
   refine Jq.blkR ?_
   refine Jq.thenR ?_
   exact Jq.fin () (.inl rfl) rfl (RetVs.tmp rfl (RetVs.tmp rfl RetVs.nil)) rfl zT zF
 try replace h1 := zW h1
 refine Jc.qs<|Jc.qr ?_
 refine Jl.pv (PR.eql _ rfl rfl rfl) ?_
 refine Jl.pv (PR.qa rfl)<|Jl.qn<|Jq.qt ?_
 refine Jc.cond rfl (fun h2 => ?_) (fun h2 => ?_)
 · try replace h2 := zV h2
   obtain rfl : k = 12 := by omega
   refine Jc.skip<|Jq.qt<|Jc.condT rfl<|Jc.qs<|Jc.qr<|Jl.pv (PR.qa rfl)<|Jl.pv (PR.qa rfl)<|Jl.qn<|Jq.qt<|Jc.ret ?_
   refine Jq.blkR ?_
   refine Jq.thenR ?_
   exact Jq.fin () (.inl rfl) rfl (RetVs.tmp rfl (RetVs.tmp rfl RetVs.nil)) rfl zT zF
 try replace h2 := zW h2
 refine Jc.qs<|Jc.qr ?_
 refine Jl.pv (PR.eql _ rfl rfl rfl) ?_
 refine Jl.pv (PR.qa rfl)<|Jl.qn<|Jq.qt ?_
 refine Jc.cond rfl (fun h3 => ?_) (fun h3 => ?_)
 · try replace h3 := zV h3
   obtain rfl : k = 13 := by omega
   refine Jc.skip<|Jq.qt<|Jc.condT rfl<|Jc.qs<|Jc.qr<|Jl.pv (PR.qa rfl)<|Jl.pv (PR.qa rfl)<|Jl.qn<|Jq.qt<|Jc.ret ?_
   refine Jq.blkR ?_
   refine Jq.thenR ?_
   exact Jq.fin () (.inl rfl) rfl (RetVs.tmp rfl (RetVs.tmp rfl RetVs.nil)) rfl zT zF
 try replace h3 := zW h3
 refine Jc.qs<|Jc.qr ?_
 refine Jl.pv (PR.eql _ rfl rfl rfl) ?_
 refine Jl.pv (PR.qa rfl)<|Jl.qn<|Jq.qt ?_
 refine Jc.cond rfl (fun h4 => ?_) (fun h4 => ?_)
 · try replace h4 := zV h4
   obtain rfl : k = 15 := by omega
   refine Jc.skip<|Jq.qt<|Jc.condT rfl<|Jc.qs<|Jc.qr<|Jl.pv (PR.qa rfl)<|Jl.pv (PR.qa rfl)<|Jl.qn<|Jq.qt<|Jc.ret ?_
   refine Jq.blkR ?_
   refine Jq.thenR ?_
   exact Jq.fin () (.inl rfl) rfl (RetVs.tmp rfl (RetVs.tmp rfl RetVs.nil)) rfl zT zF
 try replace h4 := zW h4
 refine Jc.qr ?_
 refine Jl.pv (PR.eql _ rfl rfl rfl) ?_
 refine Jl.pv (PR.qa rfl)<|Jl.qn<|Jq.qt ?_
 refine Jc.cond rfl (fun h5 => ?_) (fun h5 => ?_)
 · try replace h5 := zV h5
   obtain rfl : k = 16 := by omega
   refine Jc.qs<|Jc.qr<|Jl.pv (PR.qa rfl)<|Jl.pv (PR.qa rfl)<|Jl.qn<|Jq.qt<|Jc.ret ?_
   refine Jq.blkR ?_
   refine Jq.thenR ?_
   exact Jq.fin () (.inl rfl) rfl (RetVs.tmp rfl (RetVs.tmp rfl RetVs.nil)) rfl zT zF
 try replace h5 := zW h5
 refine Jc.qs<|Jc.qs<|Jc.qr ?_
 refine Jl.pv (PR.eql _ rfl rfl rfl) ?_
 refine Jl.pv (PR.qa rfl)<|Jl.qn<|Jq.qt ?_
 refine Jc.cond rfl (fun h6 => ?_) (fun h6 => ?_)
 · try replace h6 := zV h6
   obtain rfl : k = 5 := by omega
   refine Jc.skip<|Jq.qt<|Jc.condT rfl<|Jc.qs<|Jc.qr<|Jl.pv (PR.qa rfl)<|Jl.pv (PR.qa rfl)<|Jl.qn<|Jq.qt<|Jc.ret ?_
   refine Jq.blkR ?_
   refine Jq.thenR ?_
   exact Jq.fin () (.inl rfl) rfl (RetVs.tmp rfl (RetVs.tmp rfl RetVs.nil)) rfl zT zF
 try replace h6 := zW h6
 refine Jc.qs<|Jc.qr ?_
 refine Jl.pv (PR.eql _ rfl rfl rfl) ?_
 refine Jl.pv (PR.qa rfl)<|Jl.qn<|Jq.qt ?_
 refine Jc.cond rfl (fun h7 => ?_) (fun h7 => ?_)
 · try replace h7 := zV h7
   obtain rfl : k = 7 := by omega
   refine Jc.skip<|Jq.qt<|Jc.condT rfl<|Jc.qs<|Jc.qr<|Jl.pv (PR.qa rfl)<|Jl.pv (PR.qa rfl)<|Jl.qn<|Jq.qt<|Jc.ret ?_
   refine Jq.blkR ?_
   refine Jq.thenR ?_
   exact Jq.fin () (.inl rfl) rfl (RetVs.tmp rfl (RetVs.tmp rfl RetVs.nil)) rfl zT zF
 try replace h7 := zW h7
 refine Jc.qs<|Jc.qr ?_
 refine Jl.pv (PR.eql _ rfl rfl rfl) ?_
 refine Jl.pv (PR.qa rfl)<|Jl.qn<|Jq.qt ?_
 refine Jc.cond rfl (fun h8 => ?_) (fun h8 => ?_)
 · try replace h8 := zV h8
   obtain rfl : k = 10 := by omega
   refine Jc.skip<|Jq.qt<|Jc.condT rfl<|Jc.qs<|Jc.qr<|Jl.pv (PR.qa rfl)<|Jl.pv (PR.qa rfl)<|Jl.qn<|Jq.qt<|Jc.ret ?_
   refine Jq.blkR ?_
   refine Jq.thenR ?_
   exact Jq.fin () (.inl rfl) rfl (RetVs.tmp rfl (RetVs.tmp rfl RetVs.nil)) rfl zT zF
 try replace h8 := zW h8
 refine Jc.qr ?_
 refine Jl.pv (PR.eql _ rfl rfl rfl) ?_
 refine Jl.pv (PR.qa rfl)<|Jl.qn<|Jq.qt ?_
 refine Jc.cond rfl (fun h9 => ?_) (fun h9 => ?_)
 · try replace h9 := zV h9
   obtain rfl : k = 14 := by omega
   refine Jc.qs<|Jc.qr<|Jl.pv (PR.qa rfl)<|Jl.pv (PR.qa rfl)<|Jl.qn<|Jq.qt<|Jc.ret ?_
   refine Jq.blkR ?_
   refine Jq.thenR ?_
   exact Jq.fin () (.inl rfl) rfl (RetVs.tmp rfl (RetVs.tmp rfl RetVs.nil)) rfl zT zF
 try replace h9 := zW h9
 refine Jc.qs<|Jc.qs<|Jc.qr ?_
 refine Jl.pv (PR.eql _ rfl rfl rfl) ?_
 refine Jl.pv (PR.qa rfl)<|Jl.qn<|Jq.qt ?_
 refine Jc.cond rfl (fun h10 => ?_) (fun h10 => ?_)
 · try replace h10 := zV h10
   obtain rfl : k = 9 := by omega
   refine Jc.skip<|Jq.qt<|Jc.condT rfl<|Jc.qs<|Jc.qr<|Jl.pv (PR.qa rfl)<|Jl.pv (PR.qa rfl)<|Jl.qn<|Jq.qt<|Jc.ret ?_
   refine Jq.blkR ?_
   refine Jq.thenR ?_
   exact Jq.fin () (.inl rfl) rfl (RetVs.tmp rfl (RetVs.tmp rfl RetVs.nil)) rfl zT zF
 try replace h10 := zW h10
 refine Jc.qr ?_
 refine Jl.pv (PR.eql _ rfl rfl rfl) ?_
 refine Jl.pv (PR.qa rfl)<|Jl.qn<|Jq.qt ?_
 refine Jc.cond rfl (fun h11 => ?_) (fun h11 => ?_)
 · try replace h11 := zV h11
   obtain rfl : k = 11 := by omega
   refine Jc.qs<|Jc.qr<|Jl.pv (PR.qa rfl)<|Jl.pv (PR.qa rfl)<|Jl.qn<|Jq.qt<|Jc.ret ?_
   refine Jq.blkR ?_
   refine Jq.thenR ?_
   exact Jq.fin () (.inl rfl) rfl (RetVs.tmp rfl (RetVs.tmp rfl RetVs.nil)) rfl zT zF
 try replace h11 := zW h11
 refine Jc.qs<|Jc.qs<|Jc.qr ?_
 refine Jl.pv (PR.eql _ rfl rfl rfl) ?_
 refine Jl.pv (PR.qa rfl)<|Jl.qn<|Jq.qt ?_
 refine Jc.cond rfl (fun h12 => ?_) (fun h12 => ?_)
 · try replace h12 := zV h12
   obtain rfl : k = 3 := by omega
   refine Jc.skip<|Jq.qt<|Jc.condT rfl<|Jc.qs<|Jc.qr<|Jl.pv (PR.qa rfl)<|Jl.pv (PR.qa rfl)<|Jl.qn<|Jq.qt<|Jc.ret ?_
   refine Jq.blkR ?_
   refine Jq.thenR ?_
   exact Jq.fin () (.inl rfl) rfl (RetVs.tmp rfl (RetVs.tmp rfl RetVs.nil)) rfl zT zF
 try replace h12 := zW h12
 refine Jc.qs<|Jc.qr ?_
 refine Jl.pv (PR.eql _ rfl rfl rfl) ?_
 refine Jl.pv (PR.qa rfl)<|Jl.qn<|Jq.qt ?_
 refine Jc.cond rfl (fun h13 => ?_) (fun h13 => ?_)
 · try replace h13 := zV h13
   obtain rfl : k = 4 := by omega
   refine Jc.skip<|Jq.qt<|Jc.condT rfl<|Jc.qs<|Jc.qr<|Jl.pv (PR.qa rfl)<|Jl.pv (PR.qa rfl)<|Jl.qn<|Jq.qt<|Jc.ret ?_
   refine Jq.blkR ?_
   refine Jq.thenR ?_
   exact Jq.fin () (.inl rfl) rfl (RetVs.tmp rfl (RetVs.tmp rfl RetVs.nil)) rfl zT zF
 try replace h13 := zW h13
 refine Jc.qr ?_
 refine Jl.pv (PR.eql _ rfl rfl rfl) ?_
 refine Jl.pv (PR.qa rfl)<|Jl.qn<|Jq.qt ?_
 refine Jc.cond rfl (fun h14 => ?_) (fun h14 => ?_)
 · try replace h14 := zV h14
   obtain rfl : k = 6 := by omega
   refine Jc.qs<|Jc.qr<|Jl.pv (PR.qa rfl)<|Jl.pv (PR.qa rfl)<|Jl.qn<|Jq.qt<|Jc.ret ?_
   refine Jq.blkR ?_
   refine Jq.thenR ?_
   exact Jq.fin () (.inl rfl) rfl (RetVs.tmp rfl (RetVs.tmp rfl RetVs.nil)) rfl zT zF
 try replace h14 := zW h14
 refine Jc.qs<|Jc.qr ?_
 refine Jl.pv (PR.eql _ rfl rfl rfl) ?_
 refine Jl.pv (PR.qa rfl)<|Jl.qn<|Jq.qt ?_
 refine Jc.cond rfl (fun h15 => ?_) (fun h15 => ?_)
 · try replace h15 := zV h15
   obtain rfl : k = 8 := by omega
   refine Jc.qs<|Jc.qr<|Jl.pv (PR.qa rfl)<|Jl.pv (PR.qa rfl)<|Jl.qn<|Jq.qt<|Jc.ret ?_
   refine Jq.blkR ?_
   refine Jq.thenR ?_
   exact Jq.fin () (.inl rfl) rfl (RetVs.tmp rfl (RetVs.tmp rfl RetVs.nil)) rfl zT zF
 try replace h15 := zW h15
 refine Jc.skip ?_
 refine Jq.blkN ?_
 refine Jq.qt<|Jc.qs<|Jc.qr<|Jl.pv (PR.qa rfl)<|Jl.pv (PR.qa rfl)<|Jl.qn<|Jq.qt<|Jc.ret ?_
 exact Jq.fin () (.inl rfl) rfl (RetVs.tmp rfl (RetVs.tmp rfl RetVs.nil)) (by rw [show rlo k = -1 from if_neg (by omega), show rhi k = -1 from if_neg (by omega)]; rfl) zT zF
theorem rright_ct (r : Rc) (x : AdC) (hn : r.l.length ≤ 1000000) : Ct Tryz.prog 24 [r.v x] [] [.rd x.1 (i64s r.l)] (fun _ : Unit => .bool r.ok) (fun _ => []) (fun _ => []) := by
 obtain ⟨A, cA⟩ := x
 have hno : okLen r.k.toNat r.l.length = false → r.ok = false := fun h => by rw [Rc.ok, h]; rfl
 have hlo : ¬ (1 ≤ r.k.toNat ∧ r.k.toNat < 17) → rlo r.k.toNat = -1 ∧ rhi r.k.toNat = -1 := fun h => ⟨if_neg h, if_neg h⟩
 have hyl : 1 ≤ r.k.toNat ∧ r.k.toNat < 17 → rlo r.k.toNat = ((bndAt r.k.toNat).1 : Int) ∧ rhi r.k.toNat = ((bndAt r.k.toNat).2 : Int) := fun h => ⟨if_pos h, if_pos h⟩
 refine Ct.of _ Tryz.func24 Tryz.ntmps24 rfl rfl (fun X W => ?_)
 refine Jc.qs<|Jc.qr ?_
 refine Jl.box rfl (by rfl) ?_
 intro b1
 refine Jl.pv (PR.qa rfl)<|Jl.qn<|Jq.qt<|Jc.qs<|Jc.qr<|Jl.pv (PR.qf rfl tfl54_0) ?_
 refine Jl.pv (PR.load1 rfl tsh5 zH (by rfl)) ?_
 refine Jl.call (rmany_ct r.k.toNat) en45 (by rfl) zT zF ?_
 rintro ⟨⟩
 refine Jl.pv (PR.qm rfl) ?_
 refine Jl.pv (PR.extract rfl (by rfl)) ?_
 refine Jl.pv (PR.extract rfl (by rfl)) ?_
 refine Jl.pv (PR.qa rfl)<|Jl.pv (PR.qa rfl)<|Jl.qn<|Jq.qt<|Jc.qs<|Jc.qs<|Jc.qr<|Jl.pv (PR.qm rfl) ?_
 refine Jl.pv (PR.lss _ rfl rfl rfl) ?_
 refine Jl.pv (PR.qm rfl) ?_
 refine Jl.bsplit (fun g14 => ?_) (fun g14 => ?_)
 · try replace g14 := zV g14
   have hro : r.ok = false := hno (by rw [Bool.eq_false_iff, ne_eq, okLen_iff]; intro h; have := hyl h.1; omega)
   refine Jl.qo rfl rfl rfl<|Jl.qo rfl rfl rfl<|Jl.qo rfl rfl rfl<|Jl.qo rfl rfl rfl<|Jl.qo rfl rfl rfl<|Jl.pv (PR.pickT rfl rfl)<|Jl.pv (PR.qm rfl)<|Jl.qo rfl rfl rfl<|Jl.qo rfl rfl rfl<|Jl.qo rfl rfl rfl<|Jl.qo rfl rfl rfl<|Jl.qo rfl rfl rfl<|Jl.pv (PR.pickT rfl rfl)<|Jl.qn<|Jq.qt<|Jc.condT rfl<|Jc.qs<|Jc.qr<|Jl.pv (PR.qa rfl)<|Jl.qn<|Jq.qt<|Jc.ret<|Jq.thenR ?_
   exact Jq.fin () (.inl rfl) rfl (RetVs.tmp rfl RetVs.nil) (by rw [hro]; rfl) zT zF
 try replace g14 := zW g14
 have hin : 1 ≤ r.k.toNat ∧ r.k.toNat < 17 := Decidable.byContradiction fun h => by have := hlo h; omega
 have hy := hyl hin
 refine Jl.on rfl rfl<|Jl.pv (PR.qf rfl tfl54_1)<|Jl.on rfl rfl ?_
 refine Jl.pv (PR.load1 rfl tsh23 zH (by rfl)) ?_
 refine Jl.on rfl rfl ?_
 refine Jl.pv (PR.len rfl tsl23) ?_
 refine Jl.on rfl rfl<|Jl.pv (PR.qm rfl)<|Jl.on rfl rfl ?_
 refine Jl.pv (PR.lss _ rfl rfl rfl) ?_
 refine Jl.pv (PR.pickF rfl rfl)<|Jl.pv (PR.qm rfl) ?_
 refine Jl.bsplit (fun g21 => ?_) (fun g21 => ?_)
 · try replace g21 := zV g21
   have hro : r.ok = false := hno (by rw [Bool.eq_false_iff, ne_eq, okLen_iff]; omega)
   refine Jl.qo rfl rfl rfl<|Jl.qo rfl rfl rfl<|Jl.qo rfl rfl rfl<|Jl.qo rfl rfl rfl<|Jl.qo rfl rfl rfl<|Jl.pv (PR.pickT rfl rfl)<|Jl.qn<|Jq.qt<|Jc.condT rfl<|Jc.qs<|Jc.qr<|Jl.pv (PR.qa rfl)<|Jl.qn<|Jq.qt<|Jc.ret<|Jq.thenR ?_
   exact Jq.fin () (.inl rfl) rfl (RetVs.tmp rfl RetVs.nil) (by rw [hro]; rfl) zT zF
 try replace g21 := zW g21
 refine Jl.on rfl rfl<|Jl.pv (PR.qf rfl tfl54_1)<|Jl.on rfl rfl ?_
 refine Jl.pv (PR.load1 rfl tsh23 zH (by rfl)) ?_
 refine Jl.on rfl rfl ?_
 refine Jl.pv (PR.len rfl tsl23) ?_
 refine Jl.on rfl rfl<|Jl.pv (PR.qm rfl)<|Jl.on rfl rfl ?_
 refine Jl.pv (PR.gtr _ rfl rfl rfl) ?_
 refine Jl.pv (PR.pickF rfl rfl)<|Jl.qn<|Jq.qt ?_
 refine Jc.cond rfl (fun h0 => ?_) (fun h0 => ?_)
 · try replace h0 := zV h0
   have hro : r.ok = false := hno (by rw [Bool.eq_false_iff, ne_eq, okLen_iff]; omega)
   refine Jc.qs<|Jc.qr<|Jl.pv (PR.qa rfl)<|Jl.qn<|Jq.qt<|Jc.ret<|Jq.thenR ?_
   exact Jq.fin () (.inl rfl) rfl (RetVs.tmp rfl RetVs.nil) (by rw [hro]; rfl) zT zF
 try replace h0 := zW h0
 have hol : okLen r.k.toNat r.l.length = true := okLen_iff.2 ⟨hin, by omega⟩
 refine Jc.skip<|Jq.qt<|Jc.qs<|Jc.qs<|Jc.qr<|Jl.pv (PR.qa rfl)<|Jl.qn<|Jq.qt ?_
 refine Jc.block ?_
 refine Jc.loop (σ := { k : Nat // k ≤ r.l.length ∧ ∀ j, j < k → fineN (r.l.getD j 0) = true }) (fun s => [(5, .int .i64 (s.1 : Int)), (1, .pointer (some ⟨b1, 0, none⟩))]) (fun _ => [.blk b1 54 (r.cs (A, cA))]) (fun _ => [.rd A (i64s r.l)]) (fun s => r.l.length - s.1) ⟨0, Nat.zero_le _, fun _ h => by omega⟩ (by repeat (first | exact trivial | refine And.intro rfl ?_)) rfl zF ?_
 rintro ⟨k, hk, hI⟩
 show Jc _ _ _ _ _ _ [(5, Value.int .i64 (k : Int)), (1, .pointer (some ⟨b1, 0, none⟩))] [.blk b1 54 (r.cs (A, cA))] [.rd A (i64s r.l)]
 refine Jc.qs<|Jc.qs<|Jc.qr<|Jl.pv (PR.qm rfl)<|Jl.pv (PR.qf rfl tfl54_1) ?_
 refine Jl.pv (PR.load1 rfl tsh23 zH (by rfl)) ?_
 refine Jl.pv (PR.len rfl tsl23) ?_
 refine Jl.pv (PR.lss _ rfl rfl rfl) ?_
 refine Jl.qn<|Jq.qt ?_
 refine Jc.cond rfl (fun h1 => ?_) (fun h1 => ?_)
 · try replace h1 := zV h1
   have hlt : k < r.l.length := by omega
   refine Jc.skip<|Jq.qt<|Jc.qs ?_
   refine Jc.block ?_
   refine Jc.qs<|Jc.qr<|Jl.pv (PR.qf rfl tfl54_1) ?_
   refine Jl.pv (PR.load1 rfl tsh23 zH (by rfl)) ?_
   refine Jl.pv (PR.qm rfl) ?_
   refine Jl.pv (PR.idx1 k rfl rfl tsl23 zM (by simp) rfl hlt) ?_
   refine Jl.pv (PR.loadR rfl tsh3 zM (getd hlt)) ?_
   refine Jl.pv (PR.lss _ rfl rfl rfl) ?_
   refine Jl.pv (PR.qm rfl) ?_
   refine Jl.bsplit (fun g41 => ?_) (fun g41 => ?_)
   · try replace g41 := zV g41
     have hro : r.ok = false := by rw [Bool.eq_false_iff]; intro h; have := (Rc.ok_iff.1 h).2 (r.l.getD k 0) (by rw [getDE hlt]; exact List.getElem_mem _); simp only [fineN, Bool.and_eq_true, decide_eq_true_eq] at this; omega
     refine Jl.qo rfl rfl rfl<|Jl.qo rfl rfl rfl<|Jl.qo rfl rfl rfl<|Jl.qo rfl rfl rfl<|Jl.qo rfl rfl rfl<|Jl.qo rfl rfl rfl<|Jl.pv (PR.pickT rfl rfl)<|Jl.qn<|Jq.qt<|Jc.condT rfl<|Jc.qs<|Jc.qr<|Jl.pv (PR.qa rfl)<|Jl.qn<|Jq.qt<|Jc.ret ?_
     refine Jq.blkR ?_
     refine Jq.thenR<|Jq.thenR ?_
     refine Jq.blkR ?_
     refine Jq.thenR ?_
     exact Jq.fin () (.inl rfl) rfl (RetVs.tmp rfl RetVs.nil) (by rw [hro]; rfl) zT zF
   try replace g41 := zW g41
   refine Jl.on rfl rfl<|Jl.pv (PR.qf rfl tfl54_1)<|Jl.on rfl rfl ?_
   refine Jl.pv (PR.load1 rfl tsh23 zH (by rfl)) ?_
   refine Jl.on rfl rfl<|Jl.pv (PR.qm rfl)<|Jl.on rfl rfl ?_
   refine Jl.pv (PR.idx1 k rfl rfl tsl23 zM (by simp) rfl hlt) ?_
   refine Jl.on rfl rfl ?_
   refine Jl.pv (PR.loadR rfl tsh3 zM (getd hlt)) ?_
   refine Jl.on rfl rfl ?_
   refine Jl.pv (PR.gtr _ rfl rfl rfl) ?_
   refine Jl.pv (PR.pickF rfl rfl)<|Jl.qn<|Jq.qt ?_
   refine Jc.cond rfl (fun h2 => ?_) (fun h2 => ?_)
   · try replace h2 := zV h2
     have hro : r.ok = false := by rw [Bool.eq_false_iff]; intro h; have := (Rc.ok_iff.1 h).2 (r.l.getD k 0) (by rw [getDE hlt]; exact List.getElem_mem _); simp only [fineN, Bool.and_eq_true, decide_eq_true_eq] at this; omega
     refine Jc.qs<|Jc.qr<|Jl.pv (PR.qa rfl)<|Jl.qn<|Jq.qt<|Jc.ret ?_
     refine Jq.blkR ?_
     refine Jq.thenR<|Jq.thenR ?_
     refine Jq.blkR ?_
     refine Jq.thenR ?_
     exact Jq.fin () (.inl rfl) rfl (RetVs.tmp rfl RetVs.nil) (by rw [hro]; rfl) zT zF
   try replace h2 := zW h2
   refine Jc.skip ?_
   refine Jq.blkN ?_
   refine Jq.qt<|Jc.qr<|Jl.pv (PR.qm rfl) ?_
   refine Jl.pv (PR.add ((k + 1 : Nat) : Int) rfl rfl (by rw [w64 (by omega) (by omega)]; rfl)) ?_
   refine Jl.pv (PR.qa rfl)<|Jl.qn ?_
   refine Jq.again ⟨k + 1, hlt, fun j hj => (Nat.lt_succ_iff_lt_or_eq.1 hj).elim (hI j) (fun e => by rw [e]; simp only [fineN, Bool.and_eq_true, decide_eq_true_eq]; omega)⟩ (by simp only; omega) (by repeat (first | exact trivial | refine And.intro rfl ?_)) rfl zF
 try replace h1 := zW h1
 have hro : r.ok = true := Rc.ok_iff.2 ⟨hol, fun n hn => by
  obtain ⟨j, hj, rfl⟩ := List.mem_iff_getElem.1 hn
  rw [← getDE hj]; exact hI j (by omega)⟩
 refine Jc.exit ?_
 refine Jq.thenX ?_
 refine Jq.thenX ?_
 refine Jq.blkX ?_
 refine Jq.qt<|Jc.qs<|Jc.qr<|Jl.pv (PR.qa rfl)<|Jl.qn<|Jq.qt<|Jc.ret ?_
 exact Jq.fin () (.inl rfl) rfl (RetVs.tmp rfl RetVs.nil) (by rw [hro]; rfl) zT zF
end Go.Proofs.YtakbgccddokbbaaGreatDoor
namespace Go.Proofs.YtakbgccddokbbaaGreatDoor
open Go.RowKit
attribute [local irreducible] Res.blk Res.row Fact.rd
theorem rrowN_at {A : Option Addr} {c n : Nat} {l : List Int} (hl : l.length = n) (hn : n ≤ 1000) (h : rowOk l = true) : Ct Tryz.prog 78 [.slice A n c] [] [.rd A (i64s l)] (fun x : Option Addr × Nat => .tuple #[.slice x.1 (rowsB l).length x.2, .int .i64 0]) (rowU (rowsB l)) (fun _ => []) := by
 subst hl
 have h0 := rrowN_ct A c l hn
 rw [show rowN l = rowsB l from if_pos h, show rowR l = 0 from if_pos h] at h0
 exact h0
theorem rputR_ct (r : Rc) (x : AdC) (hn : r.l.length ≤ 1000000) : Ct Tryz.prog 58 [r.v x] [] [.rd x.1 (i64s r.l)] (fun x : AdC => .tuple #[.slice x.1 r.bytes.length x.2, .int .i64 r.putE]) (fun x => [.row 5 1 (.slice x.1 r.bytes.length x.2) r.bytes.length (u8s r.bytes)]) (fun _ => []) := by
 obtain ⟨A, cA⟩ := x
 by_cases hok : r.ok = true
 · have e1 : r.bytes = rowsB r.nums := if_pos hok
   have e2 : r.putE = 0 := if_pos hok
   have hl := Rc.ok_len hok
   have hro := rc_rowOk hok
   rw [e1, e2]
   refine Ct.of _ Tryz.func58 Tryz.ntmps58 rfl rfl (fun X W => ?_)
   refine Jc.qs<|Jc.qr ?_
   refine Jl.box rfl (by rfl) ?_
   intro b1
   refine Jl.pv (PR.qa rfl)<|Jl.pv (PR.qa rfl)<|Jl.qn<|Jq.qt<|Jc.qs<|Jc.qs<|Jc.qr ?_
   refine Jl.pv (PR.loadW rfl tsh54 zH (by rfl)) ?_
   refine Jl.call (rright_ct r (A, cA) hn) en24 (by rfl) zT zF ?_
   rintro ⟨⟩
   refine Jl.as (.bool true) (congrArg Value.bool hok) ?_
   refine Jl.pv (PR.not rfl) ?_
   refine Jl.qn<|Jq.qt<|Jc.condF rfl<|Jc.skip<|Jq.qt<|Jc.qs<|Jc.qr<|Jl.pv (PR.qf rfl tfl54_0) ?_
   refine Jl.pv (PR.load1 rfl tsh5 zH (by rfl)) ?_
   refine Jl.pv (PR.conv ((r.k.toNat : Nat) : Int) rfl Tryz.underlying5 Tryz.underlying3 (w64 (by omega) (by omega))) ?_
   refine Jl.buildSlice (by rfl) tsl23 tzr23_1 (by rfl) (by rfl) ?_
   intro b10
   refine Jl.pv (PR.qf rfl tfl54_1) ?_
   refine Jl.pv (PR.load1 rfl tsh23 zH (by rfl)) ?_
   refine Jl.toRow 1 1 zS (by rfl) (by rfl) ?_
   refine Jl.append r.nums.length (i64s r.nums) rfl rfl rfl tsl23 tze3 (by rfl) (by decide) tby3 (fun _ _ => zS) zM (by simp [Rc.nums]; omega) (by simp [Rc.nums]) (by simp) (i64s_one _) (by omega) (by decide) ?_
   intro A13 c13
   refine Jl.sealR zD ?_
   refine Jl.call (rrowN_at (l := r.nums) rfl (by simp [Rc.nums]; omega) hro) en78 (by rfl) zT zF ?_
   rintro ⟨A14, c14⟩
   refine Jl.pv (PR.extract rfl (by rfl)) ?_
   refine Jl.pv (PR.extract rfl (by rfl)) ?_
   refine Jl.pv (PR.qa rfl)<|Jl.pv (PR.qa rfl)<|Jl.qn<|Jq.qt<|Jc.ret ?_
   exact Jq.fin (A14, c14) (.inl rfl) rfl (RetVs.tmp rfl (RetVs.tmp rfl RetVs.nil)) rfl zT zF
 · have e1 : r.bytes = [] := if_neg hok
   have e2 : r.putE = 2 := if_neg hok
   rw [e1, e2]
   refine Ct.of _ Tryz.func58 Tryz.ntmps58 rfl rfl (fun X W => ?_)
   refine Jc.qs<|Jc.qr ?_
   refine Jl.box rfl (by rfl) ?_
   intro b1
   refine Jl.pv (PR.qa rfl)<|Jl.pv (PR.qa rfl)<|Jl.qn<|Jq.qt<|Jc.qs<|Jc.qs<|Jc.qr ?_
   refine Jl.pv (PR.loadW rfl tsh54 zH (by rfl)) ?_
   refine Jl.call (rright_ct r (A, cA) hn) en24 (by rfl) zT zF ?_
   rintro ⟨⟩
   refine Jl.as (.bool false) (congrArg Value.bool (by simpa using hok)) ?_
   refine Jl.pv (PR.not rfl) ?_
   refine Jl.qn<|Jq.qt<|Jc.condT rfl<|Jc.qs<|Jc.qr<|Jl.pv (PR.qa rfl)<|Jl.pv (PR.qa rfl)<|Jl.qn<|Jq.qt<|Jc.ret<|Jq.thenR ?_
   refine Jq.nilRow 5 1 ?_
   exact Jq.fin (none, 0) (.inl rfl) rfl (RetVs.tmp rfl (RetVs.tmp rfl RetVs.nil)) rfl zT zF
end Go.Proofs.YtakbgccddokbbaaGreatDoor
namespace Go.Proofs.YtakbgccddokbbaaGreatDoor
open Go.RowKit
def Fact.yg (m : Nat) (φ : Fact) : Fact where
 p := fun X W => φ.p (fun b => X b ∨ b < m) W
 fr := fun X X' W W' h hf hx => φ.fr _ _ W W' h ⟨hf.os, hf.tape, hf.output, hf.size, fun b hb hx' => hf.block b hb fun h => hx' (.inl h)⟩ fun b hb => by
  rcases hb with hb | hb
  · exact (hx b hb).imp .inl id
  · exact .inl (.inr hb)
theorem Fact.yg_p {m : Nat} {φ : Fact} {X : Nat → Prop} {W : World} (h : (Fact.yg m φ).p X W) : φ.p X W := φ.fr _ _ W W h (Foreign.refl _ _) fun b hb => .inl (.inl hb)
def Fact.sz (m : Nat) : Fact := ⟨fun _ W => m ≤ W.heap.size, fun _ _ _ _ h hf _ => Nat.le_trans h hf.size⟩
def CtY (P : Program) (f : FuncId) (args : List Value) (Rin : List Res) (pre : List Fact) {α : Type} (res : α → Value) (Rout : α → List Res) (post yng : α → List Fact) : Prop :=
  ∀ X W, (∀ b, X b → b < W.heap.size) → Sep X W Rin → (∀ φ ∈ pre, φ.p (fun b => X b ∨ ownL Rin b) W) →
    Calls P f args.toArray W fun e W' => ∃ x, e = .returned (res x) ∧ Foreign (ownL Rin) W W' ∧ Sep X W' (Rout x) ∧ (∀ b, ownL (Rout x) b → ownL Rin b ∨ W.heap.size ≤ b) ∧ (∀ φ ∈ post x, φ.p (fun b => X b ∨ ownL (Rout x) b) W') ∧ ∀ φ ∈ yng x, φ.p (fun b => b < W.heap.size ∨ ownL (Rout x) b) W'
section
variable {P : Program} {f : FuncId} {args : List Value} {Rin : List Res} {pre : List Fact} {α : Type} {res : α → Value} {Rout : α → List Res} {post yng : α → List Fact}
theorem CtY.of {fn : Func} {c : Code} (nt : Nat) (hf : P.funcs[f]? = some fn) (hnt : fn.ntmps = nt) (hb : fn.body = some c) (hn : Nat.ble args.length nt = true)
 (h : ∀ X W, Jc P none ⟨X, ownL Rin, W⟩ (nt, []) (bodyPostM Fence.wide 0 P fn (Fin ⟨X, ownL Rin, W⟩ res Rout (fun x => post x ++ (yng x).map (Fact.yg W.heap.size)))) c (envOf args 0) Rin pre) : CtY P f args Rin pre res Rout post yng := fun X W hX hs hp => by
 refine Calls.mono (marks_call (args := args.toArray) hf hb (wpIn_wide.1 (h X W _ W ?_ ?_))) ?_
 · have hn' := Nat.le_of_ble_eq_true hn
   refine ⟨rfl, by simp [hnt]; omega, fun t v ht => ?_⟩
   obtain ⟨_, h2⟩ := elook_envOf args 0 t v ht
   have hlt := (List.getElem?_eq_some_iff.1 h2).1
   simp only [Nat.sub_zero] at h2 hlt
   rw [Array.getElem?_append_left (by simpa using hlt)]
   simpa using h2
 · exact ⟨Foreign.refl _ _, hs, fun b hb => .inl hb, hX, hp⟩
 · rintro e W' ⟨x, h1, h2, h3, h4, h5⟩
   refine ⟨x, h1, h2, h3, h4, fun φ hφ => h5 φ (List.mem_append_left _ hφ), fun φ hφ => ?_⟩
   have := h5 _ (List.mem_append_right _ (List.mem_map.2 ⟨φ, hφ, rfl⟩))
   exact φ.fr _ _ W' W' this (Foreign.refl _ _) fun b hb => .inl (hb.elim .inr fun h => .inl (.inr h))
theorem CtY.at (h : CtY P f args Rin pre res Rout post yng) (m : Nat) : Ct P f args Rin (.sz m :: pre) res Rout (fun x => post x ++ (yng x ++ (yng x).map (Fact.yg m))) := fun X W hX hs hp => by
 have hm : m ≤ W.heap.size := hp (.sz m) (List.mem_cons_self ..)
 refine Calls.mono (h X W hX hs fun φ hφ => hp φ (List.mem_cons_of_mem _ hφ)) ?_
 rintro e W' ⟨x, h1, h2, h3, h4, h5, h6⟩
 refine ⟨x, h1, h2, h3, h4, fun φ hφ => ?_⟩
 rcases List.mem_append.1 hφ with hφ | hφ
 · exact h5 φ hφ
 · rcases List.mem_append.1 hφ with hφ | hφ
   · exact φ.fr _ _ W' W' (h6 φ hφ) (Foreign.refl _ _) fun b hb => .inl (hb.imp (hX b) id)
   · obtain ⟨ψ, hψ, rfl⟩ := List.mem_map.1 hφ
     exact ψ.fr _ _ W' W' (h6 ψ hψ) (Foreign.refl _ _) fun b hb => .inl (by
      rcases hb with (hb | hb) | hb
      · exact .inl (hX b hb)
      · exact .inr hb
      · exact .inl (by omega))
theorem CtY.ct (h : CtY P f args Rin pre res Rout post yng) : Ct P f args Rin pre res Rout (fun x => post x ++ yng x) := fun X W hX hs hp => by
 refine Calls.mono (h X W hX hs hp) ?_
 rintro e W' ⟨x, h1, h2, h3, h4, h5, h6⟩
 refine ⟨x, h1, h2, h3, h4, fun φ hφ => ?_⟩
 rcases List.mem_append.1 hφ with hφ | hφ
 · exact h5 φ hφ
 · exact φ.fr _ _ W' W' (h6 φ hφ) (Foreign.refl _ _) fun b hb => .inl (hb.imp (hX b) id)
end
section
variable {P : Program} {r : Option Nat} {C : Cx} {n : Nat × List Nat} {ops : Array Oper} {Q : Exit → Act → World → Prop} {rest : List Oper} {env : List (Nat × Value)} {R R' : List Res} {Φ : List Fact} {d : Nat} {T T' : TypeId} {pos : String} {af : Array Edge} {x : Operand}
theorem Jl.sealY {e : TypeId} {s m cap : Nat} {A : Option Addr} {xs : List Value} (hM : ∀ b, ¬ C.M0 b) (hd : Del (.row e s (.slice A m cap) m xs) R R')
 (k : m ≤ cap → Jl P r C n ops Q rest env R' (.yg C.W0.heap.size (.rd A xs) :: .rd A xs :: Φ)) : Jl P r C n ops Q rest env R Φ := fun a W he hs => by
 obtain ⟨q1, q2, q3⟩ := hd.sep hs.sep
 have h1 : Sat C R' Φ W := hs.take (rs := [_]) ⟨_, hd, rfl⟩
 have hy : ∀ b, (Value.slice A m cap).ownBlock = some b → C.W0.heap.size ≤ b := fun b hb => (hs.ours b ((hd.own b).2 (.inl hb))).resolve_left (hM b)
 have f1 : (Fact.yg C.W0.heap.size (.rd A xs)).p (fun b => C.X0 b ∨ ownL R' b) W := show (Fact.rd A xs).p (fun b => (C.X0 b ∨ ownL R' b) ∨ b < C.W0.heap.size) W from rd_of_row q1 fun b hb hX => by
  rcases hX with (hX | hX) | hX
  · exact (q2 b hb).1 hX
  · exact (q2 b hb).2 hX
  · have := hy b hb; omega
 exact k (row_cap q1) a W he ((h1.add (Fact.yg_p f1)).add f1)
theorem Jl.sliceY {A : Option Addr} {len cap s m0 : Nat} {e : TypeId} {xs : List Value} {lo hi : Option Operand} (l h m : Nat) (ys : List Value) (hx : opv env x = some (.slice A len cap)) (hT : tslice P T' = some (e, s))
 (hlo : (match lo with | none => some (Value.int .i64 0) | some o => opv env o) = some (.int .i64 l)) (hhi : (match hi with | none => some (Value.int .i64 len) | some o => opv env o) = some (.int .i64 h))
 (hm : Mem (.yg m0 (.rd A xs)) Φ) (h1 : l ≤ h) (h2 : h ≤ len) (h3 : len ≤ cap) (hme : h - l = m) (hys : (xs.drop (l * s)).take (m * s) = ys)
 (k : ∀ A' c', c' = cap - l → Jl P r C n ops Q rest ((d, .slice A' m c') :: env) R (.yg m0 (.rd A' ys) :: .rd A' ys :: Φ)) (hd : Nat.blt d n.1 = true := by rfl) :
 Jl P r C n ops Q (⟨some d, .slice T' x lo hi none, T, pos, af, none⟩ :: rest) env R Φ := by
 subst hme hys
 exact Jl.valx hd (by simp) fun a W he hs => by
  have f0 : (Fact.rd A xs).p (fun b => (C.X0 b ∨ ownL R b) ∨ b < m0) W := hs.fact hm
  have f1 : (Fact.yg m0 (.rd _ _)).p (fun b => C.X0 b ∨ ownL R b) W := Dh.slice_rd (len := len) (cap := cap) (s := s) h1 h2 h3 _ _ f0
  exact ⟨_, W, R, _, Dh.slice_run (n := n) rfl he hx hT hlo hhi h1 h2 h3, (hs.add (Fact.yg_p f1)).add f1, k _ _ rfl⟩
end
namespace Dh
theorem JB.sliceY {P : Program} {n : Nat × List Nat} {ops : Array Oper} {env : List (Nat × Value)} {R : List Res} {Φ : List Fact} {ps : List (Nat × Bool)} {es : List (Nat × Al)} {acc : List (Nat × List Res)}
 {k : List (Nat × Value) → List (Nat × Al) → List (Nat × List Res) → List Fact → Prop} {i d : Nat} {T T' : TypeId} {pos : String} {af : Array Edge} {g : Option (Nat × Bool)} {x : Operand}
 {A : Option Addr} {len cap s m0 : Nat} {et : TypeId} {xs : List Value} {lo hi : Option Operand} (l h m : Nat) (ys : List Value) (ho : ops[i]? = some ⟨some d, .slice T' x lo hi none, T, pos, af, g⟩) (hg : OnG ops env g)
 (hx : opv env x = some (.slice A len cap)) (hT : tslice P T' = some (et, s))
 (hlo : (match lo with | none => some (Value.int .i64 0) | some o => opv env o) = some (.int .i64 l)) (hhi : (match hi with | none => some (Value.int .i64 len) | some o => opv env o) = some (.int .i64 h))
 (hm : Mem (.yg m0 (.rd A xs)) Φ) (h1 : l ≤ h) (h2 : h ≤ len) (h3 : len ≤ cap) (hme : h - l = m) (hys : (xs.drop (l * s)).take (m * s) = ys)
 (k' : ∀ A' c', c' = cap - l → JB P n ops R k ps ((d, .slice A' m c') :: env) es acc (.yg m0 (.rd A' ys) :: .rd A' ys :: Φ)) (hd : Nat.blt d n.1 = true := by rfl) : JB P n ops R k ((i, false) :: ps) env es acc Φ := by
 subst hme hys
 exact ⟨_, d, [], acc, _, by rw [ho]; rfl, ⟨_, d, ho, rfl, Nat.le_of_ble_eq_true hd, fun C' a W he hs => by
  rw [if_pos (onG hg he)]
  exact ⟨by simp, slice_run (n := n) rfl he hx hT hlo hhi h1 h2 h3⟩⟩, .inl ⟨rfl, rfl⟩, ⟨[_, _], rfl, fun X W hf φ hφ => by
   have f0 : (Fact.rd A xs).p (fun b => X b ∨ b < m0) W := hf _ hm.mem
   have f1 : (Fact.yg m0 (.rd _ _)).p X W := slice_rd (len := len) (cap := cap) (s := s) h1 h2 h3 _ _ f0
   rcases List.mem_cons.1 hφ with rfl | hφ
   · exact f1
   · obtain rfl : φ = _ := by simpa using hφ
     exact Fact.yg_p (φ := .rd _ _) f1⟩, k' _ _ rfl⟩
end Dh
def IterZ (ns : Prop) (P : Program) (gf : Nat) (lb : Array Value) (N : Nat) (encs : Nat → Nat → (Nat → Prop) → Array Value → (Nat → Prop) → World → Prop) (K0 XI : Nat → Prop) (w0 : World) : Prop :=
  ∀ (l : Nat) (J : Nat → Nat → (Nat → Prop) → (Nat → Prop) → World → Prop) (Jx : Nat → (Nat → Prop) → World → Prop) (W : World), w0.heap.size ≤ W.heap.size → (∀ b, K0 b ∨ XI b → W.heap[b]? = w0.heap[b]?) → (∀ k m K, Fr (J k m K)) → Framed Jx → (∀ k m K X W', J k m K X W' → Still w0 W') → (∀ k X W', Jx k X W' → Still w0 W') →
    (∀ k m K1 K2 X vs W1, k < N → J k m K1 X W1 → W.heap.size ≤ m → m ≤ W1.heap.size → (∀ b, K1 b → K2 b) → (∀ b, K2 b → K1 b ∨ (m ≤ b ∧ b < W1.heap.size)) → (∀ b, K2 b → b < W1.heap.size ∧ ¬ X b) → (∀ b, X b → XI b ∨ (W.heap.size ≤ b ∧ b < W1.heap.size)) → encs k m K2 vs X W1 → YieldAt Fence.wide 0 P l vs W1 fun e W' =>
      (e = .returned (.bool true) ∧ J (k + 1) W'.heap.size K2 X W' ∧ W1.heap.size ≤ W'.heap.size ∧ (∀ b, K2 b → W'.heap[b]? = W1.heap[b]?) ∧ (∀ b, X b → W'.heap[b]? = W1.heap[b]?)) ∨ (e = .returned (.bool false) ∧ Jx k X W' ∧ W1.heap.size ≤ W'.heap.size)) →
    (ns → ∀ k X W', ¬ Jx k X W') → J 0 W.heap.size K0 XI W →
    CallsIn Fence.wide 0 P gf (#[.func (.yield l) #[] #[]] ++ lb) W fun e W' => (∃ v, e = .returned v) ∧ ((∃ m K X, J N m K X W') ∨ (∃ k X, k < N ∧ Jx k X W'))
def roundEndY (K X : Nat → Prop) (In : Nat → World → Prop) (Ix : Code → World → Prop) (W : World) : Exit → Act → World → Prop
 | .normal, _, W' => W.heap.size ≤ W'.heap.size ∧ (∀ b, X b → W'.heap[b]? = W.heap[b]?) ∧ (∀ b, K b → W'.heap[b]? = W.heap[b]?) ∧ In W'.heap.size W'
 | .ret, _, W' => W.heap.size ≤ W'.heap.size ∧ (∀ b, X b → W'.heap[b]? = W.heap[b]?) ∧ Ix .ret W'
 | .exit id, _, W' => W.heap.size ≤ W'.heap.size ∧ (∀ b, X b → W'.heap[b]? = W.heap[b]?) ∧ Ix (.exit id) W'
 | .goto t, _, W' => W.heap.size ≤ W'.heap.size ∧ (∀ b, X b → W'.heap[b]? = W.heap[b]?) ∧ Ix (.goto t) W'
 | .panic _, _, _ => False
 | .outgrown, _, _ => False
def afterAssignY (P : Program) (K X : Nat → Prop) (In : Nat → World → Prop) (Ix : Code → World → Prop) (l : Nat) (body : Code) (W : World) (a₁ : Act) (W₁ : World) : Prop :=
 W.heap.size ≤ W₁.heap.size ∧ (∀ b, X b ∨ K b → W₁.heap[b]? = W.heap[b]?) ∧
  ∀ W₂, Turned l W₁ W₂ → Foreign X W₁ W₂ → body.wpIn (Fence.wide.inRound l) 0 P (roundEndY K X In Ix W₂) a₁ W₂
theorem wpIn_rangeZ {ns : Prop} {P : Program} {g : Operand} {ps : Array Tmp} {assign body : Code} {Q : Exit → Act → World → Prop} {a : Act} {w : World}
    (D : Nat) (hD : w.heap.size = D) {gf : Nat} {lb : Array Value} (hg : a.eval g = .func (.func gf) #[] lb) (eg : ∀ args w, (callFunc gf args).run P w = .ok (.enter gf args) w)
    {N : Nat} {encs : Nat → Nat → (Nat → Prop) → Array Value → (Nat → Prop) → World → Prop} {K XI : Nat → Prop} (hit : IterZ ns P gf lb N encs K XI w)
    (hK : ∀ b, K b → b < w.heap.size) (hXI : ∀ b, XI b → b < w.heap.size)
    (hps : ∀ k m K vs X W, encs k m K vs X W → vs.size = ps.size)
    (I : Nat → Nat → (Nat → Prop) → (Nat → Prop) → World → Prop) (Ix : Code → Nat → (Nat → Prop) → World → Prop) (hns : ns → ∀ c k X W, ¬ Ix c k X W) (hI : ∀ k m K, Fr (I k m K)) (hIx : ∀ c, Framed (Ix c)) (hIs : ∀ k m K X W, I k m K X W → Still w W) (hIxs : ∀ c k X W, Ix c k X W → Still w W) (h0 : I 0 (w.heap.size + 2) K XI w)
    (hround : ∀ l k m K1 K2 X vs W, k < N → l = D + 1 → I k m K1 (ext X D) W → D + 2 ≤ m → m ≤ W.heap.size → (∀ b, K1 b → K2 b) → (∀ b, K2 b → K1 b ∨ (m ≤ b ∧ b < W.heap.size)) → (∀ b, K2 b → b < W.heap.size ∧ ¬ ext X D b) → (∀ b, X b → XI b ∨ (D + 2 ≤ b ∧ b < W.heap.size)) → D + 2 ≤ W.heap.size →
      encs k m K2 vs X W →
      assign.wpIn (Fence.wide.inRound l) 0 P (Exit.then (afterAssignY P K2 (ext X D) (fun m W => I (k + 1) m K2 (ext X D) W) (fun c W => Ix c k (ext X D) W) l body W) (fun _ _ _ => False))
        { tmps := (ps.zip vs).foldl (fun t (p, v) => t.setIfInBounds p v) a.tmps, defers := [] } W)
    (hdone : ∀ (m : Nat) (K X : Nat → Prop) (W : World), (∀ b, X b → XI b ∨ D ≤ b) → X D → I N m K X W → W.heap[D]? = some (.deferred (some [])) →
      Q .normal { a with defers := { target := .collected D, args := #[] } :: a.defers } W)
    (hstop : ∀ (c : Code) (k : Nat) (X : Nat → Prop) (W : World), k < N → (∀ b, X b → XI b ∨ D ≤ b) → X D → Ix c k X W → W.heap[D]? = some (.deferred (some [])) →
      c.wpIn Fence.wide 0 P Q { a with defers := { target := .collected D, args := #[] } :: a.defers } W) :
    (Code.rangeFunc g ps assign body).wpIn Fence.wide 0 P Q a w := by
  refine wpIn_rangeFunc ?_
  intro fn hfn
  rw [Fence.wide_round]
  replace hD := hD.symm
  obtain ⟨rec, hrec⟩ : ∃ rec : LoopState → Option Code → Loop, rec = fun st pe => { state := st, pending := pe, fn, tmps := a.tmps, params := ps, assign, body, defers := D } := ⟨_, rfl⟩
  obtain ⟨W1, hW1⟩ : ∃ W1, (w.alloc (.deferred (some []))).alloc (.loop (rec .ready none)) = W1 := ⟨_, rfl⟩
  have hz1 : W1.heap.size = D + 2 := by rw [← hW1, hD]; simp
  have hL1 : W1.heap[D + 1]? = some (.loop (rec .ready none)) := by
    rw [← hW1, hD]; have := World.alloc_heap_new (w.alloc (.deferred (some []))) (.loop (rec .ready none)); rwa [World.size_alloc] at this
  have hD1 : W1.heap[D]? = some (.deferred (some [])) := by
    rw [← hW1, hD]; exact (Below.heap_alloc _ _ _ (by simp)).trans (World.alloc_heap_new w _)
  have hold : ∀ b, b < D → W1.heap[b]? = w.heap[b]? := fun b hb => by
    rw [← hW1]; exact (Below.heap_alloc _ _ _ (by simp; omega)).trans (Below.heap_alloc _ _ _ (by omega))
  have hf1 : Foreign (fun _ => False) w W1 := by rw [← hW1]; exact (Foreign.alloc _ w _).trans (Foreign.alloc _ _ _)
  have hI1 : I 0 (D + 2) K (ext XI D) W1 := hI 0 _ _ _ _ w W1 (by rw [hD]; exact h0) (⟨hf1.os, hf1.tape, hf1.output, hf1.size, fun b hb _ => hf1.block b hb id⟩) (fun b hb => by
    rcases hb with hb | hb | hb
    · exact .inl hb
    · exact .inr ⟨by omega, by omega⟩
    · exact .inr ⟨by omega, by omega⟩)
  refine ⟨D + 1, [{ target := .collected D, args := #[] }], W1, { target := .fn (.func gf) lb, args := #[.func (.yield (D + 1)) #[] #[]] }, W1, gf,
    #[.func (.yield (D + 1)) #[] #[]] ++ lb, W1, ?_, ?_, ?_, ?_, fun h => by simp [Fence.wide] at h, ?_⟩
  · rw [← hW1, hrec, hD]; exact run_enterLoop_outer _ _ _ _ _
  · simp only [resolve, hg]
    simp [go_sem]
  · intro f' _; trivial
  · simp [invoke, go_sem, eg]
  · have hext : ∀ {X X' : Nat → Prop} {W W' : World}, (∀ b, X' b → X b ∨ (W.heap.size ≤ b ∧ b < W'.heap.size)) → ∀ b, ext X' D b → ext X D b ∨ (W.heap.size ≤ b ∧ b < W'.heap.size) := by
      intro X X' W W' h b hb
      rcases hb with hb | hb | hb
      · rcases h b hb with h | h
        · exact .inl (.inl h)
        · exact .inr h
      · exact .inl (.inr (.inl hb))
      · exact .inl (.inr (.inr hb))
    have hfor : ∀ {X : Nat → Prop} {W W' : World}, Foreign X W W' → Foreign (ext X D) W W' := fun h => ⟨h.os, h.tape, h.output, h.size, fun b hb hx => h.block b hb (fun e => hx (.inl e))⟩
    refine CallsIn.mono (hit (D + 1)
      (fun k m K X W => I k m K (ext X D) W ∧ W.heap[D + 1]? = some (.loop (rec .ready none)) ∧ W.heap[D]? = some (.deferred (some [])) ∧ ¬ X D ∧ ¬ X (D + 1) ∧ ¬ K D ∧ ¬ K (D + 1))
      (fun k X W => ∃ c, Ix c k (ext X D) W ∧ W.heap[D + 1]? = some (.loop (rec .done (some c))) ∧ W.heap[D]? = some (.deferred (some [])) ∧ ¬ X D ∧ ¬ X (D + 1))
      W1 (by omega) (fun b hb => hold b (hb.elim (fun h => by have := hK b h; omega) (fun h => by have := hXI b h; omega))) ?_ ?_ (fun k m K X W h => hIs k m K _ W h.1) (fun k X W ⟨c, h, _⟩ => hIxs c k _ W h) ?_ (fun h k X W ⟨c, hx, _⟩ => hns h c k _ W hx) (by rw [hz1]; exact ⟨hI1, hL1, hD1, fun h => by have := hXI _ h; omega, fun h => by have := hXI _ h; omega, fun h => by have := hK _ h; omega, fun h => by have := hK _ h; omega⟩)) ?_
    · -- framed: while the rounds go on
      rintro k m K X X' W W' ⟨h1, h2, h3, h4, h5, h6⟩ hf hx
      have hl2 := (Array.getElem?_eq_some_iff.1 h2).1
      exact ⟨hI k _ _ _ _ W W' h1 (hfor hf) (hext hx), (hf.block _ hl2 h5).trans h2, (hf.block _ (by omega) h4).trans h3,
        fun h => (hx _ h).elim h4 (fun h => by omega), fun h => (hx _ h).elim h5 (fun h => by omega), h6⟩
    · rintro k X X' W W' ⟨c, h1, h2, h3, h4, h5⟩ hf hx
      have hl2 := (Array.getElem?_eq_some_iff.1 h2).1
      exact ⟨c, hIx c k _ _ W W' h1 (hfor hf) (hext hx), (hf.block _ hl2 h5).trans h2, (hf.block _ (by omega) h4).trans h3,
        fun h => (hx _ h).elim h4 (fun h => by omega), fun h => (hx _ h).elim h5 (fun h => by omega)⟩
    · -- one round
      rintro k m K1 K2 X vs W hk ⟨hi, hl, hd, hx1, hx2, hk1, hk2⟩ hm0 hm hKK hKy hKX hX henc
      have hlt : D + 1 < W.heap.size := (Array.getElem?_eq_some_iff.1 hl).1
      have hy := run_yield (P := P) (args := vs) hl (by rw [hrec]; exact hps k m K2 vs X W henc)
      rw [hrec] at hy
      refine ⟨fn, _, assign, body, hy, roundIn_of_wpIn hfn ?_⟩
      have hK2D : ∀ b, K2 b → b ≠ D ∧ b ≠ D + 1 := fun b hb => (hKy b hb).elim (fun h => ⟨fun e => hk1 (e ▸ h), fun e => hk2 (e ▸ h)⟩) fun h => by omega
      refine wpIn_mono (hround (D + 1) k m K1 K2 X vs W hk rfl hi (by omega) hm hKK hKy (fun b hb => ⟨(hKX b hb).1, fun h => h.elim (hKX b hb).2 fun h => h.elim (hK2D b hb).1 (hK2D b hb).2⟩) (fun b hb => (hX b hb).imp id fun h => by omega) (by omega) henc) ?_
      rintro e a₁ W₁ hp
      cases e with
      | normal =>
        obtain ⟨hs1, hsame1, hb⟩ := hp
        have hl1 : W₁.heap[D + 1]? = some (.loop (rec .ready none)) := (hsame1 _ (.inl (.inr (.inr rfl)))).trans hl
        have hd1 : W₁.heap[D]? = some (.deferred (some [])) := (hsame1 _ (.inl (.inr (.inl rfl)))).trans hd
        refine ⟨_, run_beginRound hl1 (by rw [hrec]), ?_⟩
        obtain ⟨W₂, hW2⟩ : ∃ W₂, W₁.putObj (D + 1) (.loop { rec .ready none with state := .busy }) = W₂ := ⟨_, rfl⟩
        rw [hW2]
        have hl2 : W₂.heap[D + 1]? = some (.loop { rec .ready none with state := .busy }) := by rw [← hW2]; exact World.putObj_heap_same (Array.getElem?_eq_some_iff.1 hl1).1
        have hd2 : W₂.heap[D]? = some (.deferred (some [])) := by rw [← hW2]; exact (World.putObj_heap_other (by omega)).trans hd1
        have hsz2 : W₂.heap.size = W₁.heap.size := by rw [← hW2]; simp
        have hoth : ∀ b, b ≠ D + 1 → W₂.heap[b]? = W₁.heap[b]? := fun b hb => by rw [← hW2]; exact World.putObj_heap_other hb
        refine wpIn_mono (hb W₂ (by rw [← hW2]; exact turned_putObj hl1 rfl rfl) (by rw [← hW2]; exact Foreign.putObj _ (.inr (.inr rfl)))) ?_
        have fin : ∀ (jump : Option Code) (W3 : World), (∀ b, ext X D b → W3.heap[b]? = W₂.heap[b]?) → W₂.heap.size ≤ W3.heap.size →
            (Instr.endRound (D + 1) jump).run P W3 = .ok (.bool jump.isNone) (W3.putObj (D + 1) (.loop (rec (if jump.isNone then .ready else .done) jump))) ∧
            (W3.putObj (D + 1) (.loop (rec (if jump.isNone then .ready else .done) jump))).heap[D + 1]? = some (.loop (rec (if jump.isNone then .ready else .done) jump)) ∧
            (W3.putObj (D + 1) (.loop (rec (if jump.isNone then .ready else .done) jump))).heap[D]? = some (.deferred (some [])) := fun jump W3 hk3 hs3 => by
          have hl3 := (hk3 (D + 1) (.inr (.inr rfl))).trans hl2
          have := run_endRound (P := P) jump hl3
          rw [hrec] at this ⊢
          exact ⟨this, World.putObj_heap_same (Array.getElem?_eq_some_iff.1 hl3).1, (World.putObj_heap_other (by omega)).trans ((hk3 D (.inr (.inl rfl))).trans hd2)⟩
        rintro e a3 W3 hp3
        cases e with
        | normal =>
          obtain ⟨hs3, hx3, hk3, hi3⟩ := hp3
          obtain ⟨hr, hl4, hd4⟩ := fin none W3 hx3 hs3
          refine ⟨_, _, hr, .inl ⟨rfl, ⟨by rw [show (W3.putObj (D + 1) (.loop (rec (if (none : Option Code).isNone then .ready else .done) none))).heap.size = W3.heap.size by simp]; exact hI (k + 1) _ _ _ _ W3 _ hi3 (Foreign.putObj _ (.inr (.inr rfl))) (fun b hb => .inl hb), hl4, hd4, hx1, hx2, fun h => (hK2D D h).1 rfl, fun h => (hK2D _ h).2 rfl⟩, by simp; omega, fun b hb => ?_, fun b hb => ?_⟩⟩
          · have hbD := hK2D b hb
            exact (World.putObj_heap_other hbD.2).trans ((hk3 b hb).trans ((hoth b hbD.2).trans (hsame1 b (.inr hb))))
          · have hne : b ≠ D + 1 := fun e => hx2 (e ▸ hb)
            exact (World.putObj_heap_other hne).trans ((hx3 b (.inl hb)).trans ((hoth b hne).trans (hsame1 b (.inl (.inl hb)))))
        | ret =>
          obtain ⟨hs3, hx3, hi3⟩ := hp3
          obtain ⟨hr, hl4, hd4⟩ := fin (some .ret) W3 hx3 hs3
          exact ⟨_, _, hr, .inr ⟨rfl, ⟨.ret, hIx _ k _ _ W3 _ hi3 (Foreign.putObj _ (.inr (.inr rfl))) (fun b hb => .inl hb), hl4, hd4, hx1, hx2⟩, by simp; omega⟩⟩
        | exit id =>
          obtain ⟨hs3, hx3, hi3⟩ := hp3
          obtain ⟨hr, hl4, hd4⟩ := fin (some (.exit id)) W3 hx3 hs3
          exact ⟨_, _, hr, .inr ⟨rfl, ⟨.exit id, hIx _ k _ _ W3 _ hi3 (Foreign.putObj _ (.inr (.inr rfl))) (fun b hb => .inl hb), hl4, hd4, hx1, hx2⟩, by simp; omega⟩⟩
        | goto t =>
          obtain ⟨hs3, hx3, hi3⟩ := hp3
          obtain ⟨hr, hl4, hd4⟩ := fin (some (.goto t)) W3 hx3 hs3
          exact ⟨_, _, hr, .inr ⟨rfl, ⟨.goto t, hIx _ k _ _ W3 _ hi3 (Foreign.putObj _ (.inr (.inr rfl))) (fun b hb => .inl hb), hl4, hd4, hx1, hx2⟩, by simp; omega⟩⟩
        | panic ch => exact hp3.elim
        | outgrown => exact hp3.elim
      | ret => exact hp.elim
      | exit id => exact hp.elim
      | goto t => exact hp.elim
      | panic ch => exact hp.elim
      | outgrown => exact hp.elim
    · -- behind the iterator
      rintro e W2 ⟨⟨v, rfl⟩, (⟨m, K, X, hi, hl, hd, hx1, hx2, _⟩ | ⟨k, X, hk, c, hi, hl, hd, hx1, hx2⟩)⟩
      · have hle : ∀ b, ext X D b ∧ (XI b ∨ D ≤ b) → XI b ∨ D ≤ b := fun b h => h.2
        refine ⟨none, _, by have := run_endLoop (P := P) hl (by rw [hrec]; simp); rw [hrec] at this; exact this, ?_⟩
        have hi' := hI N m K _ (fun b => ext X D b ∧ (XI b ∨ D ≤ b)) W2 (W2.putObj (D + 1) (.loop { rec .ready none with state := .exhausted })) hi (Foreign.putObj _ (.inr (.inr rfl))) (fun b hb => .inl hb.1)
        rw [hrec] at hi'
        exact hdone m K (fun b => ext X D b ∧ (XI b ∨ D ≤ b)) _ hle ⟨.inr (.inl rfl), .inr (Nat.le_refl _)⟩ hi' ((World.putObj_heap_other (by omega)).trans hd)
      · have hle : ∀ b, ext X D b ∧ (XI b ∨ D ≤ b) → XI b ∨ D ≤ b := fun b h => h.2
        refine ⟨some c, _, by have := run_endLoop (P := P) hl (by rw [hrec]; simp); rw [hrec] at this; exact this, ?_⟩
        have hi' := hIx c k _ (fun b => ext X D b ∧ (XI b ∨ D ≤ b)) W2 (W2.putObj (D + 1) (.loop { rec .done (some c) with state := .exhausted })) hi (Foreign.putObj _ (.inr (.inr rfl))) (fun b hb => .inl hb.1)
        rw [hrec] at hi'
        exact hstop c k (fun b => ext X D b ∧ (XI b ∨ D ≤ b)) _ hk hle ⟨.inr (.inl rfl), .inr (Nat.le_refl _)⟩ hi' ((World.putObj_heap_other (by omega)).trans hd)
def ItZ (ns : Prop) (P : Program) (gf : Nat) (lb : List Value) (Rit : List Res) (pre : List Fact) (N : Nat) {Y : Type} (vals : Nat → Y → List Value) (posts : Nat → Y → List Fact) : Prop :=
  ∀ (X : Nat → Prop) w0, (∀ b, X b → b < w0.heap.size) → Sep X w0 Rit → (∀ φ ∈ pre, φ.p (fun b => X b ∨ ownL Rit b) w0) →
    ∃ K : Nat → Prop, (∀ b, K b → b < w0.heap.size ∧ ¬ X b ∧ ¬ ownL Rit b) ∧ IterZ ns P gf lb.toArray N (fun k _ K vs _ W => ∃ y, vs = (vals k y).toArray ∧ ∀ φ ∈ posts k y, φ.p (fun b => b < W.heap.size ∧ ¬ K b) W) K (ownL Rit) w0
abbrev ItY (P : Program) (gf : Nat) (lb : List Value) (Rit : List Res) (pre : List Fact) (N : Nat) {Y : Type} (vals : Nat → Y → List Value) (posts : Nat → Y → List Fact) : Prop := ItZ False P gf lb Rit pre N vals posts
section
variable {σ τ : Type} {Inv : Nat → σ → Prop} {Rs : σ → List Res} {Φs : σ → List Fact} {InvX : Code → Nat → τ → Prop} {RsX : τ → List Res} {ΦsX : τ → List Fact}
theorem Jc.rangeZ {ns : Prop} {P : Program} {C : Cx} {n : Nat × List Nat} {Q : Exit → Act → World → Prop} {env : List (Nat × Value)} {R R' : List Res} {Φ : List Fact} {g : Operand} {ps : Array Tmp} {assign body : Code} {gf : Nat} {lb : List Value} {Rit : List Res} {pre : List Fact} {N : Nat} {Y : Type} {vals : Nat → Y → List Value} {posts : Nat → Y → List Fact}
    (hg : opv env g = some (.func (.func gf) #[] lb.toArray)) (eg : ∀ args w, (callFunc gf args).run P w = .ok (.enter gf args) w) (hit : ItZ ns P gf lb Rit pre N vals posts) (hns : ns → ∀ c k t, ¬ InvX c k t) (ht : Take Rit R R') (hp : FSub pre Φ)
    (hps : ∀ k y, (vals k y).length = ps.toList.length) (hpn : (ps.toList.all fun p => Nat.blt p n.1) = true) (s0 : σ) (h0 : Inv 0 s0) (hr0 : Rs s0 = R') (hf0 : FSub (Φs s0) Φ)
    (round : ∀ k s y, k < N → Inv k s → ∀ (l : Nat) (C1 : Cx), Jc P (some l) C1 (n.1, []) (AQ Inv Rs Φs InvX RsX ΦsX P l C1 n.1 k body) assign (psetL ps.toList (vals k y) env) (Rs s) (posts k y ++ Φs s))
    (done : ∀ s D, Inv N s → Jq C (n.1, D :: n.2) Q .normal env (.mark D :: Rs s) (Φs s))
    (stop : ∀ c k t D, k < N → InvX c k t → Jc P none C (n.1, D :: n.2) Q c env (.mark D :: RsX t) (ΦsX t)) : Jc P none C n Q (.rangeFunc g ps assign body) env R Φ := fun a W he hs => by
  obtain ⟨q1, q2⟩ := ht.sep hs.sep
  obtain ⟨K, hK, hiter⟩ := hit (fun b => C.X0 b ∨ ownL R' b) W (fun b hb => hb.elim (hs.x0 b) (q2.lt b)) q1 (fun φ hφ => φ.fr _ _ W W (hs.facts φ (hp.mem φ hφ)) (Foreign.refl _ _) fun b hb => .inl (by
    rcases hb with (h | h) | h
    · exact .inl h
    · exact .inr ((ht.own b).2 (.inr h))
    · exact .inr ((ht.own b).2 (.inl h))))
  have hsz := hs.ev.size
  subst hr0
  refine wpIn_rangeZ W.heap.size rfl (he.eval hg) eg hiter (fun b hb => (hK b hb).1) (fun b hb => q1.lt b hb) (fun k m K vs X W' ⟨y, h, _⟩ => by subst h; simpa using hps k y)
    (fun k m K X W => ∃ s, Inv k s ∧ Sat ⟨fun b => C.X0 b ∨ X b, C.M0, C.W0⟩ (Rs s) (Φs s) W ∧ (∀ b, X b → C.M0 b ∨ C.W0.heap.size ≤ b) ∧ ∀ b, C.X0 b ∨ ownL (Rs s) b → ¬ K b ∧ b < m)
    (fun c k X W => ∃ t, InvX c k t ∧ Sat ⟨fun b => C.X0 b ∨ X b, C.M0, C.W0⟩ (RsX t) (ΦsX t) W ∧ ∀ b, X b → C.M0 b ∨ C.W0.heap.size ≤ b) (fun h c k X W ⟨t, hx, _⟩ => hns h c k t hx) ?_ ?_ (fun k m K X W ⟨s, _, h1, _⟩ => ⟨h1.ev.os.trans hs.ev.os.symm, h1.ev.tape.trans hs.ev.tape.symm, h1.ev.output.trans hs.ev.output.symm⟩) (fun c k X W ⟨t, _, h1, _⟩ => ⟨h1.ev.os.trans hs.ev.os.symm, h1.ev.tape.trans hs.ev.tape.symm, h1.ev.output.trans hs.ev.output.symm⟩) ?_ ?_ ?_ ?_
  · rintro k m K X X' W1 W2 ⟨s, hi, h1, h2, h3⟩ hf hx
    exact ⟨s, hi, frame h1 h2 hf hx, fun b hb => (hx b hb).elim (h2 b) fun h => .inr (Nat.le_trans h1.ev.size h.1), h3⟩
  · rintro c k X X' W1 W2 ⟨t, hi, h1, h2⟩ hf hx
    exact ⟨t, hi, frame h1 h2 hf hx, fun b hb => (hx b hb).elim (h2 b) fun h => .inr (Nat.le_trans h1.ev.size h.1)⟩
  · refine ⟨s0, h0, ⟨hs.ev, q2.more' fun b hb h => h.elim (fun h => q2.notX b hb h) fun h => q1.notX b h (.inr hb), fun b hb => hs.ours b ((ht.own b).2 (.inr hb)), fun b hb => hb.elim (hs.x0 b) (q1.lt b), fun φ hφ => ?_⟩, fun b hb => hs.ours b ((ht.own b).2 (.inl hb)), fun b hb => ⟨fun hk => (hK b hk).2.1 hb, by have : b < W.heap.size := hb.elim (hs.x0 b) (q2.lt b); omega⟩⟩
    exact φ.fr _ _ W W (hs.facts φ (hf0.mem φ hφ)) (Foreign.refl _ _) fun b hb => .inl (by
      rcases hb with (h | h) | h
      · exact .inl h
      · exact .inr ((ht.own b).2 (.inl h))
      · exact .inr ((ht.own b).2 (.inr h)))
  · rintro l k m K1 K2 X vs W1 hk rfl ⟨s, hi, h1, h2, h3⟩ hm0 hm hKK hKy hKX hX hsz1 ⟨y, rfl, hposts⟩
    have henv : Env (n.1, []) (psetL ps.toList (vals k y) env) { tmps := (ps.zip (vals k y).toArray).foldl (fun t (x : Tmp × Value) => t.setIfInBounds x.1 x.2) a.tmps, defers := [] } := by
      have := Env.pset (m := n.1) (ps := ps.toList) (vs := vals k y) (env := env) (t := a.tmps) ⟨rfl, he.size, he.at_⟩ hpn
      rw [← Array.foldl_toList, Array.toList_zip]
      exact this
    have h3' : ∀ b, C.X0 b ∨ ownL (Rs s) b → ¬ K2 b := fun b hb hk2 => (hKy b hk2).elim (h3 b hb).1 fun h => by have := (h3 b hb).2; omega
    have hb1 : Sat ⟨fun b => C.X0 b ∨ ext X W.heap.size b, ownL (Rs s), W1⟩ (Rs s) (posts k y ++ Φs s) W1 := by
      have hb0 := h1.rebase
      refine ⟨hb0.ev, hb0.sep, hb0.ours, hb0.x0, fun φ hφ => ?_⟩
      rcases List.mem_append.1 hφ with hφ | hφ
      · refine φ.fr _ _ W1 W1 (hposts φ hφ) (Foreign.refl _ _) fun b hb => .inl ?_
        rcases hb with (hb | hb) | hb
        · exact ⟨h1.x0 b (.inl hb), h3' b (.inl hb)⟩
        · exact ⟨h1.x0 b (.inr hb), fun h => (hKX b h).2 hb⟩
        · exact ⟨h1.sep.lt b hb, h3' b (.inr hb)⟩
      · exact hb0.facts φ hφ
    refine wpIn_mono (round k s y hk hi (W.heap.size + 1) _ _ W1 henv hb1) fun e a1 W2 hq => ?_
    cases e with
    | normal =>
      obtain ⟨env1, R1, Φ1, he1, hs1, hbody⟩ := hq
      have hX1 : ∀ b, ext X W.heap.size b → b < W1.heap.size ∧ ¬ ownL (Rs s) b := fun b hb => ⟨h1.x0 b (.inr hb), fun ho => h1.sep.notX b ho (.inr hb)⟩
      have hK1 : ∀ b, K2 b → b < W1.heap.size ∧ ¬ ownL (Rs s) b := fun b hb => ⟨(hKX b hb).1, fun ho => h3' b (.inr ho) hb⟩
      refine ⟨hs1.ev.size, fun b hb => hb.elim (fun h => hs1.ev.block b (hX1 b h).1 (hX1 b h).2) (fun h => hs1.ev.block b (hK1 b h).1 (hK1 b h).2), fun W3 hT hF => ?_⟩
      have hsA := h1.compose (Φ' := Φ1) hs1
      have hf3 : Foreign (fun b => b = W.heap.size + 1) W2 W3 := ⟨hF.os, hF.tape, hF.output, Nat.le_of_eq hT.size.symm, fun b _ hne => hT.block b hne⟩
      have hsB := hsA.turn hf3 (fun b hb => by subst hb; exact ⟨.inr (.inr (.inr rfl)), by have := h1.ev.size; show C.W0.heap.size ≤ _; omega⟩)
      have hsz3 := hT.size
      have hown1 : ∀ b, ownL R1 b → ownL (Rs s) b ∨ W1.heap.size ≤ b := hs1.ours
      have hX3 : ∀ b, ext X W.heap.size b → b < W3.heap.size ∧ ¬ ownL R1 b := fun b hb => ⟨hsB.x0 b (.inr hb), fun ho => hsB.sep.notX b ho (.inr hb)⟩
      have h9 : W1.heap.size ≤ W2.heap.size := hs1.ev.size
      have hK3 : ∀ b, K2 b → b < W3.heap.size ∧ ¬ ownL R1 b := fun b hb => ⟨by have := (hKX b hb).1; omega, fun ho => (hown1 b ho).elim (fun h => h3' b (.inr h) hb) fun h => by have := (hKX b hb).1; omega⟩
      refine wpIn_mono (hbody ⟨fun b => C.X0 b ∨ ext X W.heap.size b, ownL R1, W3⟩ a1 W3 he1 hsB.rebase) fun e a4 W4 hq4 => ?_
      cases e with
      | normal =>
        obtain ⟨s', hi', hs4⟩ := hq4
        refine ⟨hs4.ev.size, fun b hb => hs4.ev.block b (hX3 b hb).1 (hX3 b hb).2, fun b hb => hs4.ev.block b (hK3 b hb).1 (hK3 b hb).2, s', hi', hsB.compose hs4, h2, fun b hb => ⟨fun hk => ?_, ?_⟩⟩
        · rcases hb with hb | hb
          · exact h3' b (.inl hb) hk
          · exact (hs4.ours b hb).elim (fun h => (hK3 b hk).2 h) fun h => by have h5 : W3.heap.size ≤ b := h; have := (hK3 b hk).1; omega
        · rcases hb with hb | hb
          · have h5 : W3.heap.size ≤ W4.heap.size := hs4.ev.size
            have := h1.x0 b (.inl hb)
            omega
          · exact hs4.sep.lt b hb
      | ret =>
        obtain ⟨t, hi', hs4⟩ := hq4
        exact ⟨hs4.ev.size, fun b hb => hs4.ev.block b (hX3 b hb).1 (hX3 b hb).2, t, hi', hsB.compose hs4, h2⟩
      | exit id =>
        obtain ⟨t, hi', hs4⟩ := hq4
        exact ⟨hs4.ev.size, fun b hb => hs4.ev.block b (hX3 b hb).1 (hX3 b hb).2, t, hi', hsB.compose hs4, h2⟩
      | goto l =>
        obtain ⟨t, hi', hs4⟩ := hq4
        exact ⟨hs4.ev.size, fun b hb => hs4.ev.block b (hX3 b hb).1 (hX3 b hb).2, t, hi', hsB.compose hs4, h2⟩
      | panic ch => exact hq4.elim
      | outgrown => exact hq4.elim
    | ret => exact hq.elim
    | exit id => exact hq.elim
    | goto l => exact hq.elim
    | panic ch => exact hq.elim
    | outgrown => exact hq.elim
  · rintro m K X W1 hXle hXD ⟨s, hi, h1, h2, h3⟩ hD
    exact done s W.heap.size hi _ W1 ⟨by simp [he.defers], he.size, he.at_⟩ (marked h1 hXD hD (fun h => absurd (hs.x0 _ h) (Nat.lt_irrefl _)) hsz)
  · rintro c k X W1 hk hXle hXD ⟨t, hi, h1, h2⟩ hD
    exact stop c k t W.heap.size hk hi _ W1 ⟨by simp [he.defers], he.size, he.at_⟩ (marked h1 hXD hD (fun h => absurd (hs.x0 _ h) (Nat.lt_irrefl _)) hsz)
theorem Jc.rangeY {P : Program} {C : Cx} {n : Nat × List Nat} {Q : Exit → Act → World → Prop} {env : List (Nat × Value)} {R R' : List Res} {Φ : List Fact} {g : Operand} {ps : Array Tmp} {assign body : Code} {gf : Nat} {lb : List Value} {Rit : List Res} {pre : List Fact} {N : Nat} {Y : Type} {vals : Nat → Y → List Value} {posts : Nat → Y → List Fact}
 (hg : opv env g = some (.func (.func gf) #[] lb.toArray)) (eg : ∀ args w, (callFunc gf args).run P w = .ok (.enter gf args) w) (hit : ItY P gf lb Rit pre N vals posts) (ht : Take Rit R R') (hp : FSub pre Φ)
 (hps : ∀ k y, (vals k y).length = ps.toList.length) (hpn : (ps.toList.all fun p => Nat.blt p n.1) = true) (s0 : σ) (h0 : Inv 0 s0) (hr0 : Rs s0 = R') (hf0 : FSub (Φs s0) Φ)
 (round : ∀ k s y, k < N → Inv k s → ∀ (l : Nat) (C1 : Cx), Jc P (some l) C1 (n.1, []) (AQ Inv Rs Φs InvX RsX ΦsX P l C1 n.1 k body) assign (psetL ps.toList (vals k y) env) (Rs s) (posts k y ++ Φs s))
 (done : ∀ s D, Inv N s → Jq C (n.1, D :: n.2) Q .normal env (.mark D :: Rs s) (Φs s))
 (stop : ∀ c k t D, k < N → InvX c k t → Jc P none C (n.1, D :: n.2) Q c env (.mark D :: RsX t) (ΦsX t)) : Jc P none C n Q (.rangeFunc g ps assign body) env R Φ :=
 Jc.rangeZ hg eg hit (fun h => h.elim) ht hp hps hpn s0 h0 hr0 hf0 round done stop
end
def Fact.clY (J : Nat → Nat → (Nat → Prop) → (Nat → Prop) → World → Prop) (hJ : ∀ k m K, Fr (J k m K)) (K0 XI : Nat → Prop) (w0 W0 : World) (k m : Nat) (Φk : List Fact) : Fact where
 p := fun X W => ∃ K, J k m K X W ∧ (∀ b, K0 b → K b) ∧ (∀ b, K0 b → W.heap[b]? = w0.heap[b]?) ∧ (∀ b, K b → b < W.heap.size ∧ ¬ X b) ∧ W0.heap.size ≤ m ∧ m ≤ W.heap.size ∧ (∀ b, X b → XI b ∨ (W0.heap.size ≤ b ∧ b < W.heap.size)) ∧ ∀ φ ∈ Φk, φ.p (fun b => b < W.heap.size ∧ ¬ K b) W
 fr := fun X X' W W' ⟨K, h1, h2, h3, h4, h5, h6, h7, h8⟩ hf hx => ⟨K, hJ k m K X X' W W' h1 hf hx, h2, fun b hb => (hf.block b (h4 b (h2 b hb)).1 (h4 b (h2 b hb)).2).trans (h3 b hb),
  fun b hb => ⟨Nat.lt_of_lt_of_le (h4 b hb).1 hf.size, fun hX => (hx b hX).elim (h4 b hb).2 fun h => by have := (h4 b hb).1; omega⟩, h5, Nat.le_trans h6 hf.size,
  fun b hb => (hx b hb).elim (fun h => (h7 b h).imp id fun h => ⟨h.1, Nat.lt_of_lt_of_le h.2 hf.size⟩) fun h => .inr ⟨by omega, h.2⟩,
  fun φ hφ => φ.fr _ _ W W' (h8 φ hφ) ⟨hf.os, hf.tape, hf.output, hf.size, fun b hb hn => hf.block b hb fun hX => hn ⟨hb, fun hk => (h4 b hk).2 hX⟩⟩ fun b hb => by
   by_cases h : b < W.heap.size
   · exact .inl ⟨h, hb.2⟩
   · exact .inr ⟨by omega, hb.1⟩⟩
def YieldsY (P : Program) (W0 : World) (l : Nat) (cl : Nat → Nat → List Fact → Fact) (clx : Nat → Fact) (pre : List Fact) (N : Nat) {Y : Type} (vals : Nat → Y → List Value) (posts : Nat → Y → List Fact) : Prop :=
  ∀ (n : Nat × List Nat) (ops : Array Oper) (Q : Exit → Act → World → Prop) (rest : List Oper) (env : List (Nat × Value)) (R : List Res) (Φ : List Fact) (d : Nat) (T : TypeId) (pos : String) (af : Array Edge) (x : Operand) (zas : Array Operand) (ts : Array TypeId) (k m : Nat) (y : Y) (Φk ψs : List Fact),
    k < N → opv env x = some (.func (.yield l) #[] #[]) → opvs env zas.toList = some (vals k y) → Mem (cl k m Φk) Φ → FSub (ψs.map (Fact.yg m)) Φ → (∀ φ ∈ posts k y, φ ∈ ψs ++ Φk ++ pre) → Nat.blt d n.1 = true →
    (∀ m', Jl P none (CI W0) n ops Q rest ((d, .bool true) :: env) R (cl (k + 1) m' (ψs ++ Φk) :: .sz m' :: (ψs ++ Φk ++ pre))) → Jl P none (CI W0) n ops Q rest ((d, .bool false) :: env) [] [clx k] →
    Jl P none (CI W0) n ops Q (⟨some d, .call { callee := .value x, args := zas, argTypes := ts }, T, pos, af, none⟩ :: rest) env R Φ
def IQY (cl : Nat → Nat → List Fact → Fact) (clx : Nat → Fact) (N : Nat) : Exit → Act → World → Prop
 | .normal, a, W => a.defers = [] ∧ ((∃ m Φk X, (cl N m Φk).p X W) ∨ ∃ k X, k < N ∧ (clx k).p X W)
 | .ret, a, W => a.defers = [] ∧ ((∃ m Φk X, (cl N m Φk).p X W) ∨ ∃ k X, k < N ∧ (clx k).p X W)
 | _, _, _ => False
theorem Jq.itDoneY {cl : Nat → Nat → List Fact → Fact} {clx : Nat → Fact} {N m m' : Nat} {Φk : List Fact} {C : Cx} {env : List (Nat × Value)} {R : List Res} {Φ : List Fact} {e : Exit} (he : e = .ret ∨ e = .normal) (hm : Mem (cl N m' Φk) Φ) : Jq C (m, []) (IQY cl clx N) e env R Φ := fun a W h1 h2 => by
 rcases he with rfl | rfl <;> exact ⟨h1.defers, .inl ⟨_, _, _, h2.fact hm⟩⟩
theorem Jq.itStopY {cl : Nat → Nat → List Fact → Fact} {clx : Nat → Fact} {N m k : Nat} {C : Cx} {env : List (Nat × Value)} {R : List Res} {Φ : List Fact} {e : Exit} (he : e = .ret ∨ e = .normal) (hk : k < N) (hm : Mem (clx k) Φ) : Jq C (m, []) (IQY cl clx N) e env R Φ := fun a W h1 h2 => by
 rcases he with rfl | rfl <;> exact ⟨h1.defers, .inr ⟨k, _, hk, h2.fact hm⟩⟩
theorem ItZ.of {ns : Prop} {P : Program} {gf : Nat} {fn : Func} {c : Code} {lb : List Value} {Rit : List Res} {pre : List Fact} {N : Nat} {Y : Type} {vals : Nat → Y → List Value} {posts : Nat → Y → List Fact} (nt : Nat) (hf : P.funcs[gf]? = some fn) (hnt : fn.ntmps = nt) (hb : fn.body = some c) (hres : fn.results = #[]) (hn : Nat.ble (lb.length + 1) nt = true)
 (hold : ∀ φ ∈ pre, φ.Old)
 (h : ∀ (W : World) (l : Nat) (cl : Nat → Nat → List Fact → Fact) (clx : Nat → Fact), (ns → ∀ k X W', ¬ (clx k).p X W') → YieldsY P W l cl clx pre N vals posts → Jc P none (CI W) (nt, []) (IQY cl clx N) c (envOf (.func (.yield l) #[] #[] :: lb) 0) Rit (cl 0 W.heap.size [] :: .sz W.heap.size :: pre)) : ItZ ns P gf lb Rit pre N vals posts := by
 intro X w0 hX hs hp
 refine ⟨fun b => b < w0.heap.size ∧ ¬ X b ∧ ¬ ownL Rit b, fun b hb => hb, ?_⟩
 intro l J Jx W hsz hKX hJ hJx hJs hJxs hY hno h0
 have hW0 := hJs _ _ _ _ _ h0
 obtain ⟨cl, hcl⟩ : ∃ cl : Nat → Nat → List Fact → Fact, cl = Fact.clY J hJ (fun b => b < w0.heap.size ∧ ¬ X b ∧ ¬ ownL Rit b) (ownL Rit) w0 W := ⟨_, rfl⟩
 obtain ⟨clx, hclx⟩ : ∃ clx : Nat → Fact, clx = Fact.clx Jx hJx := ⟨_, rfl⟩
 have hpre : ∀ (X' : Nat → Prop) (W' : World), W.heap.size ≤ W'.heap.size → (∀ b, (b < w0.heap.size ∧ ¬ X b ∧ ¬ ownL Rit b) → W'.heap[b]? = w0.heap[b]?) → (∀ b, X' b → ¬ (b < w0.heap.size ∧ ¬ X b ∧ ¬ ownL Rit b) ∧ b < W'.heap.size) → ∀ φ ∈ pre, φ.p X' W' := fun X' W' h1 h2 h3 φ hφ =>
  hold φ hφ _ _ w0 W' (hp φ hφ) (Nat.le_trans hsz h1) (fun b hb hx => h2 b ⟨hb, fun h => hx (.inl h), fun h => hx (.inr h)⟩) fun b hb => by
   obtain ⟨h4, h5⟩ := h3 b hb
   by_cases hlt : b < w0.heap.size
   · by_cases hx : X b
     · exact .inl (.inl hx)
     · by_cases ho : ownL Rit b
       · exact .inl (.inr ho)
       · exact absurd ⟨hlt, hx, ho⟩ h4
   · exact .inr ⟨by omega, h5⟩
 have hy : YieldsY P W l cl clx pre N vals posts := by
  intro n ops Q rest env R Φ d T pos af x zas ts k m y Φk ψs hk hx ha hm hψ hposts hd k1 k2 a W2 he hs2
  have hc := hs2.fact hm
  rw [hcl] at hc
  obtain ⟨K, q1, q2, q3, q4, q5, q6, q7, q8⟩ := hc
  have hlt : ∀ b, ownL R b → b < W2.heap.size := fun b hb => hs2.sep.lt b hb
  have hK2 : ∀ b, (K b ∨ (m ≤ b ∧ b < W2.heap.size ∧ ¬ ownL R b)) → b < W2.heap.size ∧ ¬ ((CI W).X0 b ∨ ownL R b) := fun b hb => hb.elim (q4 b) fun h => ⟨h.2.1, fun hx => hx.elim (fun h => h) h.2.2⟩
  have hnew : ∀ φ ∈ ψs ++ Φk ++ pre, φ.p (fun b => b < W2.heap.size ∧ ¬ (K b ∨ (m ≤ b ∧ b < W2.heap.size ∧ ¬ ownL R b))) W2 := fun φ hφ => by
   rcases List.mem_append.1 hφ with hφ | hφ
   · rcases List.mem_append.1 hφ with hφ | hφ
     · have := hs2.facts _ (hψ.mem _ (List.mem_map.2 ⟨φ, hφ, rfl⟩))
       refine φ.fr _ _ W2 W2 this (Foreign.refl _ _) fun b hb => .inl ?_
       by_cases ho : ownL R b
       · exact .inl (.inr ho)
       · exact .inr (Nat.lt_of_not_le fun hle => hb.2 (.inr ⟨hle, hb.1, ho⟩))
     · exact φ.fr _ _ W2 W2 (q8 φ hφ) (Foreign.refl _ _) fun b hb => .inl ⟨hb.1, fun hk => hb.2 (.inl hk)⟩
   · exact hpre _ W2 (by omega) q3 (fun b hb => ⟨fun h => hb.2 (.inl (q2 b h)), hb.1⟩) φ hφ
  obtain ⟨fn', tmps, assign, body, hrun, hR⟩ := hY k m K _ (fun b => (CI W).X0 b ∨ ownL R b) (vals k y).toArray W2 hk q1 q5 q6 (fun b hb => .inl hb) (fun b hb => hb.imp id fun h => ⟨h.1, h.2.1⟩) hK2 q7 ⟨y, rfl, fun φ hφ => hnew φ (hposts φ hφ)⟩
  refine wpListIn_plain rfl fun K' hK' => oper_plain (by simp) ?_
  have hrun' : (execOp a.eval ⟨some d, .call { callee := .value x, args := zas, argTypes := ts }, T, pos, af, none⟩).run P W2 = .ok (.round l fn' tmps assign body) W2 := by
   have e1 : zas.map a.eval = (vals k y).toArray := by
    apply Array.toList_inj.1
    simpa using opvs_eval he ha
   simpa [execOp, resolve, he.eval hx, e1, Deferred.ofValue, invoke] using hrun
  rw [hrun']
  refine ⟨fun h => by simp [Fence.wide] at h, hR.mono ?_⟩
  have evo : ∀ W3, Still w0 W3 → W2.heap.size ≤ W3.heap.size → Foreign (fun _ => True) W W3 := fun W3 h h' => ⟨h.1.trans hW0.1.symm, h.2.1.trans hW0.2.1.symm, h.2.2.trans hW0.2.2.symm, by omega, fun b _ hb => absurd trivial hb⟩
  rintro e W3 (⟨rfl, r1, r2, r3, r4⟩ | ⟨rfl, r1, r2⟩)
  · have hkk : ∀ b, (b < w0.heap.size ∧ ¬ X b ∧ ¬ ownL Rit b) → W3.heap[b]? = w0.heap[b]? := fun b hb => (r3 b (.inl (q2 b hb))).trans (q3 b hb)
    have hnew3 : ∀ φ ∈ ψs ++ Φk ++ pre, φ.p (fun b => b < W3.heap.size ∧ ¬ (K b ∨ (m ≤ b ∧ b < W2.heap.size ∧ ¬ ownL R b))) W3 := fun φ hφ => by
     refine φ.fr _ _ W2 W3 (hnew φ hφ) ⟨(r1 |> hJs _ _ _ _ _).1.trans (q1 |> hJs _ _ _ _ _).1.symm, (r1 |> hJs _ _ _ _ _).2.1.trans (q1 |> hJs _ _ _ _ _).2.1.symm, (r1 |> hJs _ _ _ _ _).2.2.trans (q1 |> hJs _ _ _ _ _).2.2.symm, r2, fun b hb hn => r3 b ?_⟩ fun b hb => ?_
     · by_cases hkb : (K b ∨ (m ≤ b ∧ b < W2.heap.size ∧ ¬ ownL R b))
       · exact hkb
       · exact absurd ⟨hb, hkb⟩ hn
     · by_cases hlt2 : b < W2.heap.size
       · exact .inl ⟨hlt2, hb.2⟩
       · exact .inr ⟨by omega, hb.1⟩
    refine hK' _ _ (k1 W3.heap.size _ W3 (he.put (Nat.le_of_ble_eq_true hd) _) ⟨evo W3 (hJs _ _ _ _ _ r1) r2, (hs2.sep.keep fun b hb => r4 b (.inr hb)), fun b hb => .inl trivial, fun b hb => hb.elim, fun φ hφ => ?_⟩)
    rcases List.mem_cons.1 hφ with rfl | hφ
    · rw [hcl]
      refine ⟨_, r1, fun b hb => .inl (q2 b hb), hkk, fun b hb => ⟨Nat.lt_of_lt_of_le (hK2 b hb).1 r2, (hK2 b hb).2⟩, by omega, Nat.le_refl _, fun b hb => (q7 b hb).imp id fun h => ⟨h.1, Nat.lt_of_lt_of_le h.2 r2⟩, fun φ hφ => hnew3 φ (List.mem_append_left _ hφ)⟩
    · rcases List.mem_cons.1 hφ with rfl | hφ
      · exact Nat.le_refl _
      · exact φ.fr _ _ W3 W3 (hnew3 φ hφ) (Foreign.refl _ _) fun b hb => .inl (hb.elim (fun h => h.elim) fun h => ⟨Nat.lt_of_lt_of_le (hlt b h) r2, fun hk => (hK2 b hk).2 (.inr h)⟩)
  · refine hK' _ _ (k2 _ W3 (he.put (Nat.le_of_ble_eq_true hd) _) ⟨evo W3 (hJxs _ _ _ r1) r2, trivial, fun b hb => hb.elim, fun b hb => hb.elim, fun φ hφ => ?_⟩)
    rcases List.mem_cons.1 hφ with rfl | hφ
    · rw [hclx]
      exact hJx k _ _ W3 W3 r1 (Foreign.refl _ _) fun b hb => hb.elim (fun h => h.elim) fun h => h.elim
    · simp at hφ
 have hs0 : Sat (CI W) Rit (cl 0 W.heap.size [] :: .sz W.heap.size :: pre) W := by
  have hlt0 : ∀ b, ownL Rit b → b < w0.heap.size := fun b hb => hs.lt b hb
  refine ⟨Foreign.refl _ _, (hs.less (X' := fun _ => False) fun b h => h.elim).keep fun b hb => hKX b (.inr hb), fun b hb => .inl trivial, fun b hb => hb.elim, fun φ hφ => ?_⟩
  rcases List.mem_cons.1 hφ with rfl | hφ
  · rw [hcl]
    have e : (fun b => (CI W).X0 b ∨ ownL Rit b) = ownL Rit := by funext b; simp
    refine ⟨_, by rw [e]; exact h0, fun b hb => hb, fun b hb => hKX b (.inl hb), fun b hb => ⟨by have := hb.1; omega, fun h => h.elim (fun h => h) hb.2.2⟩, Nat.le_refl _, Nat.le_refl _, fun b hb => .inl (hb.elim (fun h => h.elim) id), fun φ hφ => by simp at hφ⟩
  · rcases List.mem_cons.1 hφ with rfl | hφ
    · exact Nat.le_refl _
    · exact hpre _ W (Nat.le_refl _) (fun b hb => hKX b (.inl hb)) (fun b hb => hb.elim (fun h => h.elim) fun h => ⟨fun h' => h'.2.2 h, by have := hlt0 b h; omega⟩) φ hφ
 have hn' := Nat.le_of_ble_eq_true hn
 refine callsIn_of_wp hf hb trivial (wpIn_mono (h W l cl clx (fun hs k X W' => by rw [hclx]; exact hno hs k X W') hy _ W ?_ hs0) fun e a W' hq => ?_) rfl
 · refine ⟨rfl, by simp [hnt]; omega, fun t v ht => ?_⟩
   obtain ⟨_, h2⟩ := elook_envOf _ 0 t v ht
   have hlt := (List.getElem?_eq_some_iff.1 h2).1
   simp only [Nat.sub_zero] at h2 hlt
   have e : (#[Value.func (.yield l) #[] #[]] ++ lb.toArray : Array Value) = (Value.func (.yield l) #[] #[] :: lb).toArray := by simp
   rw [e, Array.getElem?_append_left (by simpa using hlt)]
   simpa using h2
 · have fin : ∀ a W', (a.defers = [] ∧ ((∃ m Φk X, (cl N m Φk).p X W') ∨ ∃ k X, k < N ∧ (clx k).p X W')) → bodyPost P fn (fun e W' => (∃ v, e = .returned v) ∧ ((∃ m K X, J N m K X W') ∨ (∃ k X, k < N ∧ Jx k X W'))) .ret a W' := fun a W' hq => by
    refine bodyPost_ret (results_none hres _ _ _) hq.1 ⟨⟨_, rfl⟩, ?_⟩
    rcases hq.2 with ⟨m, Φk, X, hx⟩ | ⟨k, X, hk, hx⟩
    · rw [hcl] at hx; obtain ⟨K, hx, _⟩ := hx; exact .inl ⟨m, K, X, hx⟩
    · rw [hclx] at hx; exact .inr ⟨k, X, hk, hx⟩
   cases e with
   | normal => exact fin a W' hq
   | ret => exact fin a W' hq
   | exit id => exact hq.elim
   | goto l => exact hq.elim
   | panic ch => exact hq.elim
   | outgrown => exact hq.elim
theorem ItY.of {P : Program} {gf : Nat} {fn : Func} {c : Code} {lb : List Value} {Rit : List Res} {pre : List Fact} {N : Nat} {Y : Type} {vals : Nat → Y → List Value} {posts : Nat → Y → List Fact} (nt : Nat) (hf : P.funcs[gf]? = some fn) (hnt : fn.ntmps = nt) (hb : fn.body = some c) (hres : fn.results = #[]) (hn : Nat.ble (lb.length + 1) nt = true)
 (hold : ∀ φ ∈ pre, φ.Old)
 (h : ∀ (W : World) (l : Nat) (cl : Nat → Nat → List Fact → Fact) (clx : Nat → Fact), YieldsY P W l cl clx pre N vals posts → Jc P none (CI W) (nt, []) (IQY cl clx N) c (envOf (.func (.yield l) #[] #[] :: lb) 0) Rit (cl 0 W.heap.size [] :: .sz W.heap.size :: pre)) : ItY P gf lb Rit pre N vals posts :=
 ItZ.of nt hf hnt hb hres hn hold fun W l cl clx _ hy => h W l cl clx hy
theorem Jl.noX {P : Program} {r : Option Nat} {C : Cx} {n : Nat × List Nat} {ops : Array Oper} {Q : Exit → Act → World → Prop} {rest : List Oper} {env : List (Nat × Value)} {R : List Res} {Φ : List Fact} {clx : Nat → Fact} {k : Nat} (h : ∀ k X W', ¬ (clx k).p X W') (hm : Mem (clx k) Φ) : Jl P r C n ops Q rest env R Φ := fun a W he hs => (h _ _ _ (hs.fact hm)).elim
end Go.Proofs.YtakbgccddokbbaaGreatDoor
