/-
Contracts of herd/conf: Row, Of, Same.
-/
import Derived.Test.YtbihjlncocdnnaaDoorCfA
namespace Go.Proofs.YtbihjlncocdnnaaDoor
set_option linter.unusedVariables false
open Go.RowKit
attribute [local irreducible] Res.blk Res.row Fact.rd
theorem iconcat_at {L : Option Addr} {cL m : Nat} {l : List Int} (zs : List Slc) (hn : zs.length ≤ 1000000) (hs : sumS zs ≤ 1000000) (hl : ∀ z ∈ zs, z.2.2.length = z.2.1) (h1 : ∀ z ∈ zs, ∀ u ∈ z.2.2, u.oneCell' = true) (hz : zs.length = m) (hf : flatS zs = i64s l) (hm : sumS zs = l.length) :
    Ct Tryd.prog 23 [.slice L m cL] [] [.rd L (slsV zs), .sls zs] (fun x : AdC => .slice x.1 l.length x.2) (fun x => [.row 3 1 (.slice x.1 l.length x.2) l.length (i64s l)]) (fun _ => []) := by
  subst hz
  have h0 := iconcat_ct L cL zs hn hs hl h1
  rw [hf, hm] at h0
  exact h0
theorem crow_ct (c : Cf) (x : AdC) (hn : c.ms.length ≤ 1000) : Ct Tryd.prog 9 [c.v x] [] [.rd x.1 (i64s c.ms), .lim] (fun x : AdC => .tuple #[.slice x.1 c.rowN.length x.2, .int .i64 c.chk]) (fun x => [.row 3 1 (.slice x.1 c.rowN.length x.2) c.rowN.length (i64s c.rowN)]) (fun _ => []) := by
  obtain ⟨A, cA⟩ := x
  by_cases hok : c.ok = true
  · have e1 : c.rowN = c.nums ++ ([c.skN] ++ c.ms) := if_pos hok
    rw [e1, c.chk_ok hok]
    refine Ct.of _ Tryd.func9 Tryd.ntmps9 rfl rfl (fun X W => ?_)
    refine Jc.seq ?_
    refine Jc.region ?_
    refine Jl.box rfl (by rfl) ?_
    intro b1
    refine Jl.alloc tze22 ?_
    intro b2
    refine Jl.pv (PR.assign rfl) ?_
    refine Jl.nil ?_
    refine Jq.thenN ?_
    refine Jc.seq ?_
    refine Jc.seq ?_
    refine Jc.region ?_
    refine Jl.pv (PR.loadW rfl tsh24 (by repeat (first | exact Has.here | apply Has.there)) (by rfl)) ?_
    refine Jl.call (ccheck_ct c (A, cA) (by omega)) en14 (by rfl) (by repeat (first | exact Take.nil | apply Take.cons (by repeat (first | exact Del.here | apply Del.there)))) (by repeat (first | exact trivial | refine And.intro (by repeat (first | exact Mem.here | apply Mem.there)) ?_)) ?_
    rintro ⟨⟩
    refine Jl.pv (PR.assign rfl) ?_
    refine Jl.nil ?_
    refine Jq.thenN ?_
    refine Jc.seq ?_
    refine Jc.region ?_
    refine Jl.pv (PR.move rfl) ?_
    refine Jl.pv (PR.neq false rfl rfl (by rw [c.chk_ok hok]; rfl)) ?_
    refine Jl.nil ?_
    refine Jq.thenN ?_
    refine Jc.condF rfl ?_
    refine Jc.skip ?_
    refine Jq.thenN ?_
    refine Jc.seq ?_
    refine Jc.seq ?_
    refine Jc.region ?_
    refine Jl.call (fields_ct b1) en22 (by rfl) (by repeat (first | exact Take.nil | apply Take.cons (by repeat (first | exact Del.here | apply Del.there)))) (by repeat (first | exact trivial | refine And.intro (by repeat (first | exact Mem.here | apply Mem.there)) ?_)) ?_
    rintro b12
    refine Jl.nil ?_
    refine Jq.thenN ?_
    refine Jc.block ?_
    refine Jc.nilRow 3 1 ?_
    refine Jc.range (σ := (k : Nat) × AdC) (τ := Empty) (Inv := fun k s => s.1 = k) (Rs := fun s => [.row 3 1 (.slice s.2.1 s.1 s.2.2) s.1 (i64s (c.nums.take s.1)), .blk b2 22 [.slice s.2.1 s.1 s.2.2], .blk b1 24 (c.cs (A, cA))]) (Φs := fun _ => [.rd A (i64s c.ms)]) (InvX := fun _ _ _ => False) (RsX := fun _ => []) (ΦsX := fun _ => []) (vals := fvals b1) rfl en30 (fields1_it b1 b12) (by repeat (first | exact Take.nil | apply Take.cons (by repeat (first | exact Del.here | apply Del.there)))) (by repeat (first | exact trivial | refine And.intro (by repeat (first | exact Mem.here | apply Mem.there)) ?_)) (fun _ => rfl) rfl ⟨0, none, 0⟩ rfl rfl (by repeat (first | exact trivial | refine And.intro (by repeat (first | exact Mem.here | apply Mem.there)) ?_)) ?_ ?_ ?_
    · rintro k ⟨j, A', c'⟩ hk hj l C1
      obtain rfl : k = j := hj.symm
      show Jc _ _ _ _ _ _ (psetL [13, 14] [.int .i64 (k : Int), .pointer (some ⟨b1, k, none⟩)] _) [.row 3 1 (.slice A' k c') k (i64s (c.nums.take k)), .blk b2 22 [.slice A' k c'], .blk b1 24 (c.cs (A, cA))] [.rd A (i64s c.ms)]
      refine Jc.region ?_
      refine Jl.pv (PR.assign rfl) ?_
      refine Jl.nil ?_
      refine Jq.assigned (fun C2 => ?_)
      refine Jc.block ?_
      refine Jc.drawn [0, 0, 2, 6, 14, 31, 63] ([], []) [⟨[(0, false), (1, false), (2, false), (3, false), (4, true)], [4], 5⟩, ⟨[], [], 6⟩] tmx (by kernel_rfl) ?_
      refine Dh.JH.cons ?_
      refine Dh.JB.rd [.blk _ _ _] rfl trivial (by repeat (first | exact Take.nil | apply Take.cons (by repeat (first | exact Del.here | apply Del.there)))) (fun _ => PR.load1 rfl tsh22 Has.here (by rfl)) ?_
      refine Dh.JB.pv rfl trivial (fun _ => PR.move rfl) ?_
      refine Dh.JB.pv rfl trivial (fun _ => PR.nilCheck rfl) ?_
      refine Dh.JB.rd [.blk _ _ _] rfl trivial (by repeat (first | exact Take.nil | apply Take.cons (by repeat (first | exact Del.here | apply Del.there)))) (fun _ => PR.load1 rfl tsh3 Has.here (cs_at c (A, cA) hk)) ?_
      refine Dh.JB.buildSlice rfl trivial (by rfl) tsl22 tzr22_1 (by rfl) (by rfl) ?_
      refine Dh.JB.nil ?_
      refine Dh.JL.sl rfl (by repeat (first | exact Dh.es_here | apply Dh.es_there)) (fun b19 => ?_)
      refine Dh.JL.nil ?_
      refine Dh.JE.mk rfl (fun _ h => by cases h) (fun C6_5 => ?_)
      refine Jl.seal (by repeat (first | exact Del.here | apply Del.there)) ?_
      refine Jl.append (k + 1) (i64s (c.nums.take (k + 1))) rfl rfl rfl tsl22 tze3 (by rfl) (by decide) tby3 (fun _ _ => (by repeat (first | exact Swap.here | apply Swap.there))) (by repeat (first | exact Mem.here | apply Mem.there)) rfl (by rw [nums_take c hk]; simp [i64s]) (by rfl) (by simp [Value.oneCell']) (by omega) (by decide) ?_
      intro A20 c20
      refine Jl.nil ?_
      refine Dh.Jq.segV (by repeat (first | exact Dh.FExt.refl | apply Dh.FExt.cons | apply Dh.FExt.app)) ?_ (by repeat (first | exact Dh.KeepL.nil | apply Dh.KeepL.anc (by rfl) | apply Dh.KeepL.keep (by repeat (first | exact Take.nil | apply Take.cons (by repeat (first | exact Del.here | apply Del.there))))))
      refine Dh.JH.cons ?_
      refine Dh.JB.nil ?_
      refine Dh.JL.nil ?_
      refine Dh.JE.mk rfl (fun _ h => by cases h) (fun C6_6 => ?_)
      refine Jl.store1 rfl tsh22 rfl (by rfl) (by repeat (first | exact Swap.here | apply Swap.there)) (by rfl) ?_
      refine Jl.nil ?_
      refine Dh.Jq.segN (by repeat (first | exact Dh.FExt.refl | apply Dh.FExt.cons | apply Dh.FExt.app)) ?_ (by repeat (first | exact Dh.KeepL.nil | apply Dh.KeepL.anc (by rfl) | apply Dh.KeepL.keep (by repeat (first | exact Take.nil | apply Take.cons (by repeat (first | exact Del.here | apply Del.there))))))
      refine Dh.JH.nil ?_
      refine Dh.JB.nil ?_
      refine Dh.JL.nil ?_
      refine Jq.blkN ?_
      exact Jq.next ⟨k + 1, A20, c20⟩ rfl rfl (by repeat (first | exact trivial | refine And.intro (by repeat (first | exact Mem.here | apply Mem.there)) ?_))
    · rintro ⟨j, A', c'⟩ D0 hj
      obtain rfl : j = 13 := hj
      show Jq _ _ _ .normal _ [.mark D0, .row 3 1 (.slice A' 13 c') 13 (i64s c.nums), .blk b2 22 [.slice A' 13 c'], .blk b1 24 (c.cs (A, cA))] [.rd A (i64s c.ms)]
      refine Jq.blkN ?_
      refine Jq.thenN ?_
      refine Jc.seq ?_
      refine Jc.region ?_
      refine Jl.pv (PR.assign rfl) ?_
      refine Jl.nil ?_
      refine Jq.thenN ?_
      refine Jc.mid (σ := Unit) (fun _ => [(1, .pointer (some ⟨b1, 0, none⟩)), (2, .pointer (some ⟨b2, 0, none⟩)), (6, .int .i64 c.skN)]) (fun _ => [.mark D0, .row 3 1 (.slice A' 13 c') 13 (i64s c.nums), .blk b2 22 [.slice A' 13 c'], .blk b1 24 (c.cs (A, cA))]) (fun _ => [.rd A (i64s c.ms)]) ?_ ?_
      · refine Jc.seq ?_
        refine Jc.region ?_
        refine Jl.pv (PR.fieldAddr rfl tfl24_13) ?_
        refine Jl.pv (PR.load1 rfl tsh4 (by repeat (first | exact Has.here | apply Has.there)) (by rfl)) ?_
        refine Jl.nil ?_
        refine Jq.thenN ?_
        refine Jc.cond rfl (fun h0 => ?_) (fun h0 => ?_)
        · try replace h0 := of_decide_eq_true h0
          refine Jc.region ?_
          refine Jl.pv (PR.assign rfl) ?_
          refine Jl.nil ?_
          exact Jq.mid () (by rw [Cf.skN, if_pos h0]; exact (by repeat (first | exact trivial | refine And.intro rfl ?_))) rfl (by repeat (first | exact trivial | refine And.intro (by repeat (first | exact Mem.here | apply Mem.there)) ?_))
        · try replace h0 := of_decide_eq_false h0
          refine Jc.skip ?_
          exact Jq.mid () (by rw [Cf.skN, h0]; exact (by repeat (first | exact trivial | refine And.intro rfl ?_))) rfl (by repeat (first | exact trivial | refine And.intro (by repeat (first | exact Mem.here | apply Mem.there)) ?_))
      · rintro ⟨⟩
        have hm4 := Cf.ok_m hok
        refine Jc.seq ?_
        refine Jc.region ?_
        refine Jl.pv (PR.load1 rfl tsh22 (by repeat (first | exact Has.here | apply Has.there)) (by rfl)) ?_
        refine Jl.pv (PR.move rfl) ?_
        refine Jl.buildSlice (by rfl) tsl22 tzr22_1 (by rfl) (by rfl) ?_
        intro b25
        refine Jl.pv (PR.fieldAddr rfl tfl24_14) ?_
        refine Jl.pv (PR.load1 rfl tsh22 (by repeat (first | exact Has.here | apply Has.there)) (by rfl)) ?_
        refine Jl.sealR (by repeat (first | exact Del.here | apply Del.there)) ?_
        refine Jl.seal (by repeat (first | exact Del.here | apply Del.there)) ?_
        refine Jl.buildSlice (by rfl) tsl56 tzr56_3 (by rfl) (by rfl) ?_
        intro b28
        refine Jl.seal (by repeat (first | exact Del.here | apply Del.there)) ?_
        refine Jl.slNil ?_
        refine Jl.slCons ((A, cA), c.ms.length, i64s c.ms) (by repeat (first | exact Mem.here | apply Mem.there)) (by repeat (first | exact Mem.here | apply Mem.there)) ?_
        refine Jl.slCons ((some ⟨b25, 0, none⟩, 1), 1, i64s [c.skN]) (by repeat (first | exact Mem.here | apply Mem.there)) (by repeat (first | exact Mem.here | apply Mem.there)) ?_
        refine Jl.slCons ((A', c'), 13, i64s c.nums) (by repeat (first | exact Mem.here | apply Mem.there)) (by repeat (first | exact Mem.here | apply Mem.there)) ?_
        refine Jl.call (iconcat_at (l := c.nums ++ ([c.skN] ++ c.ms)) [((A', c'), 13, i64s c.nums), ((some ⟨b25, 0, none⟩, 1), 1, i64s [c.skN]), ((A, cA), c.ms.length, i64s c.ms)] (by simp) (by simp [sumS]; omega) (by simp [Cf.nums]) (by simp [i64s, Value.oneCell']) rfl (by simp [flatS]) (by simp [sumS, Cf.nums]; omega)) en23 (by rfl) (by repeat (first | exact Take.nil | apply Take.cons (by repeat (first | exact Del.here | apply Del.there)))) (by repeat (first | exact trivial | refine And.intro (by repeat (first | exact Mem.here | apply Mem.there)) ?_)) ?_
        rintro ⟨A29, c29⟩
        refine Jl.store1 rfl tsh22 rfl (by rfl) (by repeat (first | exact Swap.here | apply Swap.there)) (by rfl) ?_
        refine Jl.pv (PR.assign rfl) ?_
        refine Jl.nil ?_
        refine Jq.thenN ?_
        refine Jc.ret ?_
        exact Jq.finM (Ds := [D0]) (A29, c29) (.inl rfl) rfl (by repeat (first | exact Take.nil | apply Take.cons (by repeat (first | exact Del.here | apply Del.there)))) (RetVs.cell1 rfl (by repeat (first | exact Has.here | apply Has.there)) tsh22 (by rfl) (RetVs.tmp rfl RetVs.nil)) rfl (by repeat (first | exact Take.nil | apply Take.cons (by repeat (first | exact Del.here | apply Del.there)))) (by repeat (first | exact trivial | refine And.intro (by repeat (first | exact Mem.here | apply Mem.there)) ?_))
    · exact fun _ _ t => t.elim
  · have e1 : c.rowN = [] := if_neg hok
    rw [e1, c.chk_no hok]
    refine Ct.of _ Tryd.func9 Tryd.ntmps9 rfl rfl (fun X W => ?_)
    refine Jc.seq ?_
    refine Jc.region ?_
    refine Jl.box rfl (by rfl) ?_
    intro b1
    refine Jl.alloc tze22 ?_
    intro b2
    refine Jl.pv (PR.assign rfl) ?_
    refine Jl.nil ?_
    refine Jq.thenN ?_
    refine Jc.seq ?_
    refine Jc.seq ?_
    refine Jc.region ?_
    refine Jl.pv (PR.loadW rfl tsh24 (by repeat (first | exact Has.here | apply Has.there)) (by rfl)) ?_
    refine Jl.call (ccheck_ct c (A, cA) (by omega)) en14 (by rfl) (by repeat (first | exact Take.nil | apply Take.cons (by repeat (first | exact Del.here | apply Del.there)))) (by repeat (first | exact trivial | refine And.intro (by repeat (first | exact Mem.here | apply Mem.there)) ?_)) ?_
    rintro ⟨⟩
    refine Jl.pv (PR.assign rfl) ?_
    refine Jl.nil ?_
    refine Jq.thenN ?_
    refine Jc.seq ?_
    refine Jc.region ?_
    refine Jl.pv (PR.move rfl) ?_
    refine Jl.pv (PR.neq true rfl rfl (by rw [c.chk_no hok]; rfl)) ?_
    refine Jl.nil ?_
    refine Jq.thenN ?_
    refine Jc.condT rfl ?_
    refine Jc.seq ?_
    refine Jc.region ?_
    refine Jl.pv (PR.move rfl) ?_
    refine Jl.store1 rfl tsh22 rfl (by rfl) (by repeat (first | exact Swap.here | apply Swap.there)) (by rfl) ?_
    refine Jl.pv (PR.assign rfl) ?_
    refine Jl.nil ?_
    refine Jq.thenN ?_
    refine Jc.ret ?_
    refine Jq.thenR ?_
    refine Jq.nilRow 3 1 ?_
    exact Jq.fin (none, 0) (.inl rfl) rfl (RetVs.cell1 rfl (by repeat (first | exact Has.here | apply Has.there)) tsh22 (by rfl) (RetVs.tmp rfl RetVs.nil)) (by rw [c.chk_no hok]; rfl) (by repeat (first | exact Take.nil | apply Take.cons (by repeat (first | exact Del.here | apply Del.there)))) (by repeat (first | exact trivial | refine And.intro (by repeat (first | exact Mem.here | apply Mem.there)) ?_))
theorem cof_ct (A : Option Addr) (cA : Nat) (l : List Int) (hn : l.length ≤ 1000) (hc : l.length ≤ cA) : Ct Tryd.prog 11 [.slice A l.length cA] [] [.rd A (i64s l), .lim] (fun x : AdC => .tuple #[(cfOf l).v x, .int .i64 (cfE l)]) (fun x => [(cfOf l).row x]) (fun _ => []) := by
  refine Ct.of _ Tryd.func11 Tryd.ntmps11 rfl rfl (fun X W => ?_)
  refine Jc.seq ?_
  refine Jc.region ?_
  refine Jl.box rfl (by rfl) ?_
  intro b1
  refine Jl.alloc tze24 ?_
  intro b2
  refine Jl.pv (PR.assign rfl) ?_
  refine Jl.nil ?_
  refine Jq.thenN ?_
  refine Jc.seq ?_
  refine Jc.region ?_
  refine Jl.pv (PR.assign rfl) ?_
  refine Jl.nil ?_
  refine Jq.thenN ?_
  refine Jc.seq ?_
  refine Jc.seq ?_
  refine Jc.region ?_
  refine Jl.pv (PR.load1 rfl tsh22 (by repeat (first | exact Has.here | apply Has.there)) (by rfl)) ?_
  refine Jl.pv (PR.len rfl tsl22) ?_
  refine Jl.pv (PR.move rfl) ?_
  refine Jl.pv (PR.leq _ rfl rfl rfl) ?_
  refine Jl.pv (PR.move rfl) ?_
  refine Jl.bsplit (fun g11 => ?_) (fun g11 => ?_)
  · try replace g11 := of_decide_eq_true g11
    have hno : ¬ rawOk l = true := fun h => by simp only [rawOk, Bool.and_eq_true, decide_eq_true_eq] at h; omega
    refine Jl.offS rfl rfl rfl ?_
    refine Jl.offS rfl rfl rfl ?_
    refine Jl.offS rfl rfl rfl ?_
    refine Jl.offS rfl rfl rfl ?_
    refine Jl.offS rfl rfl rfl ?_
    refine Jl.offS rfl rfl rfl ?_
    refine Jl.offS rfl rfl rfl ?_
    refine Jl.pv (PR.pickT rfl rfl) ?_
    refine Jl.nil ?_
    refine Jq.thenN ?_
    refine Jc.condT rfl ?_
    refine Jc.seq ?_
    refine Jc.region ?_
    refine Jl.pv (PR.loadW rfl tsh24 (by repeat (first | exact Has.here | apply Has.there)) (by rfl)) ?_
    refine Jl.storeW rfl tsh24 rfl (by rfl) (by simp [Value.oneCell']) (by repeat (first | exact Swap.here | apply Swap.there)) (by rfl) ?_
    refine Jl.pv (PR.assign rfl) ?_
    refine Jl.nil ?_
    refine Jq.thenN ?_
    refine Jc.ret ?_
    refine Jq.thenR ?_
    rw [cfOf, cfE, if_neg hno, if_neg hno]
    refine Jq.nilRow 3 1 ?_
    exact Jq.fin (none, 0) (.inl rfl) rfl (RetVs.cellA rfl (by repeat (first | exact Has.here | apply Has.there)) tsh24 (by rfl) (RetVs.tmp rfl RetVs.nil)) rfl (by repeat (first | exact Take.nil | apply Take.cons (by repeat (first | exact Del.here | apply Del.there)))) (by repeat (first | exact trivial | refine And.intro (by repeat (first | exact Mem.here | apply Mem.there)) ?_))
  · try replace g11 := of_decide_eq_false g11
    have hl : 13 < l.length := by omega
    refine Jl.on rfl rfl ?_
    refine Jl.pv (PR.load1 rfl tsh22 (by repeat (first | exact Has.here | apply Has.there)) (by rfl)) ?_
    refine Jl.on rfl rfl ?_
    refine Jl.pv (PR.move rfl) ?_
    refine Jl.on rfl rfl ?_
    refine Jl.pv (PR.idx1 13 rfl rfl tsl22 (by repeat (first | exact Mem.here | apply Mem.there)) (by simp) rfl hl) ?_
    refine Jl.on rfl rfl ?_
    refine Jl.pv (PR.loadR rfl tsh3 (by repeat (first | exact Mem.here | apply Mem.there)) (getd hl)) ?_
    refine Jl.on rfl rfl ?_
    refine Jl.pv (PR.build (by rfl) tze52 tpl52_0_1 (by rfl)) ?_
    refine Jl.on rfl rfl ?_
    refine Jl.call (cwithin_ct (l.getD 13 0) 0 1) en26 (by rfl) (by repeat (first | exact Take.nil | apply Take.cons (by repeat (first | exact Del.here | apply Del.there)))) (by repeat (first | exact trivial | refine And.intro (by repeat (first | exact Mem.here | apply Mem.there)) ?_)) ?_
    rintro ⟨⟩
    refine Jl.on rfl rfl ?_
    refine Jl.pv (PR.not rfl) ?_
    refine Jl.pv (PR.pickF rfl rfl) ?_
    refine Jl.nil ?_
    refine Jq.thenN ?_
    refine Jc.cond rfl (fun h0 => ?_) (fun h0 => ?_)
    · try replace h0 := of_decide_eq_true h0
      replace h0 : inB (l.getD 13 0) (0, 1) = false := by simpa using h0
      have hno : ¬ rawOk l = true := fun h => by simp only [rawOk, Bool.and_eq_true] at h; rw [h0] at h; exact Bool.noConfusion h.2.1
      refine Jc.seq ?_
      refine Jc.region ?_
      refine Jl.pv (PR.loadW rfl tsh24 (by repeat (first | exact Has.here | apply Has.there)) (by rfl)) ?_
      refine Jl.storeW rfl tsh24 rfl (by rfl) (by simp [Value.oneCell']) (by repeat (first | exact Swap.here | apply Swap.there)) (by rfl) ?_
      refine Jl.pv (PR.assign rfl) ?_
      refine Jl.nil ?_
      refine Jq.thenN ?_
      refine Jc.ret ?_
      refine Jq.thenR ?_
      rw [cfOf, cfE, if_neg hno, if_neg hno]
      refine Jq.nilRow 3 1 ?_
      exact Jq.fin (none, 0) (.inl rfl) rfl (RetVs.cellA rfl (by repeat (first | exact Has.here | apply Has.there)) tsh24 (by rfl) (RetVs.tmp rfl RetVs.nil)) rfl (by repeat (first | exact Take.nil | apply Take.cons (by repeat (first | exact Del.here | apply Del.there)))) (by repeat (first | exact trivial | refine And.intro (by repeat (first | exact Mem.here | apply Mem.there)) ?_))
    · try replace h0 := of_decide_eq_false h0
      replace h0 : inB (l.getD 13 0) (0, 1) = true := by simpa using h0
      refine Jc.skip ?_
      refine Jq.thenN ?_
      refine Jc.seq ?_
      refine Jc.seq ?_
      refine Jc.region ?_
      refine Jl.call (fields_ct b2) en22 (by rfl) (by repeat (first | exact Take.nil | apply Take.cons (by repeat (first | exact Del.here | apply Del.there)))) (by repeat (first | exact trivial | refine And.intro (by repeat (first | exact Mem.here | apply Mem.there)) ?_)) ?_
      rintro b21
      refine Jl.nil ?_
      refine Jq.thenN ?_
      refine Jc.block ?_
      refine Jc.range (σ := Nat) (τ := Empty) (Inv := fun k s => s = k) (Rs := fun s => [.blk b2 24 (ofCs l s), .blk b1 22 [.slice A l.length cA]]) (Φs := fun _ => [.rd A (i64s l), .lim]) (InvX := fun _ _ _ => False) (RsX := fun _ => []) (ΦsX := fun _ => []) (vals := fvals b2) rfl en30 (fields1_it b2 b21) (by repeat (first | exact Take.nil | apply Take.cons (by repeat (first | exact Del.here | apply Del.there)))) (by repeat (first | exact trivial | refine And.intro (by repeat (first | exact Mem.here | apply Mem.there)) ?_)) (fun _ => rfl) rfl 0 rfl rfl (by repeat (first | exact trivial | refine And.intro (by repeat (first | exact Mem.here | apply Mem.there)) ?_)) ?_ ?_ ?_
      · rintro k j hk hj m C1
        obtain rfl : k = j := hj.symm
        show Jc _ _ _ _ _ _ (psetL [22, 23] [.int .i64 (k : Int), .pointer (some ⟨b2, k, none⟩)] _) [.blk b2 24 (ofCs l k), .blk b1 22 [.slice A l.length cA]] [.rd A (i64s l), .lim]
        refine Jc.seq ?_
        refine Jc.region ?_
        refine Jl.pv (PR.assign rfl) ?_
        refine Jl.nil ?_
        refine Jq.thenN ?_
        refine Jc.region ?_
        refine Jl.pv (PR.assign rfl) ?_
        refine Jl.nil ?_
        refine Jq.assigned (fun C2 => ?_)
        refine Jc.block ?_
        refine Jc.region ?_
        refine Jl.pv (PR.move rfl) ?_
        refine Jl.pv (PR.load1 rfl tsh22 (by repeat (first | exact Has.here | apply Has.there)) (by rfl)) ?_
        refine Jl.pv (PR.move rfl) ?_
        refine Jl.pv (PR.idx1 k rfl rfl tsl22 (by repeat (first | exact Mem.here | apply Mem.there)) (by simp) rfl (by omega)) ?_
        refine Jl.pv (PR.loadR rfl tsh3 (by repeat (first | exact Mem.here | apply Mem.there)) (getd (show k < l.length by omega))) ?_
        refine Jl.pv (PR.nilCheck rfl) ?_
        refine Jl.store1 rfl tsh3 rfl (by rfl) (by repeat (first | exact Swap.here | apply Swap.there)) (ofCs_put l hk) ?_
        refine Jl.nil ?_
        refine Jq.blkN ?_
        exact Jq.next (k + 1) rfl rfl (by repeat (first | exact trivial | refine And.intro (by repeat (first | exact Mem.here | apply Mem.there)) ?_))
      · rintro j D0 hj
        obtain rfl : j = 13 := hj
        refine Jq.blkN ?_
        refine Jq.thenN ?_
        refine Jc.seq ?_
        refine Jc.drawn [0, 0, 3, 7, 15, 0, 0, 64, 224, 480, 1023, 2047, 4095, 8191] ([], []) [⟨[(0, false), (1, false), (2, false), (3, false), (4, false), (5, false), (6, false), (7, false), (8, false)], [], 9⟩, ⟨[(10, false)], [], 11⟩, ⟨[(12, false)], [], 13⟩] tmx (by kernel_rfl) ?_
        refine Dh.JH.cons ?_
        refine Dh.JB.rd [.blk _ _ _] rfl trivial (by repeat (first | exact Take.nil | apply Take.cons (by repeat (first | exact Del.here | apply Del.there)))) (fun _ => PR.load1 rfl tsh22 Has.here (by rfl)) ?_
        refine Dh.JB.pv rfl trivial (fun _ => PR.move rfl) ?_
        refine Dh.JB.pv rfl trivial (fun _ => PR.idx1 13 rfl rfl tsl22 (by repeat (first | exact Mem.here | apply Mem.there)) (by simp) rfl hl) ?_
        refine Dh.JB.pv rfl trivial (fun _ => PR.loadR rfl tsh3 (by repeat (first | exact Mem.here | apply Mem.there)) (getd hl)) ?_
        refine Dh.JB.pv rfl trivial (fun _ => PR.eql _ rfl rfl rfl) ?_
        refine Dh.JB.rd [.blk _ _ _] rfl trivial (by repeat (first | exact Take.nil | apply Take.cons (by repeat (first | exact Del.here | apply Del.there)))) (fun _ => PR.load1 rfl tsh22 Has.here (by rfl)) ?_
        refine Dh.JB.pv rfl trivial (fun _ => PR.move rfl) ?_
        refine Dh.JB.pv rfl trivial (fun _ => PR.add ((14 : Nat) : Int) rfl rfl rfl) ?_
        refine Dh.JB.slice 14 l.length (l.drop 14).length (i64s (l.drop 14)) rfl trivial rfl tsl22 rfl rfl (by repeat (first | exact Mem.here | apply Mem.there)) (by omega) (Nat.le_refl _) hc (by simp) (by simp [i64s, List.map_drop, List.take_of_length_le]) ?_
        intro A38 c38 hc38
        clear hc38
        refine Dh.JB.nil ?_
        refine Dh.JL.nil ?_
        refine Dh.JE.mk rfl (fun _ h => by cases h) (fun C8_9 => ?_)
        refine Jl.call (iclone_ct A38 c38 (l.drop 14) (by simp; omega)) en27 (by rfl) (by repeat (first | exact Take.nil | apply Take.cons (by repeat (first | exact Del.here | apply Del.there)))) (by repeat (first | exact trivial | refine And.intro (by repeat (first | exact Mem.here | apply Mem.there)) ?_)) ?_
        rintro ⟨A39, c39⟩
        refine Jl.nil ?_
        refine Dh.Jq.segV (by repeat (first | exact Dh.FExt.refl | apply Dh.FExt.cons | apply Dh.FExt.app)) ?_ (by repeat (first | exact Dh.KeepL.nil | apply Dh.KeepL.anc (by rfl) | apply Dh.KeepL.keep (by repeat (first | exact Take.nil | apply Take.cons (by repeat (first | exact Del.here | apply Del.there))))))
        refine Dh.JH.cons ?_
        refine Dh.JB.pv rfl trivial (fun _ => PR.fieldAddr rfl tfl24_13) ?_
        refine Dh.JB.nil ?_
        refine Dh.JL.nil ?_
        refine Dh.JE.mk rfl (fun _ h => by cases h) (fun C8_11 => ?_)
        refine Jl.store1 rfl tsh4 rfl (by rfl) (by repeat (first | exact Swap.here | apply Swap.there)) (by rfl) ?_
        refine Jl.nil ?_
        refine Dh.Jq.segN (by repeat (first | exact Dh.FExt.refl | apply Dh.FExt.cons | apply Dh.FExt.app)) ?_ (by repeat (first | exact Dh.KeepL.nil | apply Dh.KeepL.anc (by rfl) | apply Dh.KeepL.keep (by repeat (first | exact Take.nil | apply Take.cons (by repeat (first | exact Del.here | apply Del.there))))))
        refine Dh.JH.cons ?_
        refine Dh.JB.pv rfl trivial (fun _ => PR.fieldAddr rfl tfl24_14) ?_
        refine Dh.JB.nil ?_
        refine Dh.JL.nil ?_
        refine Dh.JE.mk rfl (fun _ h => by cases h) (fun C8_13 => ?_)
        refine Jl.store1 rfl tsh22 rfl (by rfl) (by repeat (first | exact Swap.here | apply Swap.there)) (by rfl) ?_
        refine Jl.nil ?_
        refine Dh.Jq.segN (by repeat (first | exact Dh.FExt.refl | apply Dh.FExt.cons | apply Dh.FExt.app)) ?_ (by repeat (first | exact Dh.KeepL.nil | apply Dh.KeepL.anc (by rfl) | apply Dh.KeepL.keep (by repeat (first | exact Take.nil | apply Take.cons (by repeat (first | exact Del.here | apply Del.there))))))
        refine Dh.JH.nil ?_
        refine Dh.JB.nil ?_
        refine Dh.JL.nil ?_
        refine Jq.thenN ?_
        refine Jc.seq ?_
        refine Jc.seq ?_
        refine Jc.region ?_
        refine Jl.pv (PR.loadW rfl tsh24 (by repeat (first | exact Has.here | apply Has.there)) (by rfl)) ?_
        refine Jl.calll (fs := []) (cs := []) (ccheck_ct (cfRaw l) (A39, c39) (by simp [cfRaw]; omega)) en14 rfl (by rfl) (by rfl) (by repeat (first | exact Take.nil | apply Take.cons (by repeat (first | exact Del.here | apply Del.there)))) (ls := [(cfRaw l).row (A39, c39)]) (by repeat (first | exact Take.nil | apply Take.cons (by repeat (first | exact Del.here | apply Del.there)))) (by repeat (first | exact Lends.nil | apply Lends.row | apply Lends.blk)) (by repeat (first | exact trivial | refine And.intro (by repeat (first | exact Mem.here | apply Mem.there)) ?_)) ?_
        rintro ⟨⟩
        refine Jl.pv (PR.assign rfl) ?_
        refine Jl.nil ?_
        refine Jq.thenN ?_
        refine Jc.seq ?_
        refine Jc.region ?_
        refine Jl.pv (PR.move rfl) ?_
        refine Jl.pv (PR.neq _ rfl rfl rfl) ?_
        refine Jl.nil ?_
        refine Jq.thenN ?_
        refine Jc.cond rfl (fun h1 => ?_) (fun h1 => ?_)
        · try replace h1 := of_decide_eq_true h1
          have hno : ¬ rawOk l = true := fun h => by simp only [rawOk, Bool.and_eq_true] at h; exact h1 (Cf.chk_ok h.2.2)
          refine Jc.seq ?_
          refine Jc.region ?_
          refine Jl.pv (PR.build (by rfl) tze24 tpl24_ (by rfl)) ?_
          refine Jl.pv (PR.move rfl) ?_
          refine Jl.storeW rfl tsh24 rfl (by rfl) (by simp [Value.oneCell']) (by repeat (first | exact Swap.here | apply Swap.there)) (by rfl) ?_
          refine Jl.pv (PR.assign rfl) ?_
          refine Jl.nil ?_
          refine Jq.thenN ?_
          refine Jc.ret ?_
          refine Jq.thenR ?_
          rw [cfOf, cfE, if_neg hno, if_neg hno]
          refine Jq.nilRow 3 1 ?_
          exact Jq.finM (Ds := [D0]) (none, 0) (.inl rfl) rfl (by repeat (first | exact Take.nil | apply Take.cons (by repeat (first | exact Del.here | apply Del.there)))) (RetVs.cellA rfl (by repeat (first | exact Has.here | apply Has.there)) tsh24 (by rfl) (RetVs.tmp rfl RetVs.nil)) (by rw [Cf.chk_no (fun h => h1 (Cf.chk_ok h))]; rfl) (by repeat (first | exact Take.nil | apply Take.cons (by repeat (first | exact Del.here | apply Del.there)))) (by repeat (first | exact trivial | refine And.intro (by repeat (first | exact Mem.here | apply Mem.there)) ?_))
        · try replace h1 := of_decide_eq_false h1
          have hok : (cfRaw l).ok = true := by
            by_cases h : (cfRaw l).ok = true
            · exact h
            · exact absurd (Cf.chk_no h) (by omega)
          have hraw : rawOk l = true := by simp only [rawOk, Bool.and_eq_true, decide_eq_true_eq]; exact ⟨hl, h0, hok⟩
          refine Jc.skip ?_
          refine Jq.thenN ?_
          refine Jc.seq ?_
          refine Jc.region ?_
          refine Jl.pv (PR.loadW rfl tsh24 (by repeat (first | exact Has.here | apply Has.there)) (by rfl)) ?_
          refine Jl.storeW rfl tsh24 rfl (by rfl) (by simp [Value.oneCell']) (by repeat (first | exact Swap.here | apply Swap.there)) (by rfl) ?_
          refine Jl.pv (PR.assign rfl) ?_
          refine Jl.nil ?_
          refine Jq.thenN ?_
          refine Jc.ret ?_
          rw [cfOf, cfE, if_pos hraw, if_pos hraw]
          exact Jq.finM (Ds := [D0]) (A39, c39) (.inl rfl) rfl (by repeat (first | exact Take.nil | apply Take.cons (by repeat (first | exact Del.here | apply Del.there)))) (RetVs.cellA rfl (by repeat (first | exact Has.here | apply Has.there)) tsh24 (by rfl) (RetVs.tmp rfl RetVs.nil)) rfl (by repeat (first | exact Take.nil | apply Take.cons (by repeat (first | exact Del.here | apply Del.there)))) (by repeat (first | exact trivial | refine And.intro (by repeat (first | exact Mem.here | apply Mem.there)) ?_))
      · exact fun _ _ t => t.elim
theorem csame_ct (a b : Cf) (x y : AdC) (hn : a.ms.length ≤ 1000) : Ct Tryd.prog 21 [a.v x, b.v y] [] [.rd x.1 (i64s a.ms), .rd y.1 (i64s b.ms)] (fun _ : Unit => .bool (sameC a b)) (fun _ => []) (fun _ => []) := by
  obtain ⟨A, cA⟩ := x
  obtain ⟨B, cB⟩ := y
  refine Ct.of _ Tryd.func21 Tryd.ntmps21 rfl rfl (fun X W => ?_)
  refine Jc.seq ?_
  refine Jc.region ?_
  refine Jl.box rfl (by rfl) ?_
  intro b2
  refine Jl.box rfl (by rfl) ?_
  intro b3
  refine Jl.pv (PR.assign rfl) ?_
  refine Jl.nil ?_
  refine Jq.thenN ?_
  refine Jc.mid (σ := Nat) (fun b5 => [(2, .pointer (some ⟨b2, 0, none⟩)), (3, .pointer (some ⟨b3, 0, none⟩)), (5, .pointer (some ⟨b5, 0, none⟩))]) (fun b5 => [.blk b5 4 [.bool (sameK a b 0)], .blk b3 24 (b.cs (B, cB)), .blk b2 24 (a.cs (A, cA))]) (fun _ => []) ?_ ?_
  · refine Jc.region ?_
    refine Jl.pv (PR.fieldAddr rfl tfl24_13) ?_
    refine Jl.pv (PR.load1 rfl tsh4 (by repeat (first | exact Has.here | apply Has.there)) (by rfl)) ?_
    refine Jl.pv (PR.fieldAddr rfl tfl24_13) ?_
    refine Jl.pv (PR.load1 rfl tsh4 (by repeat (first | exact Has.here | apply Has.there)) (by rfl)) ?_
    refine Jl.pv (PR.beql _ Tryd.underlying4 rfl rfl rfl) ?_
    refine Jl.pv (PR.move rfl) ?_
    refine Jl.bsplit (fun g16 => ?_) (fun g16 => ?_)
    · try replace g16 := of_decide_eq_true g16
      have hs0 : sameK a b 0 = decide (a.ms = b.ms) := by simp [sameK, g16]
      refine Jl.on rfl rfl ?_
      refine Jl.pv (PR.fieldAddr rfl tfl24_14) ?_
      refine Jl.on rfl rfl ?_
      refine Jl.pv (PR.load1 rfl tsh22 (by repeat (first | exact Has.here | apply Has.there)) (by rfl)) ?_
      refine Jl.on rfl rfl ?_
      refine Jl.pv (PR.fieldAddr rfl tfl24_14) ?_
      refine Jl.on rfl rfl ?_
      refine Jl.pv (PR.load1 rfl tsh22 (by repeat (first | exact Has.here | apply Has.there)) (by rfl)) ?_
      refine Jl.on rfl rfl ?_
      refine Jl.call (iequal_ct A B cA cB a.ms b.ms (by omega)) en29 (by rfl) (by repeat (first | exact Take.nil | apply Take.cons (by repeat (first | exact Del.here | apply Del.there)))) (by repeat (first | exact trivial | refine And.intro (by repeat (first | exact Mem.here | apply Mem.there)) ?_)) ?_
      rintro ⟨⟩
      refine Jl.pv (PR.pickT rfl rfl) ?_
      refine Jl.alloc tze4 ?_
      intro b5
      refine Jl.store1 rfl tsh4 rfl (by rfl) (by repeat (first | exact Swap.here | apply Swap.there)) (by rfl) ?_
      refine Jl.nil ?_
      exact Jq.mid b5 (by repeat (first | exact trivial | refine And.intro rfl ?_)) (by rw [hs0]; try rfl) trivial
    · try replace g16 := of_decide_eq_false g16
      have hs0 : sameK a b 0 = false := by simp [sameK, g16]
      refine Jl.offS rfl rfl rfl ?_
      refine Jl.offS rfl rfl rfl ?_
      refine Jl.offS rfl rfl rfl ?_
      refine Jl.offS rfl rfl rfl ?_
      refine Jl.offS rfl rfl rfl ?_
      refine Jl.pv (PR.pickF rfl rfl) ?_
      refine Jl.alloc tze4 ?_
      intro b5
      refine Jl.store1 rfl tsh4 rfl (by rfl) (by repeat (first | exact Swap.here | apply Swap.there)) (by rfl) ?_
      refine Jl.nil ?_
      exact Jq.mid b5 (by repeat (first | exact trivial | refine And.intro rfl ?_)) (by rw [hs0]; try rfl) trivial
  · intro b5
    refine Jc.seq ?_
    refine Jc.region ?_
    refine Jl.alloc tze22 ?_
    intro b6
    refine Jl.nil ?_
    refine Jq.thenN ?_
    refine Jc.seq ?_
    refine Jc.seq ?_
    refine Jc.region ?_
    refine Jl.call (fields_ct b2) en22 (by rfl) (by repeat (first | exact Take.nil | apply Take.cons (by repeat (first | exact Del.here | apply Del.there)))) (by repeat (first | exact trivial | refine And.intro (by repeat (first | exact Mem.here | apply Mem.there)) ?_)) ?_
    rintro b23
    refine Jl.nil ?_
    refine Jq.thenN ?_
    refine Jc.block ?_
    refine Jc.nilRow 3 1 ?_
    refine Jc.range (σ := (k : Nat) × AdC) (τ := Empty) (Inv := fun k s => s.1 = k) (Rs := fun s => [.row 3 1 (.slice s.2.1 s.1 s.2.2) s.1 (i64s (a.nums.take s.1)), .blk b6 22 [.slice s.2.1 s.1 s.2.2], .blk b5 4 [.bool (sameK a b 0)], .blk b3 24 (b.cs (B, cB)), .blk b2 24 (a.cs (A, cA))]) (Φs := fun _ => []) (InvX := fun _ _ _ => False) (RsX := fun _ => []) (ΦsX := fun _ => []) (vals := fvals b2) rfl en30 (fields1_it b2 b23) (by repeat (first | exact Take.nil | apply Take.cons (by repeat (first | exact Del.here | apply Del.there)))) (by repeat (first | exact trivial | refine And.intro (by repeat (first | exact Mem.here | apply Mem.there)) ?_)) (fun _ => rfl) rfl ⟨0, none, 0⟩ rfl rfl (by repeat (first | exact trivial | refine And.intro (by repeat (first | exact Mem.here | apply Mem.there)) ?_)) ?_ ?_ ?_
    · rintro k ⟨j, A', c'⟩ hk hj l C1
      obtain rfl : k = j := hj.symm
      show Jc _ _ _ _ _ _ (psetL [24, 25] [.int .i64 (k : Int), .pointer (some ⟨b2, k, none⟩)] _) [.row 3 1 (.slice A' k c') k (i64s (a.nums.take k)), .blk b6 22 [.slice A' k c'], .blk b5 4 [.bool (sameK a b 0)], .blk b3 24 (b.cs (B, cB)), .blk b2 24 (a.cs (A, cA))] []
      refine Jc.region ?_
      refine Jl.pv (PR.assign rfl) ?_
      refine Jl.nil ?_
      refine Jq.assigned (fun C2 => ?_)
      refine Jc.block ?_
      refine Jc.drawn [0, 0, 2, 6, 14, 31, 63] ([], []) [⟨[(0, false), (1, false), (2, false), (3, false), (4, true)], [4], 5⟩, ⟨[], [], 6⟩] tmx (by kernel_rfl) ?_
      refine Dh.JH.cons ?_
      refine Dh.JB.rd [.blk _ _ _] rfl trivial (by repeat (first | exact Take.nil | apply Take.cons (by repeat (first | exact Del.here | apply Del.there)))) (fun _ => PR.load1 rfl tsh22 Has.here (by rfl)) ?_
      refine Dh.JB.pv rfl trivial (fun _ => PR.move rfl) ?_
      refine Dh.JB.pv rfl trivial (fun _ => PR.nilCheck rfl) ?_
      refine Dh.JB.rd [.blk _ _ _] rfl trivial (by repeat (first | exact Take.nil | apply Take.cons (by repeat (first | exact Del.here | apply Del.there)))) (fun _ => PR.load1 rfl tsh3 Has.here (cs_at a (A, cA) hk)) ?_
      refine Dh.JB.buildSlice rfl trivial (by rfl) tsl22 tzr22_1 (by rfl) (by rfl) ?_
      refine Dh.JB.nil ?_
      refine Dh.JL.sl rfl (by repeat (first | exact Dh.es_here | apply Dh.es_there)) (fun b30 => ?_)
      refine Dh.JL.nil ?_
      refine Dh.JE.mk rfl (fun _ h => by cases h) (fun C5_5 => ?_)
      refine Jl.seal (by repeat (first | exact Del.here | apply Del.there)) ?_
      refine Jl.append (k + 1) (i64s (a.nums.take (k + 1))) rfl rfl rfl tsl22 tze3 (by rfl) (by decide) tby3 (fun _ _ => (by repeat (first | exact Swap.here | apply Swap.there))) (by repeat (first | exact Mem.here | apply Mem.there)) rfl (by rw [nums_take a hk]; simp [i64s]) (by rfl) (by simp [Value.oneCell']) (by omega) (by decide) ?_
      intro A31 c31
      refine Jl.nil ?_
      refine Dh.Jq.segV (by repeat (first | exact Dh.FExt.refl | apply Dh.FExt.cons | apply Dh.FExt.app)) ?_ (by repeat (first | exact Dh.KeepL.nil | apply Dh.KeepL.anc (by rfl) | apply Dh.KeepL.keep (by repeat (first | exact Take.nil | apply Take.cons (by repeat (first | exact Del.here | apply Del.there))))))
      refine Dh.JH.cons ?_
      refine Dh.JB.nil ?_
      refine Dh.JL.nil ?_
      refine Dh.JE.mk rfl (fun _ h => by cases h) (fun C5_6 => ?_)
      refine Jl.store1 rfl tsh22 rfl (by rfl) (by repeat (first | exact Swap.here | apply Swap.there)) (by rfl) ?_
      refine Jl.nil ?_
      refine Dh.Jq.segN (by repeat (first | exact Dh.FExt.refl | apply Dh.FExt.cons | apply Dh.FExt.app)) ?_ (by repeat (first | exact Dh.KeepL.nil | apply Dh.KeepL.anc (by rfl) | apply Dh.KeepL.keep (by repeat (first | exact Take.nil | apply Take.cons (by repeat (first | exact Del.here | apply Del.there))))))
      refine Dh.JH.nil ?_
      refine Dh.JB.nil ?_
      refine Dh.JL.nil ?_
      refine Jq.blkN ?_
      exact Jq.next ⟨k + 1, A31, c31⟩ rfl rfl (by repeat (first | exact trivial | refine And.intro (by repeat (first | exact Mem.here | apply Mem.there)) ?_))
    · rintro ⟨j, A', c'⟩ D0 hj
      obtain rfl : j = 13 := hj
      show Jq _ _ _ .normal _ [.mark D0, .row 3 1 (.slice A' 13 c') 13 (i64s a.nums), .blk b6 22 [.slice A' 13 c'], .blk b5 4 [.bool (sameK a b 0)], .blk b3 24 (b.cs (B, cB)), .blk b2 24 (a.cs (A, cA))] []
      refine Jq.sealR (by repeat (first | exact Del.here | apply Del.there)) ?_
      refine Jq.blkN ?_
      refine Jq.thenN ?_
      refine Jc.seq ?_
      refine Jc.seq ?_
      refine Jc.region ?_
      refine Jl.call (fields_ct b3) en22 (by rfl) (by repeat (first | exact Take.nil | apply Take.cons (by repeat (first | exact Del.here | apply Del.there)))) (by repeat (first | exact trivial | refine And.intro (by repeat (first | exact Mem.here | apply Mem.there)) ?_)) ?_
      rintro b32
      refine Jl.nil ?_
      refine Jq.thenN ?_
      refine Jc.block ?_
      refine Jc.range (σ := Nat) (τ := Empty) (Inv := fun k s => s = k) (Rs := fun s => [.mark D0, .blk b6 22 [.slice A' 13 c'], .blk b5 4 [.bool (sameK a b s)], .blk b3 24 (b.cs (B, cB)), .blk b2 24 (a.cs (A, cA))]) (Φs := fun _ => [.rd A' (i64s a.nums)]) (InvX := fun _ _ _ => False) (RsX := fun _ => []) (ΦsX := fun _ => []) (vals := fvals b3) rfl en30 (fields1_it b3 b32) (by repeat (first | exact Take.nil | apply Take.cons (by repeat (first | exact Del.here | apply Del.there)))) (by repeat (first | exact trivial | refine And.intro (by repeat (first | exact Mem.here | apply Mem.there)) ?_)) (fun _ => rfl) rfl 0 rfl rfl (by repeat (first | exact trivial | refine And.intro (by repeat (first | exact Mem.here | apply Mem.there)) ?_)) ?_ ?_ ?_
      · rintro k j hk hj l C1
        obtain rfl : k = j := hj.symm
        show Jc _ _ _ _ _ _ (psetL [33, 34] [.int .i64 (k : Int), .pointer (some ⟨b3, k, none⟩)] _) [.mark D0, .blk b6 22 [.slice A' 13 c'], .blk b5 4 [.bool (sameK a b k)], .blk b3 24 (b.cs (B, cB)), .blk b2 24 (a.cs (A, cA))] [.rd A' (i64s a.nums)]
        refine Jc.seq ?_
        refine Jc.region ?_
        refine Jl.pv (PR.assign rfl) ?_
        refine Jl.nil ?_
        refine Jq.thenN ?_
        refine Jc.region ?_
        refine Jl.pv (PR.assign rfl) ?_
        refine Jl.nil ?_
        refine Jq.assigned (fun C2 => ?_)
        refine Jc.block ?_
        refine Jc.drawn [0, 1, 3, 7, 15, 3, 3, 99, 227, 511, 1023, 2047] ([], []) [⟨[(0, false), (1, false), (2, false), (3, false), (4, false), (5, false), (6, false), (7, false), (8, false), (9, false), (10, false)], [], 11⟩] tmx (by kernel_rfl) ?_
        refine Dh.JH.cons ?_
        refine Dh.JB.rd [.blk _ _ _] rfl trivial (by repeat (first | exact Take.nil | apply Take.cons (by repeat (first | exact Del.here | apply Del.there)))) (fun _ => PR.load1 rfl tsh4 Has.here (by rfl)) ?_
        refine Dh.JB.pv rfl trivial (fun _ => PR.move rfl) ?_
        refine Dh.JB.bsplit (fun g36 => ?_) (fun g36 => ?_)
        · try replace g36 := of_decide_eq_true g36
          refine Dh.JB.pv rfl ⟨_, rfl, rfl⟩ (fun _ => PR.move rfl) ?_
          refine Dh.JB.pv rfl ⟨_, rfl, rfl⟩ (fun _ => PR.nilCheck rfl) ?_
          refine Dh.JB.rd [.blk _ _ _] rfl ⟨_, rfl, rfl⟩ (by repeat (first | exact Take.nil | apply Take.cons (by repeat (first | exact Del.here | apply Del.there)))) (fun _ => PR.load1 rfl tsh3 Has.here (cs_at b (B, cB) hk)) ?_
          refine Dh.JB.rd [.blk _ _ _] rfl ⟨_, rfl, rfl⟩ (by repeat (first | exact Take.nil | apply Take.cons (by repeat (first | exact Del.here | apply Del.there)))) (fun _ => PR.load1 rfl tsh22 Has.here (by rfl)) ?_
          refine Dh.JB.pv rfl ⟨_, rfl, rfl⟩ (fun _ => PR.move rfl) ?_
          refine Dh.JB.pv rfl ⟨_, rfl, rfl⟩ (fun _ => PR.idx1 k rfl rfl tsl22 (by repeat (first | exact Mem.here | apply Mem.there)) (by simp [Cf.nums]) rfl hk) ?_
          refine Dh.JB.pv rfl ⟨_, rfl, rfl⟩ (fun _ => PR.loadR rfl tsh3 (by repeat (first | exact Mem.here | apply Mem.there)) (nums_at a hk)) ?_
          refine Dh.JB.pv rfl ⟨_, rfl, rfl⟩ (fun _ => PR.eql _ rfl rfl rfl) ?_
          refine Dh.JB.pv rfl trivial (fun _ => PR.pickT rfl rfl) ?_
          refine Dh.JB.nil ?_
          refine Dh.JL.nil ?_
          refine Dh.JE.mk rfl (fun _ h => by cases h) (fun C9_11 => ?_)
          refine Jl.store1 rfl tsh4 rfl (by rfl) (by repeat (first | exact Swap.here | apply Swap.there)) (by rfl) ?_
          refine Jl.nil ?_
          refine Dh.Jq.segN (by repeat (first | exact Dh.FExt.refl | apply Dh.FExt.cons | apply Dh.FExt.app)) ?_ (by repeat (first | exact Dh.KeepL.nil | apply Dh.KeepL.anc (by rfl) | apply Dh.KeepL.keep (by repeat (first | exact Take.nil | apply Take.cons (by repeat (first | exact Del.here | apply Del.there))))))
          refine Dh.JH.nil ?_
          refine Dh.JB.nil ?_
          refine Dh.JL.nil ?_
          refine Jq.blkN ?_
          exact Jq.next (k + 1) rfl (by simp only [sameK_T g36]) (by repeat (first | exact trivial | refine And.intro (by repeat (first | exact Mem.here | apply Mem.there)) ?_))
        · try replace g36 := of_decide_eq_false g36
          refine Dh.JB.off rfl ⟨_, rfl, .inr rfl⟩ ?_
          refine Dh.JB.off rfl ⟨_, rfl, .inr rfl⟩ ?_
          refine Dh.JB.off rfl ⟨_, rfl, .inr rfl⟩ ?_
          refine Dh.JB.off rfl ⟨_, rfl, .inr rfl⟩ ?_
          refine Dh.JB.off rfl ⟨_, rfl, .inr rfl⟩ ?_
          refine Dh.JB.off rfl ⟨_, rfl, .inr rfl⟩ ?_
          refine Dh.JB.off rfl ⟨_, rfl, .inr rfl⟩ ?_
          refine Dh.JB.off rfl ⟨_, rfl, .inr rfl⟩ ?_
          refine Dh.JB.pv rfl trivial (fun _ => PR.pickF rfl rfl) ?_
          refine Dh.JB.nil ?_
          refine Dh.JL.nil ?_
          refine Dh.JE.mk rfl (fun _ h => by cases h) (fun C9_11 => ?_)
          refine Jl.store1 rfl tsh4 rfl (by rfl) (by repeat (first | exact Swap.here | apply Swap.there)) (by rfl) ?_
          refine Jl.nil ?_
          refine Dh.Jq.segN (by repeat (first | exact Dh.FExt.refl | apply Dh.FExt.cons | apply Dh.FExt.app)) ?_ (by repeat (first | exact Dh.KeepL.nil | apply Dh.KeepL.anc (by rfl) | apply Dh.KeepL.keep (by repeat (first | exact Take.nil | apply Take.cons (by repeat (first | exact Del.here | apply Del.there))))))
          refine Dh.JH.nil ?_
          refine Dh.JB.nil ?_
          refine Dh.JL.nil ?_
          refine Jq.blkN ?_
          exact Jq.next (k + 1) rfl (by simp only [sameK_F g36]) (by repeat (first | exact trivial | refine And.intro (by repeat (first | exact Mem.here | apply Mem.there)) ?_))
      · rintro j D1 hj
        obtain rfl : j = 13 := hj
        refine Jq.blkN ?_
        refine Jq.thenN ?_
        refine Jc.seq ?_
        refine Jc.region ?_
        refine Jl.pv (PR.load1 rfl tsh4 (by repeat (first | exact Has.here | apply Has.there)) (by rfl)) ?_
        refine Jl.pv (PR.assign rfl) ?_
        refine Jl.nil ?_
        refine Jq.thenN ?_
        refine Jc.ret ?_
        exact Jq.finM (Ds := [D1, D0]) () (.inl rfl) rfl (by repeat (first | exact Take.nil | apply Take.cons (by repeat (first | exact Del.here | apply Del.there)))) (RetVs.tmp rfl RetVs.nil) rfl (by repeat (first | exact Take.nil | apply Take.cons (by repeat (first | exact Del.here | apply Del.there)))) (by repeat (first | exact trivial | refine And.intro (by repeat (first | exact Mem.here | apply Mem.there)) ?_))
      · exact fun _ _ t => t.elim
    · exact fun _ _ t => t.elim
end Go.Proofs.YtbihjlncocdnnaaDoor
