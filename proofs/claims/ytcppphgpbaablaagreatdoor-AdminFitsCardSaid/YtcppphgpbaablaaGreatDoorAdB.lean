/-
Contracts of brains: what records do.
-/
import Derived.Test.YtcppphgpbaablaaGreatDoorAdA
import Derived.Test.YtcppphgpbaablaaGreatDoorMq
namespace Go.Proofs.YtcppphgpbaablaaGreatDoor
set_option linter.unusedVariables false
open Go.RowKit
attribute [local irreducible] Res.blk Res.row Fact.rd
/-- A brain at a place, with rows of its own. -/
abbrev Br.st (b : Br) (bb : Nat) (z : BrA) : List Res := [.blk bb 30 (b.cs z), .row 3 1 (.slice z.1.1 b.cf.ms.length z.1.2) b.cf.ms.length (i64s b.cf.ms), .row 47 4 (.slice z.2.1.1 b.its.length z.2.1.2) b.its.length (itsV b.its), .row 49 8 (.slice z.2.2.1 b.kps.length z.2.2.2) b.kps.length (kpsV b.kps)]
abbrev Br.rM (b : Br) (z : BrA) : Res := .row 3 1 (.slice z.1.1 b.cf.ms.length z.1.2) b.cf.ms.length (i64s b.cf.ms)
abbrev Br.rI (b : Br) (z : BrA) : Res := .row 47 4 (.slice z.2.1.1 b.its.length z.2.1.2) b.its.length (itsV b.its)
abbrev Br.rK (b : Br) (z : BrA) : Res := .row 49 8 (.slice z.2.2.1 b.kps.length z.2.2.2) b.kps.length (kpsV b.kps)
abbrev ptr (b : Nat) : Value := .pointer (some ⟨b, 0, none⟩)
theorem flat_set {α : Type} (f : α → List Value) (n : Nat) (hf : ∀ a, (f a).length = n) {l : List α} {k j : Nat} (h : k < l.length) (hj : j < n) {v : Value} {b : α} (hb : (f l[k]).set j v = f b) : (l.flatMap f).set (k * n + j) v = (l.set k b).flatMap f := by
  induction l generalizing k with
  | nil => simp at h
  | cons c l ih =>
    rw [List.flatMap_cons]
    cases k with
    | zero =>
      rw [List.set_cons_zero, List.flatMap_cons, List.set_append_left _ _ (by rw [hf]; omega), Nat.zero_mul, Nat.zero_add]
      simp only [List.getElem_cons_zero] at hb
      rw [hb]
    | succ k =>
      rw [List.set_cons_succ, List.flatMap_cons, List.set_append_right _ _ (by rw [hf, Nat.add_mul]; omega), hf, show (k + 1) * n + j - n = k * n + j by rw [Nat.add_mul]; omega]
      rw [ih (by simpa using h) (by simpa using hb)]
theorem kps_put {l : List Kp} {k j : Nat} (h : k < l.length) (hj : j < 8) {v : Value} {x : Kp} (hx : l[k].cs.set j v = x.cs) : putL (kpsV l) (k * 8 + j) [v] = some (kpsV (l.set k x)) := by
  rw [putL_one (by rw [kpsV_len]; omega)]
  exact congrArg some (flat_set _ 8 (fun _ => rfl) h hj hx)
theorem kps_set {l : List Kp} {k j : Nat} (h : k < l.length) (hj : j < 8) {v : Value} {x : Kp} (hx : l[k].cs.set j v = x.cs) : (kpsV l).set (k * 8 + j) v = kpsV (l.set k x) := flat_set _ 8 (fun _ => rfl) h hj hx
theorem onK1_st (b : Br) (i : Nat) (x : Kp) (bb : Nat) (z : BrA) : (b.onK1 i x).st bb z = [.blk bb 30 (b.cs z), .row 3 1 (.slice z.1.1 b.cf.ms.length z.1.2) b.cf.ms.length (i64s b.cf.ms), .row 47 4 (.slice z.2.1.1 b.its.length z.2.1.2) b.its.length (itsV b.its), .row 49 8 (.slice z.2.2.1 b.kps.length z.2.2.2) b.kps.length (kpsV (b.kps.set i x))] := by
  simp [Br.st, Br.onK1, Br.cs]
/-- What a record's deed is handed. -/
abbrev DeedCt (f : FuncId) (b : Br) (bb : Nat) (z : BrA) (L : Option Addr) (cL : Nat) (l : List Int) (T : Br) : Prop :=
  Ct Tryz.prog f [ptr bb, .slice L l.length cL] (b.st bb z) [.rd L (i64s l)] (fun _ : Unit => .tuple #[]) (fun _ => T.st bb z) (fun _ => [])
abbrev DeedK (f : FuncId) (b : Br) (bb : Nat) (z : BrA) (L : Option Addr) (cL : Nat) (l : List Int) (i : Nat) (T : Br) : Prop :=
  Ct Tryz.prog f [ptr bb, .int .i64 (i : Int), .slice L l.length cL] (b.st bb z) [.rd L (i64s l)] (fun _ : Unit => .tuple #[]) (fun _ => T.st bb z) (fun _ => [])
theorem dguard_ct (b : Br) (z : BrA) (bb : Nat) (L : Option Addr) (cL : Nat) (id g : Int) (i : Nat) (hi : i < b.kps.length) : DeedK 83 b bb z L cL [id, g] i (if g < 2 then b.onK1 i { b.kAt i with gu := decide (g = 1) } else b) := by
  obtain ⟨⟨M, cM⟩, ⟨I, cI⟩, ⟨K, cK⟩⟩ := z
  have hl8 := kpsV_len b.kps
  refine Ct.of _ Tryz.func83 Tryz.ntmps83 rfl rfl (fun X W => ?_)
  refine Jc.seq ?_
  refine Jc.region ?_
  refine Jl.pv (PR.move rfl) ?_
  refine Jl.pv (PR.idx1 1 rfl rfl tsl22 (by repeat (first | exact Mem.here | apply Mem.there)) rfl rfl (by simp)) ?_
  refine Jl.pv (PR.loadR rfl tsh3 (by repeat (first | exact Mem.here | apply Mem.there)) rfl) ?_
  refine Jl.pv (PR.lss _ rfl rfl rfl) ?_
  refine Jl.nil ?_
  refine Jq.thenN ?_
  refine Jc.cond rfl (fun h0 => ?_) (fun h0 => ?_)
  · try replace h0 := of_decide_eq_true h0
    refine Jc.drawn [0, 1, 3, 7, 0, 0, 32, 96, 224, 511, 1023, 2047] ([], []) [⟨[(0, false), (1, false), (2, false), (3, false), (4, false), (5, false), (6, false), (7, false), (8, false), (9, false), (10, false)], [], 11⟩] tmx (by kernel_rfl) ?_
    refine Dh.JH.cons ?_
    refine Dh.JB.pv rfl trivial (fun _ => PR.move rfl) ?_
    refine Dh.JB.pv rfl trivial (fun _ => PR.nilCheck rfl) ?_
    refine Dh.JB.pv rfl trivial (fun _ => PR.fieldAddr rfl tfl30_5) ?_
    refine Dh.JB.rd [.blk _ _ _] rfl trivial (by repeat (first | exact Take.nil | apply Take.cons (by repeat (first | exact Del.here | apply Del.there)))) (fun _ => PR.load1 rfl tsh26 Has.here (by rfl)) ?_
    refine Dh.JB.pv rfl trivial (fun _ => PR.move rfl) ?_
    refine Dh.JB.pv rfl trivial (fun _ => PR.move rfl) ?_
    refine Dh.JB.pv rfl trivial (fun _ => PR.idx1 1 rfl rfl tsl22 (by repeat (first | exact Mem.here | apply Mem.there)) rfl rfl (by simp)) ?_
    refine Dh.JB.pv rfl trivial (fun _ => PR.loadR rfl tsh3 (by repeat (first | exact Mem.here | apply Mem.there)) rfl) ?_
    refine Dh.JB.pv rfl trivial (fun _ => PR.eql _ rfl rfl rfl) ?_
    refine Dh.JB.rd [.row _ _ _ _ _] rfl trivial (by repeat (first | exact Take.nil | apply Take.cons (by repeat (first | exact Del.here | apply Del.there)))) (fun _ => PR.idxO i rfl rfl tsl26 Del.here (by decide) rfl hi) ?_
    refine Dh.JB.rd [.row _ _ _ _ _] rfl trivial (by repeat (first | exact Take.nil | apply Take.cons (by repeat (first | exact Del.here | apply Del.there)))) (fun _ => PR.fieldAddrO rfl tfl49_6 Del.here (by omega)) ?_
    refine Dh.JB.nil ?_
    refine Dh.JL.nil ?_
    refine Dh.JE.mk rfl (fun _ h => by cases h) (fun C1_11 => ?_)
    refine Jl.storeO rfl tsh4 rfl (by rfl) (by repeat (first | exact Swap.here | apply Swap.there)) (by omega) (kps_set (x := { b.kAt i with gu := decide (g = 1) }) hi (by decide) (by rw [kAt_eq hi]; rfl)) ?_
    refine Jl.nil ?_
    refine Dh.Jq.segN (by repeat (first | exact Dh.FExt.refl | apply Dh.FExt.cons | apply Dh.FExt.app)) ?_ (by repeat (first | exact Dh.KeepL.nil | apply Dh.KeepL.anc (by rfl) | apply Dh.KeepL.keep (by repeat (first | exact Take.nil | apply Take.cons (by repeat (first | exact Del.here | apply Del.there))))))
    refine Dh.JH.nil ?_
    refine Dh.JB.nil ?_
    refine Dh.JL.nil ?_
    rw [if_pos h0, onK1_st]
    exact Jq.fin () (.inr rfl) rfl RetVs.nil rfl (by repeat (first | exact Take.nil | apply Take.cons (by repeat (first | exact Del.here | apply Del.there)))) (by repeat (first | exact trivial | refine And.intro (by repeat (first | exact Mem.here | apply Mem.there)) ?_))
  try replace h0 := of_decide_eq_false h0
  refine Jc.skip ?_
  rw [if_neg h0]
  exact Jq.fin () (.inr rfl) rfl RetVs.nil rfl (by repeat (first | exact Take.nil | apply Take.cons (by repeat (first | exact Del.here | apply Del.there)))) (by repeat (first | exact trivial | refine And.intro (by repeat (first | exact Mem.here | apply Mem.there)) ?_))
  -- hint not used: one
theorem dcompl_ct (b : Br) (z : BrA) (bb : Nat) (L : Option Addr) (cL : Nat) (id : Int) (i : Nat) (hi : i < b.kps.length) : DeedK 84 b bb z L cL [id] i (b.onK1 i { b.kAt i with co := (b.kAt i).co || (b.kAt i).held }) := by
  obtain ⟨⟨M, cM⟩, ⟨I, cI⟩, ⟨K, cK⟩⟩ := z
  have hl8 := kpsV_len b.kps
  have hk := kAt_eq hi
  refine Ct.of _ Tryz.func84 Tryz.ntmps84 rfl rfl (fun X W => ?_)
  refine Jc.seq ?_
  refine Jc.region ?_
  refine Jl.pv (PR.move rfl) ?_
  refine Jl.pv (PR.nilCheck rfl) ?_
  refine Jl.pv (PR.fieldAddr rfl tfl30_5) ?_
  refine Jl.pv (PR.load1 rfl tsh26 (by repeat (first | exact Has.here | apply Has.there)) (by rfl)) ?_
  refine Jl.pv (PR.move rfl) ?_
  refine Jl.pv (PR.idxO i rfl rfl tsl26 (by repeat (first | exact Del.here | apply Del.there)) (by decide) rfl hi) ?_
  refine Jl.pv (PR.assign rfl) ?_
  refine Jl.nil ?_
  refine Jq.thenN ?_
  refine Jc.region ?_
  refine Jl.pv (PR.move rfl) ?_
  refine Jl.pv (PR.move rfl) ?_
  refine Jl.pv (PR.nilCheckO rfl (by repeat (first | exact Del.here | apply Del.there)) (by omega)) ?_
  refine Jl.pv (PR.fieldAddrO rfl tfl49_7 (by repeat (first | exact Del.here | apply Del.there)) (by omega)) ?_
  refine Jl.pv (PR.loadO rfl tsh4 (by repeat (first | exact Del.here | apply Del.there)) (kps_f hi 7 rfl)) ?_
  refine Jl.pv (PR.move rfl) ?_
  refine Jl.bsplit (fun g18 => ?_) (fun g18 => ?_)
  · try replace g18 := of_decide_eq_true g18
    refine Jl.offS rfl rfl rfl ?_
    refine Jl.offS rfl rfl rfl ?_
    refine Jl.offS rfl rfl rfl ?_
    refine Jl.offS rfl rfl rfl ?_
    refine Jl.offS rfl rfl rfl ?_
    refine Jl.pv (PR.pickT rfl rfl) ?_
    refine Jl.pv (PR.move rfl) ?_
    refine Jl.offS rfl rfl rfl ?_
    refine Jl.offS rfl rfl rfl ?_
    refine Jl.offS rfl rfl rfl ?_
    refine Jl.offS rfl rfl rfl ?_
    refine Jl.offS rfl rfl rfl ?_
    refine Jl.pv (PR.pickT rfl rfl) ?_
    refine Jl.pv (PR.nilCheckO rfl (by repeat (first | exact Del.here | apply Del.there)) (by omega)) ?_
    refine Jl.pv (PR.fieldAddrO rfl tfl49_7 (by repeat (first | exact Del.here | apply Del.there)) (by omega)) ?_
    refine Jl.storeO rfl tsh4 rfl (by rfl) (by repeat (first | exact Swap.here | apply Swap.there)) (by omega) (kps_set (x := { b.kAt i with co := (b.kAt i).co || (b.kAt i).held }) hi (by decide) (by rw [kAt_eq hi]; simp_all [Kp.cs, Kp.held])) ?_
    refine Jl.nil ?_
    rw [onK1_st]
    exact Jq.fin () (.inr rfl) rfl RetVs.nil rfl (by repeat (first | exact Take.nil | apply Take.cons (by repeat (first | exact Del.here | apply Del.there)))) (by repeat (first | exact trivial | refine And.intro (by repeat (first | exact Mem.here | apply Mem.there)) ?_))
  try replace g18 := of_decide_eq_false g18
  refine Jl.on rfl rfl ?_
  refine Jl.pv (PR.move rfl) ?_
  refine Jl.on rfl rfl ?_
  refine Jl.pv (PR.nilCheckO rfl (by repeat (first | exact Del.here | apply Del.there)) (by omega)) ?_
  refine Jl.on rfl rfl ?_
  refine Jl.pv (PR.fieldAddrO rfl tfl49_4 (by repeat (first | exact Del.here | apply Del.there)) (by omega)) ?_
  refine Jl.on rfl rfl ?_
  refine Jl.pv (PR.loadO rfl tsh5 (by repeat (first | exact Del.here | apply Del.there)) (kps_f hi 4 rfl)) ?_
  refine Jl.on rfl rfl ?_
  refine Jl.pv (PR.eql (a := (b.kps[i].ph.toNat : Int)) (b := 1) (decide (b.kps[i].ph.toNat = 1)) rfl rfl (by rw [decide_eq_decide]; omega)) ?_
  refine Jl.pv (PR.pickF rfl rfl) ?_
  refine Jl.pv (PR.move rfl) ?_
  refine Jl.bsplit (fun g25 => ?_) (fun g25 => ?_)
  · try replace g25 := of_decide_eq_true g25
    refine Jl.offS rfl rfl rfl ?_
    refine Jl.offS rfl rfl rfl ?_
    refine Jl.offS rfl rfl rfl ?_
    refine Jl.offS rfl rfl rfl ?_
    refine Jl.offS rfl rfl rfl ?_
    refine Jl.pv (PR.pickT rfl rfl) ?_
    refine Jl.pv (PR.nilCheckO rfl (by repeat (first | exact Del.here | apply Del.there)) (by omega)) ?_
    refine Jl.pv (PR.fieldAddrO rfl tfl49_7 (by repeat (first | exact Del.here | apply Del.there)) (by omega)) ?_
    refine Jl.storeO rfl tsh4 rfl (by rfl) (by repeat (first | exact Swap.here | apply Swap.there)) (by omega) (kps_set (x := { b.kAt i with co := (b.kAt i).co || (b.kAt i).held }) hi (by decide) (by rw [kAt_eq hi]; simp_all [Kp.cs, Kp.held])) ?_
    refine Jl.nil ?_
    rw [onK1_st]
    exact Jq.fin () (.inr rfl) rfl RetVs.nil rfl (by repeat (first | exact Take.nil | apply Take.cons (by repeat (first | exact Del.here | apply Del.there)))) (by repeat (first | exact trivial | refine And.intro (by repeat (first | exact Mem.here | apply Mem.there)) ?_))
  try replace g25 := of_decide_eq_false g25
  refine Jl.on rfl rfl ?_
  refine Jl.pv (PR.move rfl) ?_
  refine Jl.on rfl rfl ?_
  refine Jl.pv (PR.nilCheckO rfl (by repeat (first | exact Del.here | apply Del.there)) (by omega)) ?_
  refine Jl.on rfl rfl ?_
  refine Jl.pv (PR.fieldAddrO rfl tfl49_4 (by repeat (first | exact Del.here | apply Del.there)) (by omega)) ?_
  refine Jl.on rfl rfl ?_
  refine Jl.pv (PR.loadO rfl tsh5 (by repeat (first | exact Del.here | apply Del.there)) (kps_f hi 4 rfl)) ?_
  refine Jl.on rfl rfl ?_
  refine Jl.pv (PR.eql (a := (b.kps[i].ph.toNat : Int)) (b := 7) (decide (b.kps[i].ph.toNat = 7)) rfl rfl (by rw [decide_eq_decide]; omega)) ?_
  refine Jl.pv (PR.pickF rfl rfl) ?_
  refine Jl.pv (PR.nilCheckO rfl (by repeat (first | exact Del.here | apply Del.there)) (by omega)) ?_
  refine Jl.pv (PR.fieldAddrO rfl tfl49_7 (by repeat (first | exact Del.here | apply Del.there)) (by omega)) ?_
  refine Jl.storeO rfl tsh4 rfl (by rfl) (by repeat (first | exact Swap.here | apply Swap.there)) (by omega) (kps_set (x := { b.kAt i with co := (b.kAt i).co || (b.kAt i).held }) hi (by decide) (by rw [kAt_eq hi]; simp_all [Kp.cs, Kp.held])) ?_
  refine Jl.nil ?_
  rw [onK1_st]
  exact Jq.fin () (.inr rfl) rfl RetVs.nil rfl (by repeat (first | exact Take.nil | apply Take.cons (by repeat (first | exact Del.here | apply Del.there)))) (by repeat (first | exact trivial | refine And.intro (by repeat (first | exact Mem.here | apply Mem.there)) ?_))
  -- hint not used: one
theorem dstart_ct (b : Br) (z : BrA) (bb : Nat) (L : Option Addr) (cL : Nat) (v now : Int) : DeedCt 85 b bb z L cL [v, now] (b.begin1 v now) := by
  obtain ⟨⟨M, cM⟩, ⟨I, cI⟩, ⟨K, cK⟩⟩ := z
  refine Ct.of _ Tryz.func85 Tryz.ntmps85 rfl rfl (fun X W => ?_)
  refine Jc.seq ?_
  refine Jc.region ?_
  refine Jl.pv (PR.move rfl) ?_
  refine Jl.pv (PR.nilCheck rfl) ?_
  refine Jl.pv (PR.fieldAddr rfl tfl30_2) ?_
  refine Jl.pv (PR.load1 rfl tsh4 (by repeat (first | exact Has.here | apply Has.there)) (by rfl)) ?_
  refine Jl.pv (PR.move rfl) ?_
  refine Jl.bsplit (fun g8 => ?_) (fun g8 => ?_)
  · try replace g8 := of_decide_eq_true g8
    refine Jl.on rfl rfl ?_
    refine Jl.pv (PR.move rfl) ?_
    refine Jl.on rfl rfl ?_
    refine Jl.pv (PR.nilCheck rfl) ?_
    refine Jl.on rfl rfl ?_
    refine Jl.pv (PR.fieldAddr rfl tfl30_6) ?_
    refine Jl.on rfl rfl ?_
    refine Jl.pv (PR.fieldAddr rfl tfl28_0) ?_
    refine Jl.on rfl rfl ?_
    refine Jl.pv (PR.load1 rfl tsh5 (by repeat (first | exact Has.here | apply Has.there)) (by rfl)) ?_
    refine Jl.on rfl rfl ?_
    refine Jl.pv (PR.neq (a := (b.rf.st.toNat : Int)) (b := 1) (!b.act) rfl rfl (by simp [Br.act]; omega)) ?_
    refine Jl.pv (PR.pickT rfl rfl) ?_
    refine Jl.pv (PR.move rfl) ?_
    refine Jl.bsplit (fun g16 => ?_) (fun g16 => ?_)
    · try replace g16 := of_decide_eq_true g16
      refine Jl.on rfl rfl ?_
      refine Jl.pv (PR.move rfl) ?_
      refine Jl.on rfl rfl ?_
      refine Jl.pv (PR.idx1 0 rfl rfl tsl22 (by repeat (first | exact Mem.here | apply Mem.there)) rfl rfl (by simp)) ?_
      refine Jl.on rfl rfl ?_
      refine Jl.pv (PR.loadR rfl tsh3 (by repeat (first | exact Mem.here | apply Mem.there)) rfl) ?_
      refine Jl.on rfl rfl ?_
      refine Jl.pv (PR.geq _ rfl rfl rfl) ?_
      refine Jl.pv (PR.pickT rfl rfl) ?_
      refine Jl.nil ?_
      refine Jq.thenN ?_
      refine Jc.cond rfl (fun h0 => ?_) (fun h0 => ?_)
      · try replace h0 := of_decide_eq_true h0
        refine Jc.drawn [0, 0, 2, 6, 14, 30, 0, 64, 192, 0, 512, 1536, 4094, 8191, 16383, 32767] ([], []) [⟨[(0, false), (1, false), (2, false), (3, false), (4, false), (5, false), (6, false), (7, false), (8, false), (9, false), (10, false), (11, false), (12, false), (13, false), (14, false)], [], 15⟩] tmx (by kernel_rfl) ?_
        refine Dh.JH.cons ?_
        refine Dh.JB.pv rfl trivial (fun _ => PR.move rfl) ?_
        refine Dh.JB.pv rfl trivial (fun _ => PR.move rfl) ?_
        refine Dh.JB.pv rfl trivial (fun _ => PR.nilCheck rfl) ?_
        refine Dh.JB.pv rfl trivial (fun _ => PR.fieldAddr rfl tfl30_3) ?_
        refine Dh.JB.pv rfl trivial (fun _ => PR.fieldAddr rfl tfl24_12) ?_
        refine Dh.JB.rd [.blk _ _ _] rfl trivial (by repeat (first | exact Take.nil | apply Take.cons (by repeat (first | exact Del.here | apply Del.there)))) (fun _ => PR.load1 rfl tsh3 Has.here (by rfl)) ?_
        refine Dh.JB.pv rfl trivial (fun _ => PR.move rfl) ?_
        refine Dh.JB.pv rfl trivial (fun _ => PR.idx1 0 rfl rfl tsl22 (by repeat (first | exact Mem.here | apply Mem.there)) rfl rfl (by simp)) ?_
        refine Dh.JB.pv rfl trivial (fun _ => PR.loadR rfl tsh3 (by repeat (first | exact Mem.here | apply Mem.there)) rfl) ?_
        refine Dh.JB.pv rfl trivial (fun _ => PR.move rfl) ?_
        refine Dh.JB.pv rfl trivial (fun _ => PR.idx1 1 rfl rfl tsl22 (by repeat (first | exact Mem.here | apply Mem.there)) rfl rfl (by simp)) ?_
        refine Dh.JB.pv rfl trivial (fun _ => PR.loadR rfl tsh3 (by repeat (first | exact Mem.here | apply Mem.there)) rfl) ?_
        refine Dh.JB.pv rfl trivial (fun _ => PR.build (by rfl) tze28 tpl28_0_1_2_5 (by rfl)) ?_
        refine Dh.JB.pv rfl trivial (fun _ => PR.nilCheck rfl) ?_
        refine Dh.JB.pv rfl trivial (fun _ => PR.fieldAddr rfl tfl30_6) ?_
        refine Dh.JB.nil ?_
        refine Dh.JL.nil ?_
        refine Dh.JE.mk rfl (fun _ h => by cases h) (fun C1_15 => ?_)
        refine Jl.storeA rfl tsh28 rfl (by rfl) (by first | exact Br.cs_one _ _ | simp [Value.oneCell', Br.cs, Rf.cs]) (by repeat (first | exact Swap.here | apply Swap.there)) (by rfl) ?_
        refine Jl.nil ?_
        refine Dh.Jq.segN (by repeat (first | exact Dh.FExt.refl | apply Dh.FExt.cons | apply Dh.FExt.app)) ?_ (by repeat (first | exact Dh.KeepL.nil | apply Dh.KeepL.anc (by rfl) | apply Dh.KeepL.keep (by repeat (first | exact Take.nil | apply Take.cons (by repeat (first | exact Del.here | apply Del.there))))))
        refine Dh.JH.nil ?_
        refine Dh.JB.nil ?_
        refine Dh.JL.nil ?_
        rw [show b.begin1 v now = b.start v now by simp [Br.begin1, g8, g16]; omega]
        exact Jq.fin () (.inr rfl) rfl RetVs.nil rfl (by repeat (first | exact Take.nil | apply Take.cons (by repeat (first | exact Del.here | apply Del.there)))) (by repeat (first | exact trivial | refine And.intro (by repeat (first | exact Mem.here | apply Mem.there)) ?_))
      try replace h0 := of_decide_eq_false h0
      refine Jc.skip ?_
      rw [show b.begin1 v now = b by simp [Br.begin1]; omega]
      exact Jq.fin () (.inr rfl) rfl RetVs.nil rfl (by repeat (first | exact Take.nil | apply Take.cons (by repeat (first | exact Del.here | apply Del.there)))) (by repeat (first | exact trivial | refine And.intro (by repeat (first | exact Mem.here | apply Mem.there)) ?_))
    try replace g16 := of_decide_eq_false g16
    refine Jl.offS rfl rfl rfl ?_
    refine Jl.offS rfl rfl rfl ?_
    refine Jl.offS rfl rfl rfl ?_
    refine Jl.offS rfl rfl rfl ?_
    refine Jl.pv (PR.pickF rfl rfl) ?_
    refine Jl.nil ?_
    refine Jq.thenN ?_
    refine Jc.condF rfl ?_
    refine Jc.skip ?_
    rw [show b.begin1 v now = b by simp [Br.begin1, g16]]
    exact Jq.fin () (.inr rfl) rfl RetVs.nil rfl (by repeat (first | exact Take.nil | apply Take.cons (by repeat (first | exact Del.here | apply Del.there)))) (by repeat (first | exact trivial | refine And.intro (by repeat (first | exact Mem.here | apply Mem.there)) ?_))
  try replace g8 := of_decide_eq_false g8
  refine Jl.offS rfl rfl rfl ?_
  refine Jl.offS rfl rfl rfl ?_
  refine Jl.offS rfl rfl rfl ?_
  refine Jl.offS rfl rfl rfl ?_
  refine Jl.offS rfl rfl rfl ?_
  refine Jl.offS rfl rfl rfl ?_
  refine Jl.pv (PR.pickF rfl rfl) ?_
  refine Jl.pv (PR.move rfl) ?_
  refine Jl.offS rfl rfl rfl ?_
  refine Jl.offS rfl rfl rfl ?_
  refine Jl.offS rfl rfl rfl ?_
  refine Jl.offS rfl rfl rfl ?_
  refine Jl.pv (PR.pickF rfl rfl) ?_
  refine Jl.nil ?_
  refine Jq.thenN ?_
  refine Jc.condF rfl ?_
  refine Jc.skip ?_
  rw [show b.begin1 v now = b by simp [Br.begin1, g8]]
  exact Jq.fin () (.inr rfl) rfl RetVs.nil rfl (by repeat (first | exact Take.nil | apply Take.cons (by repeat (first | exact Del.here | apply Del.there)))) (by repeat (first | exact trivial | refine And.intro (by repeat (first | exact Mem.here | apply Mem.there)) ?_))
theorem dcanc_ct (b : Br) (z : BrA) (bb : Nat) (L : Option Addr) (cL : Nat) : DeedCt 88 b bb z L cL [] b.cancel := by
  obtain ⟨⟨M, cM⟩, ⟨I, cI⟩, ⟨K, cK⟩⟩ := z
  refine Ct.of _ Tryz.func88 Tryz.ntmps88 rfl rfl (fun X W => ?_)
  refine Jc.region ?_
  refine Jl.pv (PR.move rfl) ?_
  refine Jl.pv (PR.move rfl) ?_
  refine Jl.pv (PR.nilCheck rfl) ?_
  refine Jl.pv (PR.fieldAddr rfl tfl30_6) ?_
  refine Jl.pv (PR.fieldAddr rfl tfl28_0) ?_
  refine Jl.store1 rfl tsh5 rfl (by rfl) (by repeat (first | exact Swap.here | apply Swap.there)) (by rfl) ?_
  refine Jl.pv (PR.nilCheck rfl) ?_
  refine Jl.pv (PR.fieldAddr rfl tfl30_6) ?_
  refine Jl.pv (PR.fieldAddr rfl tfl28_4) ?_
  refine Jl.store1 rfl tsh4 rfl (by rfl) (by repeat (first | exact Swap.here | apply Swap.there)) (by rfl) ?_
  refine Jl.nil ?_
  exact Jq.fin () (.inr rfl) rfl RetVs.nil rfl (by repeat (first | exact Take.nil | apply Take.cons (by repeat (first | exact Del.here | apply Del.there)))) (by repeat (first | exact trivial | refine And.intro (by repeat (first | exact Mem.here | apply Mem.there)) ?_))
theorem droll_ct (b : Br) (z : BrA) (bb : Nat) (L : Option Addr) (cL : Nat) : DeedCt 89 b bb z L cL [] { b with rf := { b.rf with ta := b.rf.fr } } := by
  obtain ⟨⟨M, cM⟩, ⟨I, cI⟩, ⟨K, cK⟩⟩ := z
  refine Ct.of _ Tryz.func89 Tryz.ntmps89 rfl rfl (fun X W => ?_)
  refine Jc.region ?_
  refine Jl.pv (PR.move rfl) ?_
  refine Jl.pv (PR.move rfl) ?_
  refine Jl.pv (PR.nilCheck rfl) ?_
  refine Jl.pv (PR.fieldAddr rfl tfl30_6) ?_
  refine Jl.pv (PR.fieldAddr rfl tfl28_1) ?_
  refine Jl.pv (PR.load1 rfl tsh3 (by repeat (first | exact Has.here | apply Has.there)) (by rfl)) ?_
  refine Jl.pv (PR.nilCheck rfl) ?_
  refine Jl.pv (PR.fieldAddr rfl tfl30_6) ?_
  refine Jl.pv (PR.fieldAddr rfl tfl28_2) ?_
  refine Jl.store1 rfl tsh3 rfl (by rfl) (by repeat (first | exact Swap.here | apply Swap.there)) (by rfl) ?_
  refine Jl.nil ?_
  exact Jq.fin () (.inr rfl) rfl RetVs.nil rfl (by repeat (first | exact Take.nil | apply Take.cons (by repeat (first | exact Del.here | apply Del.there)))) (by repeat (first | exact trivial | refine And.intro (by repeat (first | exact Mem.here | apply Mem.there)) ?_))
theorem dgo_ct (b : Br) (z : BrA) (bb : Nat) (L : Option Addr) (cL : Nat) : DeedCt 91 b bb z L cL [] (if b.rf.pa = true then { b with rf := { b.rf with pa := false, sp := IntKind.i64.wrap (b.rf.sp + 1) } } else b) := by
  obtain ⟨⟨M, cM⟩, ⟨I, cI⟩, ⟨K, cK⟩⟩ := z
  refine Ct.of _ Tryz.func91 Tryz.ntmps91 rfl rfl (fun X W => ?_)
  refine Jc.seq ?_
  refine Jc.region ?_
  refine Jl.pv (PR.move rfl) ?_
  refine Jl.pv (PR.nilCheck rfl) ?_
  refine Jl.pv (PR.fieldAddr rfl tfl30_6) ?_
  refine Jl.pv (PR.fieldAddr rfl tfl28_4) ?_
  refine Jl.pv (PR.load1 rfl tsh4 (by repeat (first | exact Has.here | apply Has.there)) (by rfl)) ?_
  refine Jl.nil ?_
  refine Jq.thenN ?_
  refine Jc.cond rfl (fun h0 => ?_) (fun h0 => ?_)
  · try replace h0 := of_decide_eq_true h0
    refine Jc.seq ?_
    refine Jc.region ?_
    refine Jl.pv (PR.move rfl) ?_
    refine Jl.pv (PR.nilCheck rfl) ?_
    refine Jl.pv (PR.fieldAddr rfl tfl30_6) ?_
    refine Jl.pv (PR.fieldAddr rfl tfl28_4) ?_
    refine Jl.store1 rfl tsh4 rfl (by rfl) (by repeat (first | exact Swap.here | apply Swap.there)) (by rfl) ?_
    refine Jl.nil ?_
    refine Jq.thenN ?_
    refine Jc.region ?_
    refine Jl.pv (PR.move rfl) ?_
    refine Jl.pv (PR.nilCheck rfl) ?_
    refine Jl.pv (PR.fieldAddr rfl tfl30_6) ?_
    refine Jl.pv (PR.fieldAddr rfl tfl28_3) ?_
    refine Jl.pv (PR.load1 rfl tsh3 (by repeat (first | exact Has.here | apply Has.there)) (by rfl)) ?_
    refine Jl.pv (PR.add _ rfl rfl rfl) ?_
    refine Jl.pv (PR.nilCheck rfl) ?_
    refine Jl.pv (PR.fieldAddr rfl tfl30_6) ?_
    refine Jl.pv (PR.fieldAddr rfl tfl28_3) ?_
    refine Jl.store1 rfl tsh3 rfl (by rfl) (by repeat (first | exact Swap.here | apply Swap.there)) (by rfl) ?_
    refine Jl.nil ?_
    rw [if_pos h0]
    exact Jq.fin () (.inr rfl) rfl RetVs.nil rfl (by repeat (first | exact Take.nil | apply Take.cons (by repeat (first | exact Del.here | apply Del.there)))) (by repeat (first | exact trivial | refine And.intro (by repeat (first | exact Mem.here | apply Mem.there)) ?_))
  try replace h0 := of_decide_eq_false h0
  refine Jc.skip ?_
  rw [if_neg (by simp [h0])]
  exact Jq.fin () (.inr rfl) rfl RetVs.nil rfl (by repeat (first | exact Take.nil | apply Take.cons (by repeat (first | exact Del.here | apply Del.there)))) (by repeat (first | exact trivial | refine And.intro (by repeat (first | exact Mem.here | apply Mem.there)) ?_))
theorem kept1_ct (b : Br) (z : BrA) (bb bd : Nat) (L : Option Addr) (cL : Nat) (id : Int) (l : List Int) (hm : b.kps.length ≤ 1000000) (inner : FuncId) (hen : ∀ args w, (callFunc inner args).run Tryz.prog w = .ok (.enter inner args) w) (T : Br)
    (hno : b.findK id = none → T = b) (hin : ∀ i, b.findK id = some i → DeedK inner b bb z L cL (id :: l) i T) :
    Ct Tryz.prog 97 [ptr bb, .slice L (id :: l).length cL, ptr bd] (.blk bd 132 [.func (.func inner) #[] #[]] :: b.st bb z) [.rd L (i64s (id :: l))] (fun _ : Unit => .tuple #[]) (fun _ => T.st bb z) (fun _ => []) := by
  obtain ⟨⟨M, cM⟩, ⟨I, cI⟩, ⟨K, cK⟩⟩ := z
  cases hf : b.findK id with
  | none =>
    obtain rfl := hno hf
    refine Ct.of _ Tryz.func97 Tryz.ntmps97 rfl rfl (fun X W => ?_)
    refine Jc.seq ?_
    refine Jc.drawn [0, 1, 3, 0, 8, 24, 63, 127] ([(7, false)], []) [⟨[(0, false), (1, false), (2, false), (3, false), (4, false), (5, false)], [], 6⟩] tmx (by kernel_rfl) ?_
    refine Dh.JH.cons ?_
    refine Dh.JB.pv rfl trivial (fun _ => PR.move rfl) ?_
    refine Dh.JB.pv rfl trivial (fun _ => PR.nilCheck rfl) ?_
    refine Dh.JB.rd [.blk _ _ _] rfl trivial (by repeat (first | exact Take.nil | apply Take.cons (by repeat (first | exact Del.here | apply Del.there)))) (fun _ => PR.loadA rfl tsh30 Has.here (by rfl)) ?_
    refine Dh.JB.pv rfl trivial (fun _ => PR.move rfl) ?_
    refine Dh.JB.pv rfl trivial (fun _ => PR.idx1 0 rfl rfl tsl22 (by repeat (first | exact Mem.here | apply Mem.there)) (by simp [i64s]) rfl (by simp)) ?_
    refine Dh.JB.pv rfl trivial (fun _ => PR.loadR rfl tsh3 (by repeat (first | exact Mem.here | apply Mem.there)) rfl) ?_
    refine Dh.JB.nil ?_
    refine Dh.JL.nil ?_
    refine Dh.JE.mk rfl (fun _ h => by cases h) (fun C0_6 => ?_)
    refine Jl.calll (fs := []) (cs := []) (bfind_ct T ((M, cM), (I, cI), (K, cK)) id hm) en60 rfl (by rfl) (by rfl) (by repeat (first | exact Take.nil | apply Take.cons (by repeat (first | exact Del.here | apply Del.there)))) (ls := [T.rM ((M, cM), (I, cI), (K, cK)), T.rI ((M, cM), (I, cI), (K, cK)), T.rK ((M, cM), (I, cI), (K, cK))]) (by repeat (first | exact Take.nil | apply Take.cons (by repeat (first | exact Del.here | apply Del.there)))) (by repeat (first | exact Lends.nil | apply Lends.row | apply Lends.blk)) (by repeat (first | exact trivial | refine And.intro (by repeat (first | exact Mem.here | apply Mem.there)) ?_)) ?_
    rintro ⟨⟩
    refine Jl.as (.int .i64 (-1)) (by rw [hf]; rfl) ?_
    refine Jl.nil ?_
    refine Dh.Jq.segV (by repeat (first | exact Dh.FExt.refl | apply Dh.FExt.cons | apply Dh.FExt.app)) ?_ (by repeat (first | exact Dh.KeepL.nil | apply Dh.KeepL.anc (by rfl) | apply Dh.KeepL.keep (by repeat (first | exact Take.nil | apply Take.cons (by repeat (first | exact Del.here | apply Del.there))))))
    refine Dh.JH.nil ?_
    refine Dh.JB.pv rfl trivial (fun _ => PR.assign rfl) ?_
    refine Dh.JB.nil ?_
    refine Dh.JL.nil ?_
    refine Jq.thenN ?_
    refine Jc.seq ?_
    refine Jc.region ?_
    refine Jl.pv (PR.move rfl) ?_
    refine Jl.pv (PR.geq false rfl rfl (by decide)) ?_
    refine Jl.nil ?_
    refine Jq.thenN ?_
    refine Jc.condF rfl ?_
    refine Jc.skip ?_
    exact Jq.fin () (.inr rfl) rfl RetVs.nil rfl (by repeat (first | exact Take.nil | apply Take.cons (by repeat (first | exact Del.here | apply Del.there)))) (by repeat (first | exact trivial | refine And.intro (by repeat (first | exact Mem.here | apply Mem.there)) ?_))
  | some i =>
    have hct := hin i hf
    refine Ct.of _ Tryz.func97 Tryz.ntmps97 rfl rfl (fun X W => ?_)
    refine Jc.seq ?_
    refine Jc.drawn [0, 1, 3, 0, 8, 24, 63, 127] ([(7, false)], []) [⟨[(0, false), (1, false), (2, false), (3, false), (4, false), (5, false)], [], 6⟩] tmx (by kernel_rfl) ?_
    refine Dh.JH.cons ?_
    refine Dh.JB.pv rfl trivial (fun _ => PR.move rfl) ?_
    refine Dh.JB.pv rfl trivial (fun _ => PR.nilCheck rfl) ?_
    refine Dh.JB.rd [.blk _ _ _] rfl trivial (by repeat (first | exact Take.nil | apply Take.cons (by repeat (first | exact Del.here | apply Del.there)))) (fun _ => PR.loadA rfl tsh30 Has.here (by rfl)) ?_
    refine Dh.JB.pv rfl trivial (fun _ => PR.move rfl) ?_
    refine Dh.JB.pv rfl trivial (fun _ => PR.idx1 0 rfl rfl tsl22 (by repeat (first | exact Mem.here | apply Mem.there)) (by simp [i64s]) rfl (by simp)) ?_
    refine Dh.JB.pv rfl trivial (fun _ => PR.loadR rfl tsh3 (by repeat (first | exact Mem.here | apply Mem.there)) rfl) ?_
    refine Dh.JB.nil ?_
    refine Dh.JL.nil ?_
    refine Dh.JE.mk rfl (fun _ h => by cases h) (fun C0_6 => ?_)
    refine Jl.calll (fs := []) (cs := []) (bfind_ct b ((M, cM), (I, cI), (K, cK)) id hm) en60 rfl (by rfl) (by rfl) (by repeat (first | exact Take.nil | apply Take.cons (by repeat (first | exact Del.here | apply Del.there)))) (ls := [b.rM ((M, cM), (I, cI), (K, cK)), b.rI ((M, cM), (I, cI), (K, cK)), b.rK ((M, cM), (I, cI), (K, cK))]) (by repeat (first | exact Take.nil | apply Take.cons (by repeat (first | exact Del.here | apply Del.there)))) (by repeat (first | exact Lends.nil | apply Lends.row | apply Lends.blk)) (by repeat (first | exact trivial | refine And.intro (by repeat (first | exact Mem.here | apply Mem.there)) ?_)) ?_
    rintro ⟨⟩
    refine Jl.as (.int .i64 (i : Int)) (by rw [hf]; rfl) ?_
    refine Jl.nil ?_
    refine Dh.Jq.segV (by repeat (first | exact Dh.FExt.refl | apply Dh.FExt.cons | apply Dh.FExt.app)) ?_ (by repeat (first | exact Dh.KeepL.nil | apply Dh.KeepL.anc (by rfl) | apply Dh.KeepL.keep (by repeat (first | exact Take.nil | apply Take.cons (by repeat (first | exact Del.here | apply Del.there))))))
    refine Dh.JH.nil ?_
    refine Dh.JB.pv rfl trivial (fun _ => PR.assign rfl) ?_
    refine Dh.JB.nil ?_
    refine Dh.JL.nil ?_
    refine Jq.thenN ?_
    refine Jc.seq ?_
    refine Jc.region ?_
    refine Jl.pv (PR.move rfl) ?_
    refine Jl.pv (PR.geq true rfl rfl (decide_eq_true (by omega))) ?_
    refine Jl.nil ?_
    refine Jq.thenN ?_
    refine Jc.condT rfl ?_
    refine Jc.region ?_
    refine Jl.pv (PR.load1 rfl tsh132 (by repeat (first | exact Has.here | apply Has.there)) (by rfl)) ?_
    refine Jl.pv (PR.move rfl) ?_
    refine Jl.pv (PR.move rfl) ?_
    refine Jl.pv (PR.move rfl) ?_
    refine Jl.callv hct hen rfl (by rfl) (by rfl) (by repeat (first | exact Take.nil | apply Take.cons (by repeat (first | exact Del.here | apply Del.there)))) (by repeat (first | exact trivial | refine And.intro (by repeat (first | exact Mem.here | apply Mem.there)) ?_)) ?_
    rintro ⟨⟩
    refine Jl.nil ?_
    exact Jq.fin () (.inr rfl) rfl RetVs.nil rfl (by repeat (first | exact Take.nil | apply Take.cons (by repeat (first | exact Del.here | apply Del.there)))) (by repeat (first | exact trivial | refine And.intro (by repeat (first | exact Mem.here | apply Mem.there)) ?_))
theorem active1_ct (b : Br) (z : BrA) (bb bd : Nat) (L : Option Addr) (cL : Nat) (l : List Int) (inner : FuncId) (hen : ∀ args w, (callFunc inner args).run Tryz.prog w = .ok (.enter inner args) w) (T U : Br)
    (hU : U = if b.act = true then T else b) (hin : b.act = true → DeedCt inner b bb z L cL l T) :
    Ct Tryz.prog 99 [ptr bb, .slice L l.length cL, ptr bd] (.blk bd 121 [.func (.func inner) #[] #[]] :: b.st bb z) [.rd L (i64s l)] (fun _ : Unit => .tuple #[]) (fun _ => U.st bb z) (fun _ => []) := by
  obtain ⟨⟨M, cM⟩, ⟨I, cI⟩, ⟨K, cK⟩⟩ := z
  by_cases ha : b.act = true
  · obtain rfl := hU.trans (if_pos ha)
    have hct := hin ha
    have hst : b.rf.st.toNat = 1 := of_decide_eq_true ha
    refine Ct.of _ Tryz.func99 Tryz.ntmps99 rfl rfl (fun X W => ?_)
    refine Jc.seq ?_
    refine Jc.region ?_
    refine Jl.pv (PR.move rfl) ?_
    refine Jl.pv (PR.nilCheck rfl) ?_
    refine Jl.pv (PR.fieldAddr rfl tfl30_6) ?_
    refine Jl.pv (PR.fieldAddr rfl tfl28_0) ?_
    refine Jl.pv (PR.load1 rfl tsh5 (by repeat (first | exact Has.here | apply Has.there)) (by rfl)) ?_
    refine Jl.pv (PR.eql true rfl rfl (decide_eq_true (by omega))) ?_
    refine Jl.nil ?_
    refine Jq.thenN ?_
    refine Jc.condT rfl ?_
    refine Jc.region ?_
    refine Jl.pv (PR.load1 rfl tsh121 (by repeat (first | exact Has.here | apply Has.there)) (by rfl)) ?_
    refine Jl.pv (PR.move rfl) ?_
    refine Jl.pv (PR.move rfl) ?_
    refine Jl.callv hct hen rfl (by rfl) (by rfl) (by repeat (first | exact Take.nil | apply Take.cons (by repeat (first | exact Del.here | apply Del.there)))) (by repeat (first | exact trivial | refine And.intro (by repeat (first | exact Mem.here | apply Mem.there)) ?_)) ?_
    rintro ⟨⟩
    refine Jl.nil ?_
    exact Jq.fin () (.inr rfl) rfl RetVs.nil rfl (by repeat (first | exact Take.nil | apply Take.cons (by repeat (first | exact Del.here | apply Del.there)))) (by repeat (first | exact trivial | refine And.intro (by repeat (first | exact Mem.here | apply Mem.there)) ?_))
  · have hst : ¬ b.rf.st.toNat = 1 := fun h => ha (decide_eq_true h)
    obtain rfl := hU.trans (if_neg ha)
    refine Ct.of _ Tryz.func99 Tryz.ntmps99 rfl rfl (fun X W => ?_)
    refine Jc.seq ?_
    refine Jc.region ?_
    refine Jl.pv (PR.move rfl) ?_
    refine Jl.pv (PR.nilCheck rfl) ?_
    refine Jl.pv (PR.fieldAddr rfl tfl30_6) ?_
    refine Jl.pv (PR.fieldAddr rfl tfl28_0) ?_
    refine Jl.pv (PR.load1 rfl tsh5 (by repeat (first | exact Has.here | apply Has.there)) (by rfl)) ?_
    refine Jl.pv (PR.eql false rfl rfl (decide_eq_false (by omega))) ?_
    refine Jl.nil ?_
    refine Jq.thenN ?_
    refine Jc.condF rfl ?_
    refine Jc.skip ?_
    exact Jq.fin () (.inr rfl) rfl RetVs.nil rfl (by repeat (first | exact Take.nil | apply Take.cons (by repeat (first | exact Del.here | apply Del.there)))) (by repeat (first | exact trivial | refine And.intro (by repeat (first | exact Mem.here | apply Mem.there)) ?_))
end Go.Proofs.YtcppphgpbaablaaGreatDoor
