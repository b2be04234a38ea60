/-
Contracts of herd/event: what events do (the rest), Do, All, Falls.
-/
import Derived.Test.YtakkoandmkomdaaDoorEvA
namespace Go.Proofs.YtakkoandmkomdaaDoor
set_option linter.unusedVariables false
open Go.RowKit
attribute [local irreducible] Res.blk Res.row Fact.rd Res.mapI
theorem kne {a : UInt8} {k : Nat} (h : a.toNat = k) {b : UInt8} (hb : b.toNat ≠ k) : a ≠ b := fun e => hb (by rw [← e]; exact h)
theorem hap3_ct (e : Ev) (hk : e.k = 3) : HapCt 52 e := fun bc x c hn => by
  have he : happ c e = strayC c e.a (decide (e.b ≠ 0)) := by rw [happ, hk]; rfl
  rw [he]
  by_cases hs : c.bs.length < 60 ∧ okN e.a = true
  · rw [show strayC c e.a (decide (e.b ≠ 0)) = { c with bs := c.bs ++ [Bx.stray c.bs.length e.a (decide (e.b ≠ 0))] } from if_pos hs]
    refine Ct.of _ Tryd.func52 Tryd.ntmps52 rfl rfl (fun X W => ?_)
    refine Jc.seq ?_
    refine Jc.region ?_
    refine Jl.box rfl (by rfl) ?_
    intro b3
    refine Jl.nil ?_
    refine Jq.thenN ?_
    refine Jc.seq ?_
    refine Jc.region ?_
    refine Jl.pv (PR.move rfl) ?_
    refine Jl.pv (PR.nilCheck rfl) ?_
    refine Jl.pv (PR.fieldAddr rfl tfl24_0) ?_
    refine Jl.pv (PR.load1 rfl tsh22 (by repeat (first | exact Has.here | apply Has.there)) (by rfl)) ?_
    refine Jl.pv (PR.len rfl tsl22) ?_
    refine Jl.pv (PR.assign rfl) ?_
    refine Jl.nil ?_
    refine Jq.thenN ?_
    refine Jc.seq ?_
    refine Jc.region ?_
    refine Jl.pv (PR.move rfl) ?_
    refine Jl.pv (PR.lss true rfl rfl (by simp; omega)) ?_
    refine Jl.pv (PR.move rfl) ?_
    refine Jl.on rfl rfl ?_
    refine Jl.pv (PR.fieldAddr rfl tfl26_1) ?_
    refine Jl.on rfl rfl ?_
    refine Jl.pv (PR.load1 rfl tsh3 (by repeat (first | exact Has.here | apply Has.there)) (by rfl)) ?_
    refine Jl.on rfl rfl ?_
    refine Jl.call (enumber_ct e.a) en53 (by rfl) (by repeat (first | exact Take.nil | apply Take.cons (by repeat (first | exact Del.here | apply Del.there)))) (by repeat (first | exact trivial | refine And.intro (by repeat (first | exact Mem.here | apply Mem.there)) ?_)) ?_
    rintro ⟨⟩
    refine Jl.as (.bool true) (congrArg Value.bool hs.2) ?_
    refine Jl.pv (PR.pickT rfl rfl) ?_
    refine Jl.nil ?_
    refine Jq.thenN ?_
    refine Jc.condT rfl ?_
    refine Jc.drawn [0, 0, 2, 6, 14, 0, 32, 0, 128, 0, 512, 1536, 4064, 8160, 16382, 32767, 65535, 131071] ([], []) [⟨[(0, false), (1, false), (2, false), (3, false), (4, false), (5, false), (6, false), (7, false), (8, false), (9, false), (10, false), (11, false), (12, false), (13, true)], [13], 14⟩, ⟨[(15, false), (16, false)], [], 17⟩] tmx (by kernel_rfl) ?_
    refine Dh.JH.cons ?_
    refine Dh.JB.pv rfl trivial (fun _ => PR.move rfl) ?_
    refine Dh.JB.pv rfl trivial (fun _ => PR.move rfl) ?_
    refine Dh.JB.pv rfl trivial (fun _ => PR.nilCheck rfl) ?_
    refine Dh.JB.pv rfl trivial (fun _ => PR.fieldAddr rfl tfl24_0) ?_
    refine Dh.JB.rd [.blk _ _ _] rfl trivial (by repeat (first | exact Take.nil | apply Take.cons (by repeat (first | exact Del.here | apply Del.there)))) (fun _ => PR.load1 rfl tsh22 Has.here (by rfl)) ?_
    refine Dh.JB.pv rfl trivial (fun _ => PR.move rfl) ?_
    refine Dh.JB.pv rfl trivial (fun _ => PR.add ((c.bs.length : Int) + 1) rfl rfl (w64 (by omega) (by omega))) ?_
    refine Dh.JB.pv rfl trivial (fun _ => PR.fieldAddr rfl tfl26_1) ?_
    refine Dh.JB.rd [.blk _ _ _] rfl trivial (by repeat (first | exact Take.nil | apply Take.cons (by repeat (first | exact Del.here | apply Del.there)))) (fun _ => PR.load1 rfl tsh3 Has.here (by rfl)) ?_
    refine Dh.JB.pv rfl trivial (fun _ => PR.fieldAddr rfl tfl26_2) ?_
    refine Dh.JB.rd [.blk _ _ _] rfl trivial (by repeat (first | exact Take.nil | apply Take.cons (by repeat (first | exact Del.here | apply Del.there)))) (fun _ => PR.load1 rfl tsh3 Has.here (by rfl)) ?_
    refine Dh.JB.pv rfl trivial (fun _ => PR.neq _ rfl rfl rfl) ?_
    refine Dh.JB.pv rfl trivial (fun _ => PR.build (by rfl) tze36 tpl36_0_2_4_5_7 (by rfl)) ?_
    refine Dh.JB.buildSlice rfl trivial (by rfl) tsl22 tzr22_1 (by rfl) (by rfl) ?_
    refine Dh.JB.nil ?_
    refine Dh.JL.sl rfl (by repeat (first | exact Dh.es_here | apply Dh.es_there)) (fun b30 => ?_)
    refine Dh.JL.nil ?_
    refine Dh.JE.mk rfl (fun _ h => by cases h) (fun C3_14 => ?_)
    refine Jl.seal (by repeat (first | exact Del.here | apply Del.there)) ?_
    refine Jl.append (c.bs ++ [Bx.stray c.bs.length e.a (decide (e.b ≠ 0))]).length (bxsV (c.bs ++ [Bx.stray c.bs.length e.a (decide (e.b ≠ 0))])) rfl rfl rfl tsl22 tze36 (by rfl) (by decide) tby36 (fun _ _ => (by repeat (first | exact Swap.here | apply Swap.there))) (by repeat (first | exact Mem.here | apply Mem.there)) (by simp) (by rw [bxsV_app]; rfl) (by simp) (by simp [Value.oneCell']) (by omega) (by decide) ?_
    intro A31 c31
    refine Jl.nil ?_
    refine Dh.Jq.segV (by repeat (first | exact Dh.FExt.refl | apply Dh.FExt.cons | apply Dh.FExt.app)) ?_ (by repeat (first | exact Dh.KeepL.nil | apply Dh.KeepL.anc (by rfl) | apply Dh.KeepL.keep (by repeat (first | exact Take.nil | apply Take.cons (by repeat (first | exact Del.here | apply Del.there))))))
    refine Dh.JH.cons ?_
    refine Dh.JB.pv rfl trivial (fun _ => PR.nilCheck rfl) ?_
    refine Dh.JB.pv rfl trivial (fun _ => PR.fieldAddr rfl tfl24_0) ?_
    refine Dh.JB.nil ?_
    refine Dh.JL.nil ?_
    refine Dh.JE.mk rfl (fun _ h => by cases h) (fun C3_17 => ?_)
    refine Jl.store1 rfl tsh22 rfl (by rfl) (by repeat (first | exact Swap.here | apply Swap.there)) (by rfl) ?_
    refine Jl.nil ?_
    refine Dh.Jq.segN (by repeat (first | exact Dh.FExt.refl | apply Dh.FExt.cons | apply Dh.FExt.app)) ?_ (by repeat (first | exact Dh.KeepL.nil | apply Dh.KeepL.anc (by rfl) | apply Dh.KeepL.keep (by repeat (first | exact Take.nil | apply Take.cons (by repeat (first | exact Del.here | apply Del.there))))))
    refine Dh.JH.nil ?_
    refine Dh.JB.nil ?_
    refine Dh.JL.nil ?_
    exact Jq.fin (A31, c31) (.inr rfl) rfl RetVs.nil rfl (by repeat (first | exact Take.nil | apply Take.cons (by repeat (first | exact Del.here | apply Del.there)))) (by repeat (first | exact trivial | refine And.intro (by repeat (first | exact Mem.here | apply Mem.there)) ?_))
    -- hint not used: one
  · rw [show strayC c e.a (decide (e.b ≠ 0)) = c from if_neg hs]
    refine Ct.of _ Tryd.func52 Tryd.ntmps52 rfl rfl (fun X W => ?_)
    refine Jc.seq ?_
    refine Jc.region ?_
    refine Jl.box rfl (by rfl) ?_
    intro b3
    refine Jl.nil ?_
    refine Jq.thenN ?_
    refine Jc.seq ?_
    refine Jc.region ?_
    refine Jl.pv (PR.move rfl) ?_
    refine Jl.pv (PR.nilCheck rfl) ?_
    refine Jl.pv (PR.fieldAddr rfl tfl24_0) ?_
    refine Jl.pv (PR.load1 rfl tsh22 (by repeat (first | exact Has.here | apply Has.there)) (by rfl)) ?_
    refine Jl.pv (PR.len rfl tsl22) ?_
    refine Jl.pv (PR.assign rfl) ?_
    refine Jl.nil ?_
    refine Jq.thenN ?_
    refine Jc.seq ?_
    refine Jc.region ?_
    refine Jl.pv (PR.move rfl) ?_
    refine Jl.pv (PR.lss _ rfl rfl rfl) ?_
    refine Jl.pv (PR.move rfl) ?_
    refine Jl.bsplit (fun g12 => ?_) (fun g12 => ?_)
    · try replace g12 := of_decide_eq_true g12
      have ho : okN e.a = false := by simpa using fun h => hs ⟨by omega, h⟩
      refine Jl.on rfl rfl ?_
      refine Jl.pv (PR.fieldAddr rfl tfl26_1) ?_
      refine Jl.on rfl rfl ?_
      refine Jl.pv (PR.load1 rfl tsh3 (by repeat (first | exact Has.here | apply Has.there)) (by rfl)) ?_
      refine Jl.on rfl rfl ?_
      refine Jl.call (enumber_ct e.a) en53 (by rfl) (by repeat (first | exact Take.nil | apply Take.cons (by repeat (first | exact Del.here | apply Del.there)))) (by repeat (first | exact trivial | refine And.intro (by repeat (first | exact Mem.here | apply Mem.there)) ?_)) ?_
      rintro ⟨⟩
      refine Jl.as (.bool false) (congrArg Value.bool ho) ?_
      refine Jl.pv (PR.pickT rfl rfl) ?_
      refine Jl.nil ?_
      refine Jq.thenN ?_
      refine Jc.condF rfl ?_
      refine Jc.skip ?_
      exact Jq.fin x (.inr rfl) rfl RetVs.nil rfl (by repeat (first | exact Take.nil | apply Take.cons (by repeat (first | exact Del.here | apply Del.there)))) (by repeat (first | exact trivial | refine And.intro (by repeat (first | exact Mem.here | apply Mem.there)) ?_))
    · try replace g12 := of_decide_eq_false g12
      refine Jl.offS rfl rfl rfl ?_
      refine Jl.offS rfl rfl rfl ?_
      refine Jl.offS rfl rfl rfl ?_
      refine Jl.pv (PR.pickF rfl rfl) ?_
      refine Jl.nil ?_
      refine Jq.thenN ?_
      refine Jc.condF rfl ?_
      refine Jc.skip ?_
      exact Jq.fin x (.inr rfl) rfl RetVs.nil rfl (by repeat (first | exact Take.nil | apply Take.cons (by repeat (first | exact Del.here | apply Del.there)))) (by repeat (first | exact trivial | refine And.intro (by repeat (first | exact Mem.here | apply Mem.there)) ?_))
theorem hap4_ct (e : Ev) (hk : e.k = 4) : HapCt 54 e := fun bc x c hn => by
  have he : happ c e = { c with ti := !c.ti } := by rw [happ, hk]; rfl
  rw [he]
  refine Ct.of _ Tryd.func54 Tryd.ntmps54 rfl rfl (fun X W => ?_)
  refine Jc.seq ?_
  refine Jc.region ?_
  refine Jl.box rfl (by rfl) ?_
  intro b3
  refine Jl.nil ?_
  refine Jq.thenN ?_
  refine Jc.region ?_
  refine Jl.pv (PR.move rfl) ?_
  refine Jl.pv (PR.move rfl) ?_
  refine Jl.pv (PR.nilCheck rfl) ?_
  refine Jl.pv (PR.fieldAddr rfl tfl24_4) ?_
  refine Jl.pv (PR.load1 rfl tsh4 (by repeat (first | exact Has.here | apply Has.there)) (by rfl)) ?_
  refine Jl.pv (PR.not rfl) ?_
  refine Jl.pv (PR.nilCheck rfl) ?_
  refine Jl.pv (PR.fieldAddr rfl tfl24_4) ?_
  refine Jl.store1 rfl tsh4 rfl (by rfl) (by repeat (first | exact Swap.here | apply Swap.there)) (by rfl) ?_
  refine Jl.nil ?_
  exact Jq.fin x (.inr rfl) rfl RetVs.nil rfl (by repeat (first | exact Take.nil | apply Take.cons (by repeat (first | exact Del.here | apply Del.there)))) (by repeat (first | exact trivial | refine And.intro (by repeat (first | exact Mem.here | apply Mem.there)) ?_))
theorem hap6_ct (e : Ev) (hk : e.k = 6) : HapCt 56 e := fun bc x c hn => by
  have he : happ c e = floorC c e.a e.b := by rw [happ, hk]; rfl
  rw [he]
  by_cases hs : okN e.a = true ∧ okN e.b = true
  · rw [show floorC c e.a e.b = { c with fl := e.a, dr := e.b } from if_pos hs]
    refine Ct.of _ Tryd.func56 Tryd.ntmps56 rfl rfl (fun X W => ?_)
    refine Jc.seq ?_
    refine Jc.region ?_
    refine Jl.box rfl (by rfl) ?_
    intro b3
    refine Jl.nil ?_
    refine Jq.thenN ?_
    refine Jc.seq ?_
    refine Jc.region ?_
    refine Jl.pv (PR.fieldAddr rfl tfl26_1) ?_
    refine Jl.pv (PR.load1 rfl tsh3 (by repeat (first | exact Has.here | apply Has.there)) (by rfl)) ?_
    refine Jl.call (enumber_ct e.a) en53 (by rfl) (by repeat (first | exact Take.nil | apply Take.cons (by repeat (first | exact Del.here | apply Del.there)))) (by repeat (first | exact trivial | refine And.intro (by repeat (first | exact Mem.here | apply Mem.there)) ?_)) ?_
    rintro ⟨⟩
    refine Jl.as (.bool true) (congrArg Value.bool hs.1) ?_
    refine Jl.pv (PR.move rfl) ?_
    refine Jl.on rfl rfl ?_
    refine Jl.pv (PR.fieldAddr rfl tfl26_2) ?_
    refine Jl.on rfl rfl ?_
    refine Jl.pv (PR.load1 rfl tsh3 (by repeat (first | exact Has.here | apply Has.there)) (by rfl)) ?_
    refine Jl.on rfl rfl ?_
    refine Jl.call (enumber_ct e.b) en53 (by rfl) (by repeat (first | exact Take.nil | apply Take.cons (by repeat (first | exact Del.here | apply Del.there)))) (by repeat (first | exact trivial | refine And.intro (by repeat (first | exact Mem.here | apply Mem.there)) ?_)) ?_
    rintro ⟨⟩
    refine Jl.as (.bool true) (congrArg Value.bool hs.2) ?_
    refine Jl.pv (PR.pickT rfl rfl) ?_
    refine Jl.nil ?_
    refine Jq.thenN ?_
    refine Jc.condT rfl ?_
    refine Jc.drawn [0, 0, 0, 4, 0, 16, 13, 77, 205, 511, 1023, 2047] ([], []) [⟨[(0, false), (1, false), (2, false), (3, false), (4, false), (5, false), (6, false), (7, false)], [], 8⟩, ⟨[(9, false), (10, false)], [], 11⟩] tmx (by kernel_rfl) ?_
    refine Dh.JH.cons ?_
    refine Dh.JB.pv rfl trivial (fun _ => PR.move rfl) ?_
    refine Dh.JB.pv rfl trivial (fun _ => PR.move rfl) ?_
    refine Dh.JB.pv rfl trivial (fun _ => PR.fieldAddr rfl tfl26_1) ?_
    refine Dh.JB.rd [.blk _ _ _] rfl trivial (by repeat (first | exact Take.nil | apply Take.cons (by repeat (first | exact Del.here | apply Del.there)))) (fun _ => PR.load1 rfl tsh3 Has.here (by rfl)) ?_
    refine Dh.JB.pv rfl trivial (fun _ => PR.fieldAddr rfl tfl26_2) ?_
    refine Dh.JB.rd [.blk _ _ _] rfl trivial (by repeat (first | exact Take.nil | apply Take.cons (by repeat (first | exact Del.here | apply Del.there)))) (fun _ => PR.load1 rfl tsh3 Has.here (by rfl)) ?_
    refine Dh.JB.pv rfl trivial (fun _ => PR.nilCheck rfl) ?_
    refine Dh.JB.pv rfl trivial (fun _ => PR.fieldAddr rfl tfl24_1) ?_
    refine Dh.JB.nil ?_
    refine Dh.JL.nil ?_
    refine Dh.JE.mk rfl (fun _ h => by cases h) (fun C2_8 => ?_)
    refine Jl.store1 rfl tsh3 rfl (by rfl) (by repeat (first | exact Swap.here | apply Swap.there)) (by rfl) ?_
    refine Jl.nil ?_
    refine Dh.Jq.segN (by repeat (first | exact Dh.FExt.refl | apply Dh.FExt.cons | apply Dh.FExt.app)) ?_ (by repeat (first | exact Dh.KeepL.nil | apply Dh.KeepL.anc (by rfl) | apply Dh.KeepL.keep (by repeat (first | exact Take.nil | apply Take.cons (by repeat (first | exact Del.here | apply Del.there))))))
    refine Dh.JH.cons ?_
    refine Dh.JB.pv rfl trivial (fun _ => PR.nilCheck rfl) ?_
    refine Dh.JB.pv rfl trivial (fun _ => PR.fieldAddr rfl tfl24_2) ?_
    refine Dh.JB.nil ?_
    refine Dh.JL.nil ?_
    refine Dh.JE.mk rfl (fun _ h => by cases h) (fun C2_11 => ?_)
    refine Jl.store1 rfl tsh3 rfl (by rfl) (by repeat (first | exact Swap.here | apply Swap.there)) (by rfl) ?_
    refine Jl.nil ?_
    refine Dh.Jq.segN (by repeat (first | exact Dh.FExt.refl | apply Dh.FExt.cons | apply Dh.FExt.app)) ?_ (by repeat (first | exact Dh.KeepL.nil | apply Dh.KeepL.anc (by rfl) | apply Dh.KeepL.keep (by repeat (first | exact Take.nil | apply Take.cons (by repeat (first | exact Del.here | apply Del.there))))))
    refine Dh.JH.nil ?_
    refine Dh.JB.nil ?_
    refine Dh.JL.nil ?_
    exact Jq.fin x (.inr rfl) rfl RetVs.nil rfl (by repeat (first | exact Take.nil | apply Take.cons (by repeat (first | exact Del.here | apply Del.there)))) (by repeat (first | exact trivial | refine And.intro (by repeat (first | exact Mem.here | apply Mem.there)) ?_))
  · rw [show floorC c e.a e.b = c from if_neg hs]
    refine Ct.of _ Tryd.func56 Tryd.ntmps56 rfl rfl (fun X W => ?_)
    refine Jc.seq ?_
    refine Jc.region ?_
    refine Jl.box rfl (by rfl) ?_
    intro b3
    refine Jl.nil ?_
    refine Jq.thenN ?_
    refine Jc.seq ?_
    refine Jc.region ?_
    refine Jl.pv (PR.fieldAddr rfl tfl26_1) ?_
    refine Jl.pv (PR.load1 rfl tsh3 (by repeat (first | exact Has.here | apply Has.there)) (by rfl)) ?_
    refine Jl.call (enumber_ct e.a) en53 (by rfl) (by repeat (first | exact Take.nil | apply Take.cons (by repeat (first | exact Del.here | apply Del.there)))) (by repeat (first | exact trivial | refine And.intro (by repeat (first | exact Mem.here | apply Mem.there)) ?_)) ?_
    rintro ⟨⟩
    refine Jl.pv (PR.move rfl) ?_
    refine Jl.bsplit (fun g7 => ?_) (fun g7 => ?_)
    · try replace g7 := of_decide_eq_true g7
      have ho : okN e.b = false := by simpa using fun h => hs ⟨okN_iff.2 g7, h⟩
      refine Jl.on rfl rfl ?_
      refine Jl.pv (PR.fieldAddr rfl tfl26_2) ?_
      refine Jl.on rfl rfl ?_
      refine Jl.pv (PR.load1 rfl tsh3 (by repeat (first | exact Has.here | apply Has.there)) (by rfl)) ?_
      refine Jl.on rfl rfl ?_
      refine Jl.call (enumber_ct e.b) en53 (by rfl) (by repeat (first | exact Take.nil | apply Take.cons (by repeat (first | exact Del.here | apply Del.there)))) (by repeat (first | exact trivial | refine And.intro (by repeat (first | exact Mem.here | apply Mem.there)) ?_)) ?_
      rintro ⟨⟩
      refine Jl.as (.bool false) (congrArg Value.bool ho) ?_
      refine Jl.pv (PR.pickT rfl rfl) ?_
      refine Jl.nil ?_
      refine Jq.thenN ?_
      refine Jc.condF rfl ?_
      refine Jc.skip ?_
      exact Jq.fin x (.inr rfl) rfl RetVs.nil rfl (by repeat (first | exact Take.nil | apply Take.cons (by repeat (first | exact Del.here | apply Del.there)))) (by repeat (first | exact trivial | refine And.intro (by repeat (first | exact Mem.here | apply Mem.there)) ?_))
    · try replace g7 := of_decide_eq_false g7
      refine Jl.offS rfl rfl rfl ?_
      refine Jl.offS rfl rfl rfl ?_
      refine Jl.offS rfl rfl rfl ?_
      refine Jl.pv (PR.pickF rfl rfl) ?_
      refine Jl.nil ?_
      refine Jq.thenN ?_
      refine Jc.condF rfl ?_
      refine Jc.skip ?_
      exact Jq.fin x (.inr rfl) rfl RetVs.nil rfl (by repeat (first | exact Take.nil | apply Take.cons (by repeat (first | exact Del.here | apply Del.there)))) (by repeat (first | exact trivial | refine And.intro (by repeat (first | exact Mem.here | apply Mem.there)) ?_))
def tickL (t : Int) (l : List Bx) (k : Nat) : List Bx := (l.take k).map (Bx.tick t) ++ l.drop k
theorem tickL_len (t : Int) (l : List Bx) (k : Nat) : (tickL t l k).length = l.length := by simp [tickL]; omega
theorem tickL_get {t : Int} {l : List Bx} {k : Nat} (h : k < l.length) : (tickL t l k)[k]'(by rw [tickL_len]; exact h) = l[k] := by
  simp only [tickL]
  rw [List.getElem_append_right (by simp; omega)]
  simp [Nat.min_eq_left (Nat.le_of_lt h)]
theorem tickL_next {t : Int} {l : List Bx} {k : Nat} (h : k < l.length) : (tickL t l k).set k (l[k].tick t) = tickL t l (k + 1) := by
  unfold tickL
  rw [List.set_append_right _ _ (by simp; omega), List.drop_eq_getElem_cons h, List.length_map, List.length_take, Nat.min_eq_left (Nat.le_of_lt h), Nat.sub_self, List.set_cons_zero, List.take_succ_eq_append_getElem h, List.map_append, List.append_assoc]
  rfl
theorem tickL_stay {t : Int} {l : List Bx} {k : Nat} (h : k < l.length) (hb : l[k].tick t = l[k]) : tickL t l k = tickL t l (k + 1) := by
  rw [← tickL_next h, hb]
  conv => rhs; rw [← tickL_get (t := t) h]
  rw [List.set_getElem_self]
theorem tickL_all (t : Int) (l : List Bx) {k : Nat} (h : l.length ≤ k) : tickL t l k = l.map (Bx.tick t) := by
  rw [tickL, List.take_of_length_le h, List.drop_eq_nil_of_le h, List.append_nil]
theorem tick_yes {t : Int} {b : Bx} (h1 : ((b.lb.toNat : Nat) : Int) = 2) (h2 : b.unt ≤ t) : b.tick t = { b with lb := 0 } := by
  have : b.lb = 2 := UInt8.toNat_inj.1 (show b.lb.toNat = 2 by omega)
  exact if_pos ⟨this, h2⟩
theorem tick_no {t : Int} {b : Bx} (h : ¬ (((b.lb.toNat : Nat) : Int) = 2 ∧ b.unt ≤ t)) : b.tick t = b := by
  refine if_neg fun ⟨h1, h2⟩ => h ⟨by rw [h1]; rfl, h2⟩
theorem hap5_ct (e : Ev) (hk : e.k = 5) : ∀ (bc : Nat) (x : AdC) (c : Cl), c.bs.length ≤ 1000000 → okN c.now = true → Ct Tryd.prog 55 [.pointer (some ⟨bc, 0, none⟩), e.v] [.blk bc 24 (c.cs x), c.row x] [] (fun _ : AdC => .tuple #[]) (fun y => [.blk bc 24 ((happ c e).cs y), (happ c e).row y]) (fun _ => []) := fun bc x c hn hno => by
  have he : happ c e = tickC c := by rw [happ, hk]; rfl
  have hno := okN_iff.1 hno
  rw [he]
  by_cases hs : 1099511627776 ≤ c.now
  · rw [show tickC c = c from if_pos hs]
    refine Ct.of _ Tryd.func55 Tryd.ntmps55 rfl rfl (fun X W => ?_)
    refine Jc.seq ?_
    refine Jc.region ?_
    refine Jl.box rfl (by rfl) ?_
    intro b3
    refine Jl.nil ?_
    refine Jq.thenN ?_
    refine Jc.seq ?_
    refine Jc.seq ?_
    refine Jc.region ?_
    refine Jl.pv (PR.move rfl) ?_
    refine Jl.pv (PR.nilCheck rfl) ?_
    refine Jl.pv (PR.fieldAddr rfl tfl24_3) ?_
    refine Jl.pv (PR.load1 rfl tsh3 (by repeat (first | exact Has.here | apply Has.there)) (by rfl)) ?_
    refine Jl.pv (PR.geq true rfl rfl (by simp; omega)) ?_
    refine Jl.nil ?_
    refine Jq.thenN ?_
    refine Jc.condT rfl ?_
    refine Jc.ret ?_
    refine Jq.thenR ?_
    exact Jq.fin x (.inl rfl) rfl RetVs.nil rfl (by repeat (first | exact Take.nil | apply Take.cons (by repeat (first | exact Del.here | apply Del.there)))) (by repeat (first | exact trivial | refine And.intro (by repeat (first | exact Mem.here | apply Mem.there)) ?_))
  · rw [show tickC c = { c with now := c.now + 1, bs := c.bs.map (Bx.tick (c.now + 1)) } from if_neg hs]
    refine Ct.map (res := fun _ : Unit => .tuple #[]) (Rout := fun _ => [.blk bc 24 (({ c with now := c.now + 1 } : Cl).cs x), .row 36 11 (.slice x.1 c.bs.length x.2) c.bs.length (bxsV (c.bs.map (Bx.tick (c.now + 1))))]) (post := fun _ => []) ?_ (fun _ => x) (fun _ => rfl) (fun _ => by simp [Cl.cs, Cl.row]) (fun _ => rfl)
    obtain ⟨A, cA⟩ := x
    refine Ct.of _ Tryd.func55 Tryd.ntmps55 rfl rfl (fun X W => ?_)
    refine Jc.seq ?_
    refine Jc.region ?_
    refine Jl.box rfl (by rfl) ?_
    intro b3
    refine Jl.nil ?_
    refine Jq.thenN ?_
    refine Jc.seq ?_
    refine Jc.seq ?_
    refine Jc.region ?_
    refine Jl.pv (PR.move rfl) ?_
    refine Jl.pv (PR.nilCheck rfl) ?_
    refine Jl.pv (PR.fieldAddr rfl tfl24_3) ?_
    refine Jl.pv (PR.load1 rfl tsh3 (by repeat (first | exact Has.here | apply Has.there)) (by rfl)) ?_
    refine Jl.pv (PR.geq false rfl rfl (by simp; omega)) ?_
    refine Jl.nil ?_
    refine Jq.thenN ?_
    refine Jc.condF rfl ?_
    refine Jc.skip ?_
    refine Jq.thenN ?_
    refine Jc.seq ?_
    refine Jc.region ?_
    refine Jl.pv (PR.move rfl) ?_
    refine Jl.pv (PR.nilCheck rfl) ?_
    refine Jl.pv (PR.fieldAddr rfl tfl24_3) ?_
    refine Jl.pv (PR.load1 rfl tsh3 (by repeat (first | exact Has.here | apply Has.there)) (by rfl)) ?_
    refine Jl.pv (PR.add (c.now + 1) rfl rfl (w64 (by omega) (by omega))) ?_
    refine Jl.pv (PR.nilCheck rfl) ?_
    refine Jl.pv (PR.fieldAddr rfl tfl24_3) ?_
    refine Jl.store1 rfl tsh3 rfl (by rfl) (by repeat (first | exact Swap.here | apply Swap.there)) (by rfl) ?_
    refine Jl.nil ?_
    refine Jq.thenN ?_
    refine Jc.seq ?_
    refine Jc.region ?_
    refine Jl.pv (PR.move rfl) ?_
    refine Jl.pv (PR.nilCheck rfl) ?_
    refine Jl.pv (PR.fieldAddr rfl tfl24_0) ?_
    refine Jl.pv (PR.load1 rfl tsh22 (by repeat (first | exact Has.here | apply Has.there)) (by rfl)) ?_
    refine Jl.pv (PR.len rfl tsl22) ?_
    refine Jl.pv (PR.move rfl) ?_
    refine Jl.nil ?_
    refine Jq.thenN ?_
    refine Jc.block ?_
    refine Jc.loop (σ := { k : Nat // k ≤ c.bs.length }) (fun s => [(23, .int .i64 (s.1 : Int)), (22, .int .i64 (c.bs.length : Int)), (0, .pointer (some ⟨bc, 0, none⟩))]) (fun s => [.blk b3 26 e.cs, .blk bc 24 (({ c with now := c.now + 1 } : Cl).cs (A, cA)), .row 36 11 (.slice A c.bs.length cA) c.bs.length (bxsV (tickL (c.now + 1) c.bs s.1))]) (fun _ => []) (fun s => c.bs.length - s.1) ⟨0, Nat.zero_le _⟩ (by repeat (first | exact trivial | refine And.intro rfl ?_)) rfl (by repeat (first | exact trivial | refine And.intro (by repeat (first | exact Mem.here | apply Mem.there)) ?_)) ?_
    rintro ⟨k, hk⟩
    show Jc _ _ _ _ _ _ [(23, Value.int .i64 (k : Int)), (22, .int .i64 (c.bs.length : Int)), (0, .pointer (some ⟨bc, 0, none⟩))] [.blk b3 26 e.cs, .blk bc 24 (({ c with now := c.now + 1 } : Cl).cs (A, cA)), .row 36 11 (.slice A c.bs.length cA) c.bs.length (bxsV (tickL (c.now + 1) c.bs k))] []
    refine Jc.seq ?_
    refine Jc.region ?_
    refine Jl.pv (PR.lss _ rfl rfl rfl) ?_
    refine Jl.nil ?_
    refine Jq.thenN ?_
    refine Jc.seq ?_
    refine Jc.cond rfl (fun h0 => ?_) (fun h0 => ?_)
    · try replace h0 := of_decide_eq_true h0
      have hlt : k < c.bs.length := by omega
      have hlt2 : k < (tickL (c.now + 1) c.bs k).length := by rw [tickL_len]; exact hlt
      have hget := tickL_get (t := c.now + 1) hlt
      have hsz : k * 11 + 11 ≤ (bxsV (tickL (c.now + 1) c.bs k)).length := by rw [bxsV_len, tickL_len]; omega
      refine Jc.skip ?_
      refine Jq.thenN ?_
      refine Jc.seq ?_
      refine Jc.block ?_
      refine Jc.seq ?_
      refine Jc.region ?_
      refine Jl.pv (PR.move rfl) ?_
      refine Jl.pv (PR.assign rfl) ?_
      refine Jl.nil ?_
      refine Jq.thenN ?_
      refine Jc.seq ?_
      refine Jc.region ?_
      refine Jl.pv (PR.move rfl) ?_
      refine Jl.pv (PR.nilCheck rfl) ?_
      refine Jl.pv (PR.fieldAddr rfl tfl24_0) ?_
      refine Jl.pv (PR.load1 rfl tsh22 (by repeat (first | exact Has.here | apply Has.there)) (by rfl)) ?_
      refine Jl.pv (PR.move rfl) ?_
      refine Jl.pv (PR.idxO k rfl rfl tsl22 (by repeat (first | exact Del.here | apply Del.there)) (by decide) rfl hlt) ?_
      refine Jl.pv (PR.assign rfl) ?_
      refine Jl.nil ?_
      refine Jq.thenN ?_
      refine Jc.seq ?_
      refine Jc.drawn [0, 1, 3, 7, 15, 31, 63, 127, 255, 511, 63, 1087, 3135, 7231, 16383, 32767] ([(0, false), (1, false), (2, false), (3, false), (4, false), (5, false), (6, false), (7, false), (8, false), (9, false), (10, false), (11, false), (12, false), (13, false), (14, false), (15, false)], []) [] tmx (by kernel_rfl) ?_
      refine Dh.JH.nil ?_
      refine Dh.JB.pv rfl trivial (fun _ => PR.move rfl) ?_
      refine Dh.JB.rd [.row _ _ _ _ _] rfl trivial (by repeat (first | exact Take.nil | apply Take.cons (by repeat (first | exact Del.here | apply Del.there)))) (fun _ => PR.nilCheckO rfl Del.here (by omega)) ?_
      refine Dh.JB.rd [.row _ _ _ _ _] rfl trivial (by repeat (first | exact Take.nil | apply Take.cons (by repeat (first | exact Del.here | apply Del.there)))) (fun _ => PR.fieldAddrO rfl tfl36_8 Del.here (by omega)) ?_
      refine Dh.JB.rd [.row _ _ _ _ _] rfl trivial (by repeat (first | exact Take.nil | apply Take.cons (by repeat (first | exact Del.here | apply Del.there)))) (fun _ => PR.loadO rfl tsh5 Del.here (bxs_f hlt2 8 (by rw [hget]; rfl))) ?_
      refine Dh.JB.pv rfl trivial (fun _ => PR.eql _ rfl rfl rfl) ?_
      refine Dh.JB.pv rfl trivial (fun _ => PR.move rfl) ?_
      refine Dh.JB.bsplit (fun g37 => ?_) (fun g37 => ?_)
      · try replace g37 := of_decide_eq_true g37
        refine Dh.JB.pv rfl ⟨_, rfl, rfl⟩ (fun _ => PR.move rfl) ?_
        refine Dh.JB.rd [.row _ _ _ _ _] rfl ⟨_, rfl, rfl⟩ (by repeat (first | exact Take.nil | apply Take.cons (by repeat (first | exact Del.here | apply Del.there)))) (fun _ => PR.nilCheckO rfl Del.here (by omega)) ?_
        refine Dh.JB.rd [.row _ _ _ _ _] rfl ⟨_, rfl, rfl⟩ (by repeat (first | exact Take.nil | apply Take.cons (by repeat (first | exact Del.here | apply Del.there)))) (fun _ => PR.fieldAddrO rfl tfl36_9 Del.here (by omega)) ?_
        refine Dh.JB.rd [.row _ _ _ _ _] rfl ⟨_, rfl, rfl⟩ (by repeat (first | exact Take.nil | apply Take.cons (by repeat (first | exact Del.here | apply Del.there)))) (fun _ => PR.loadO rfl tsh3 Del.here (bxs_f hlt2 9 (by rw [hget]; rfl))) ?_
        refine Dh.JB.pv rfl ⟨_, rfl, rfl⟩ (fun _ => PR.move rfl) ?_
        refine Dh.JB.pv rfl ⟨_, rfl, rfl⟩ (fun _ => PR.nilCheck rfl) ?_
        refine Dh.JB.pv rfl ⟨_, rfl, rfl⟩ (fun _ => PR.fieldAddr rfl tfl24_3) ?_
        refine Dh.JB.rd [.blk _ _ _] rfl ⟨_, rfl, rfl⟩ (by repeat (first | exact Take.nil | apply Take.cons (by repeat (first | exact Del.here | apply Del.there)))) (fun _ => PR.load1 rfl tsh3 Has.here (by rfl)) ?_
        refine Dh.JB.pv rfl ⟨_, rfl, rfl⟩ (fun _ => PR.leq _ rfl rfl rfl) ?_
        refine Dh.JB.pv rfl trivial (fun _ => PR.pickT rfl rfl) ?_
        refine Dh.JB.nil ?_
        refine Dh.JL.nil ?_
        refine Jq.thenN ?_
        refine Jc.cond rfl (fun h1 => ?_) (fun h1 => ?_)
        · try replace h1 := of_decide_eq_true h1
          have ht := tick_yes g37 h1
          refine Jc.region ?_
          refine Jl.pv (PR.move rfl) ?_
          refine Jl.pv (PR.nilCheckO rfl (by repeat (first | exact Del.here | apply Del.there)) (by omega)) ?_
          refine Jl.pv (PR.fieldAddrO rfl tfl36_8 (by repeat (first | exact Del.here | apply Del.there)) (by omega)) ?_
          refine Jl.storeO rfl tsh5 rfl (by rfl) (by repeat (first | exact Swap.here | apply Swap.there)) (by omega) (bxs_set hlt2 8 (by omega) _ { c.bs[k] with lb := 0 } (by rw [hget]; rfl)) ?_
          refine Jl.nil ?_
          refine Jq.blkN ?_
          refine Jq.thenN ?_
          refine Jc.region ?_
          refine Jl.pv (PR.add ((k + 1 : Nat) : Int) rfl rfl (by rw [w64 (by omega) (by omega)]; rfl)) ?_
          refine Jl.pv (PR.move rfl) ?_
          refine Jl.nil ?_
          rw [← ht, tickL_next hlt]
          exact Jq.again ⟨k + 1, hlt⟩ (by simp only; omega) (by repeat (first | exact trivial | refine And.intro rfl ?_)) rfl (by repeat (first | exact trivial | refine And.intro (by repeat (first | exact Mem.here | apply Mem.there)) ?_))
        · try replace h1 := of_decide_eq_false h1
          have ht := tick_no (t := c.now + 1) (fun h => h1 h.2)
          refine Jc.skip ?_
          refine Jq.blkN ?_
          refine Jq.thenN ?_
          refine Jc.region ?_
          refine Jl.pv (PR.add ((k + 1 : Nat) : Int) rfl rfl (by rw [w64 (by omega) (by omega)]; rfl)) ?_
          refine Jl.pv (PR.move rfl) ?_
          refine Jl.nil ?_
          rw [tickL_stay hlt ht]
          exact Jq.again ⟨k + 1, hlt⟩ (by simp only; omega) (by repeat (first | exact trivial | refine And.intro rfl ?_)) rfl (by repeat (first | exact trivial | refine And.intro (by repeat (first | exact Mem.here | apply Mem.there)) ?_))
      · try replace g37 := of_decide_eq_false g37
        have ht := tick_no (t := c.now + 1) (fun h => g37 h.1)
        refine Dh.JB.off rfl ⟨_, rfl, .inr rfl⟩ ?_
        refine Dh.JB.off rfl ⟨_, rfl, .inr rfl⟩ ?_
        refine Dh.JB.off rfl ⟨_, rfl, .inr rfl⟩ ?_
        refine Dh.JB.off rfl ⟨_, rfl, .inr rfl⟩ ?_
        refine Dh.JB.off rfl ⟨_, rfl, .inr rfl⟩ ?_
        refine Dh.JB.off rfl ⟨_, rfl, .inr rfl⟩ ?_
        refine Dh.JB.off rfl ⟨_, rfl, .inr rfl⟩ ?_
        refine Dh.JB.off rfl ⟨_, rfl, .inr rfl⟩ ?_
        refine Dh.JB.off rfl ⟨_, rfl, .inr rfl⟩ ?_
        refine Dh.JB.pv rfl trivial (fun _ => PR.pickF rfl rfl) ?_
        refine Dh.JB.nil ?_
        refine Dh.JL.nil ?_
        refine Jq.thenN ?_
        refine Jc.condF rfl ?_
        refine Jc.skip ?_
        refine Jq.blkN ?_
        refine Jq.thenN ?_
        refine Jc.region ?_
        refine Jl.pv (PR.add ((k + 1 : Nat) : Int) rfl rfl (by rw [w64 (by omega) (by omega)]; rfl)) ?_
        refine Jl.pv (PR.move rfl) ?_
        refine Jl.nil ?_
        rw [tickL_stay hlt ht]
        exact Jq.again ⟨k + 1, hlt⟩ (by simp only; omega) (by repeat (first | exact trivial | refine And.intro rfl ?_)) rfl (by repeat (first | exact trivial | refine And.intro (by repeat (first | exact Mem.here | apply Mem.there)) ?_))
    · try replace h0 := of_decide_eq_false h0
      refine Jc.exit ?_
      refine Jq.thenX ?_
      refine Jq.thenX ?_
      refine Jq.blkX ?_
      rw [tickL_all (c.now + 1) c.bs (show c.bs.length ≤ k by omega)]
      exact Jq.fin () (.inr rfl) rfl RetVs.nil rfl (by repeat (first | exact Take.nil | apply Take.cons (by repeat (first | exact Del.here | apply Del.there)))) (by repeat (first | exact trivial | refine And.intro (by repeat (first | exact Mem.here | apply Mem.there)) ?_))
/-- What the table of events' functions has. -/
def hapF (k : UInt8) : Option FuncId := if k = 1 then some 49 else if k = 2 then some 51 else if k = 3 then some 52 else if k = 4 then some 54 else if k = 5 then some 55 else if k = 6 then some 56 else none
def hapV (k : UInt8) : Value := match hapF k with
  | some g => .tuple #[.func (.func g) #[] #[], .bool true]
  | none => .tuple #[.nilFunc, .bool false]
def Fact.happens (b : Nat) : Fact := ⟨fun X W => (Fact.rd (some ⟨0, 0, none⟩) [.map (some b)]).p X W ∧ (b < W.heap.size ∧ ¬ X b) ∧ ∃ o, W.heap[b]? = some o ∧ ∀ W' : World, W'.heap[b]? = some o → ∀ k : UInt8, (Instr.lookup 45 (.map (some b)) (.int .u8 k.toNat) true).run Tryd.prog W' = .ok (hapV k) W',
  fun X X' W W' h hf hx => ⟨(Fact.rd (some ⟨0, 0, none⟩) [.map (some b)]).fr X X' W W' h.1 hf hx, ⟨Nat.lt_of_lt_of_le h.2.1.1 hf.size, fun hb => (hx _ hb).elim h.2.1.2 fun h5 => by have := h.2.1.1; omega⟩, by
    obtain ⟨o, h1, h2⟩ := h.2.2
    exact ⟨o, (hf.block b h.2.1.1 h.2.1.2).trans h1, h2⟩⟩⟩
theorem hap_ct (e : Ev) (g : FuncId) (h : hapF e.k = some g) (bc : Nat) (x : AdC) (c : Cl) (hn : c.bs.length ≤ 1000000) (hno : okN c.now = true) : Ct Tryd.prog g [.pointer (some ⟨bc, 0, none⟩), e.v] [.blk bc 24 (c.cs x), c.row x] [] (fun _ : AdC => .tuple #[]) (fun y => [.blk bc 24 ((happ c e).cs y), (happ c e).row y]) (fun _ => []) ∧ ∀ args w, (callFunc g args).run Tryd.prog w = .ok (.enter g args) w := by
  unfold hapF at h
  split at h
  · cases h; exact ⟨hap1_ct e (by assumption) bc x c hn, en49⟩
  · split at h
    · cases h; exact ⟨hap2_ct e (by assumption) bc x c hn, en51⟩
    · split at h
      · cases h; exact ⟨hap3_ct e (by assumption) bc x c hn, en52⟩
      · split at h
        · cases h; exact ⟨hap4_ct e (by assumption) bc x c hn, en54⟩
        · split at h
          · cases h; exact ⟨hap5_ct e (by assumption) bc x c hn hno, en55⟩
          · split at h
            · cases h; exact ⟨hap6_ct e (by assumption) bc x c hn, en56⟩
            · cases h
theorem hap_none {c : Cl} {e : Ev} (h : hapF e.k = none) : happ c e = c := by
  unfold hapF at h
  unfold happ
  split at h
  · cases h
  · split at h
    · cases h
    · split at h
      · cases h
      · split at h
        · cases h
        · split at h
          · cases h
          · split at h
            · cases h
            · rename_i h1 h2 h3 h4 h5 h6
              rw [if_neg h1, if_neg h2, if_neg h3, if_neg h4, if_neg h5, if_neg h6]
theorem evdo_ct (c : Cl) (x : AdC) (e : Ev) (bm : Nat) (hw : c.Wf) (hn : c.bs.length ≤ 1000000) : Ct Tryd.prog 10 [c.v x, e.v] [] [.rd x.1 (bxsV c.bs), .happens bm] (doE c e).v (fun y => [(doE c e).row y]) (fun _ => []) := by
  cases hg : hapF e.k with
  | none =>
    have hd : doE c e = c := by unfold doE; split; exact hap_none hg; rfl
    have hv : hapV e.k = .tuple #[.nilFunc, .bool false] := by rw [hapV, hg]
    rw [hd]
    refine Ct.of _ Tryd.func10 Tryd.ntmps10 rfl rfl (fun X W => ?_)
    refine Jc.fact (.rd (some ⟨0, 0, none⟩) [.map (some bm)]) (φ := .happens bm) (by repeat (first | exact Mem.here | apply Mem.there)) (fun X W h => h.1) ?_
    refine Jc.seq ?_
    refine Jc.region ?_
    refine Jl.box rfl (by rfl) ?_
    intro b2
    refine Jl.box rfl (by rfl) ?_
    intro b3
    refine Jl.alloc tze24 ?_
    intro b4
    refine Jl.nil ?_
    refine Jq.thenN ?_
    refine Jc.seq ?_
    refine Jc.region ?_
    refine Jl.pv (PR.loadW rfl tsh24 (by repeat (first | exact Has.here | apply Has.there)) (by rfl)) ?_
    refine Jl.call (own_ct c x hn) en20 (by rfl) (by repeat (first | exact Take.nil | apply Take.cons (by repeat (first | exact Del.here | apply Del.there)))) (by repeat (first | exact trivial | refine And.intro (by repeat (first | exact Mem.here | apply Mem.there)) ?_)) ?_
    rintro ⟨A8, c8⟩
    refine Jl.storeW rfl tsh24 rfl (by rfl) (by first | exact Cl.cs_one _ _ | simp [Value.oneCell']) (by repeat (first | exact Swap.here | apply Swap.there)) (by rfl) ?_
    refine Jl.nil ?_
    refine Jq.thenN ?_
    refine Jc.seq ?_
    refine Jc.seq ?_
    refine Jc.region ?_
    refine Jl.pv (PR.loadG rfl tsh45 (by repeat (first | exact Mem.here | apply Mem.there)) (by rfl)) ?_
    refine Jl.pv (PR.fieldAddr rfl tfl26_0) ?_
    refine Jl.pv (PR.load1 rfl tsh5 (by repeat (first | exact Has.here | apply Has.there)) (by rfl)) ?_
    refine Jl.pv (PR.lookupF (φ := (.happens bm)) (by repeat (first | exact Mem.here | apply Mem.there)) rfl rfl (fun X W h => by obtain ⟨o, h1, h2⟩ := h.2.2; have := h2 W h1 e.k; rw [hv] at this; exact this)) ?_
    refine Jl.pv (PR.move rfl) ?_
    refine Jl.pv (PR.extract rfl (by rfl)) ?_
    refine Jl.pv (PR.extract rfl (by rfl)) ?_
    refine Jl.as (.bool false) (congrArg Value.bool rfl) ?_
    refine Jl.pv (PR.assign rfl) ?_
    refine Jl.pv (PR.assign rfl) ?_
    refine Jl.nil ?_
    refine Jq.thenN ?_
    refine Jc.seq ?_
    refine Jc.region ?_
    refine Jl.pv (PR.move rfl) ?_
    refine Jl.pv (PR.move rfl) ?_
    refine Jl.offS rfl rfl rfl ?_
    refine Jl.offS rfl rfl rfl ?_
    refine Jl.pv (PR.pickF rfl rfl) ?_
    refine Jl.nil ?_
    refine Jq.thenN ?_
    refine Jc.condF rfl ?_
    refine Jc.skip ?_
    refine Jq.thenN ?_
    refine Jc.seq ?_
    refine Jc.region ?_
    refine Jl.pv (PR.loadW rfl tsh24 (by repeat (first | exact Has.here | apply Has.there)) (by rfl)) ?_
    refine Jl.storeW rfl tsh24 rfl (by rfl) (by first | exact Cl.cs_one _ _ | simp [Value.oneCell']) (by repeat (first | exact Swap.here | apply Swap.there)) (by rfl) ?_
    refine Jl.nil ?_
    refine Jq.thenN ?_
    refine Jc.ret ?_
    exact Jq.fin (A8, c8) (.inl rfl) rfl (RetVs.cellA rfl (by repeat (first | exact Has.here | apply Has.there)) tsh24 (by rfl) RetVs.nil) rfl (by repeat (first | exact Take.nil | apply Take.cons (by repeat (first | exact Del.here | apply Del.there)))) (by repeat (first | exact trivial | refine And.intro (by repeat (first | exact Mem.here | apply Mem.there)) ?_))
  | some g =>
    have hv : hapV e.k = .tuple #[.func (.func g) #[] #[], .bool true] := by rw [hapV, hg]
    by_cases hok : c.Ok
    · rw [doE_ok hok]
      refine Ct.of _ Tryd.func10 Tryd.ntmps10 rfl rfl (fun X W => ?_)
      refine Jc.fact (.rd (some ⟨0, 0, none⟩) [.map (some bm)]) (φ := .happens bm) (by repeat (first | exact Mem.here | apply Mem.there)) (fun X W h => h.1) ?_
      refine Jc.seq ?_
      refine Jc.region ?_
      refine Jl.box rfl (by rfl) ?_
      intro b2
      refine Jl.box rfl (by rfl) ?_
      intro b3
      refine Jl.alloc tze24 ?_
      intro b4
      refine Jl.nil ?_
      refine Jq.thenN ?_
      refine Jc.seq ?_
      refine Jc.region ?_
      refine Jl.pv (PR.loadW rfl tsh24 (by repeat (first | exact Has.here | apply Has.there)) (by rfl)) ?_
      refine Jl.call (own_ct c x hn) en20 (by rfl) (by repeat (first | exact Take.nil | apply Take.cons (by repeat (first | exact Del.here | apply Del.there)))) (by repeat (first | exact trivial | refine And.intro (by repeat (first | exact Mem.here | apply Mem.there)) ?_)) ?_
      rintro ⟨A8, c8⟩
      refine Jl.storeW rfl tsh24 rfl (by rfl) (by first | exact Cl.cs_one _ _ | simp [Value.oneCell']) (by repeat (first | exact Swap.here | apply Swap.there)) (by rfl) ?_
      refine Jl.nil ?_
      refine Jq.thenN ?_
      refine Jc.seq ?_
      refine Jc.seq ?_
      refine Jc.region ?_
      refine Jl.pv (PR.loadG rfl tsh45 (by repeat (first | exact Mem.here | apply Mem.there)) (by rfl)) ?_
      refine Jl.pv (PR.fieldAddr rfl tfl26_0) ?_
      refine Jl.pv (PR.load1 rfl tsh5 (by repeat (first | exact Has.here | apply Has.there)) (by rfl)) ?_
      refine Jl.pv (PR.lookupF (φ := (.happens bm)) (by repeat (first | exact Mem.here | apply Mem.there)) rfl rfl (fun X W h => by obtain ⟨o, h1, h2⟩ := h.2.2; have := h2 W h1 e.k; rw [hv] at this; exact this)) ?_
      refine Jl.pv (PR.move rfl) ?_
      refine Jl.pv (PR.extract rfl (by rfl)) ?_
      refine Jl.pv (PR.extract rfl (by rfl)) ?_
      refine Jl.as (.bool true) (congrArg Value.bool rfl) ?_
      refine Jl.pv (PR.assign rfl) ?_
      refine Jl.pv (PR.assign rfl) ?_
      refine Jl.nil ?_
      refine Jq.thenN ?_
      refine Jc.seq ?_
      refine Jc.region ?_
      refine Jl.pv (PR.move rfl) ?_
      refine Jl.pv (PR.move rfl) ?_
      refine Jl.on rfl rfl ?_
      refine Jl.pv (PR.loadW rfl tsh24 (by repeat (first | exact Has.here | apply Has.there)) (by rfl)) ?_
      refine Jl.on rfl rfl ?_
      refine Jl.calll (fs := []) (cs := []) (right_ct c (A8, c8) hw) en21 rfl (by rfl) (by rfl) (by repeat (first | exact Take.nil | apply Take.cons (by repeat (first | exact Del.here | apply Del.there)))) (ls := [c.row (A8, c8)]) (by repeat (first | exact Take.nil | apply Take.cons (by repeat (first | exact Del.here | apply Del.there)))) (by repeat (first | exact Lends.nil | apply Lends.row | apply Lends.blk)) (by repeat (first | exact trivial | refine And.intro (by repeat (first | exact Mem.here | apply Mem.there)) ?_)) ?_
      rintro ⟨⟩
      refine Jl.as (.bool true) (congrArg Value.bool (Cl.ok_iff.2 hok)) ?_
      refine Jl.pv (PR.pickT rfl rfl) ?_
      refine Jl.nil ?_
      refine Jq.thenN ?_
      refine Jc.condT rfl ?_
      refine Jc.region ?_
      refine Jl.pv (PR.move rfl) ?_
      refine Jl.pv (PR.loadW rfl tsh26 (by repeat (first | exact Has.here | apply Has.there)) (by rfl)) ?_
      refine Jl.callv (hap_ct e g hg b2 (A8, c8) c hn hok.now).1 (hap_ct e g hg b2 (A8, c8) c hn hok.now).2 rfl (by rfl) (by rfl) (by repeat (first | exact Take.nil | apply Take.cons (by repeat (first | exact Del.here | apply Del.there)))) (by repeat (first | exact trivial | refine And.intro (by repeat (first | exact Mem.here | apply Mem.there)) ?_)) ?_
      rintro ⟨A23, c23⟩
      refine Jl.nil ?_
      refine Jq.thenN ?_
      refine Jc.seq ?_
      refine Jc.region ?_
      refine Jl.pv (PR.loadW rfl tsh24 (by repeat (first | exact Has.here | apply Has.there)) (by rfl)) ?_
      refine Jl.storeW rfl tsh24 rfl (by rfl) (by first | exact Cl.cs_one _ _ | simp [Value.oneCell']) (by repeat (first | exact Swap.here | apply Swap.there)) (by rfl) ?_
      refine Jl.nil ?_
      refine Jq.thenN ?_
      refine Jc.ret ?_
      exact Jq.fin (A23, c23) (.inl rfl) rfl (RetVs.cellA rfl (by repeat (first | exact Has.here | apply Has.there)) tsh24 (by rfl) RetVs.nil) rfl (by repeat (first | exact Take.nil | apply Take.cons (by repeat (first | exact Del.here | apply Del.there)))) (by repeat (first | exact trivial | refine And.intro (by repeat (first | exact Mem.here | apply Mem.there)) ?_))
    · rw [doE_no hok]
      refine Ct.of _ Tryd.func10 Tryd.ntmps10 rfl rfl (fun X W => ?_)
      refine Jc.fact (.rd (some ⟨0, 0, none⟩) [.map (some bm)]) (φ := .happens bm) (by repeat (first | exact Mem.here | apply Mem.there)) (fun X W h => h.1) ?_
      refine Jc.seq ?_
      refine Jc.region ?_
      refine Jl.box rfl (by rfl) ?_
      intro b2
      refine Jl.box rfl (by rfl) ?_
      intro b3
      refine Jl.alloc tze24 ?_
      intro b4
      refine Jl.nil ?_
      refine Jq.thenN ?_
      refine Jc.seq ?_
      refine Jc.region ?_
      refine Jl.pv (PR.loadW rfl tsh24 (by repeat (first | exact Has.here | apply Has.there)) (by rfl)) ?_
      refine Jl.call (own_ct c x hn) en20 (by rfl) (by repeat (first | exact Take.nil | apply Take.cons (by repeat (first | exact Del.here | apply Del.there)))) (by repeat (first | exact trivial | refine And.intro (by repeat (first | exact Mem.here | apply Mem.there)) ?_)) ?_
      rintro ⟨A8, c8⟩
      refine Jl.storeW rfl tsh24 rfl (by rfl) (by first | exact Cl.cs_one _ _ | simp [Value.oneCell']) (by repeat (first | exact Swap.here | apply Swap.there)) (by rfl) ?_
      refine Jl.nil ?_
      refine Jq.thenN ?_
      refine Jc.seq ?_
      refine Jc.seq ?_
      refine Jc.region ?_
      refine Jl.pv (PR.loadG rfl tsh45 (by repeat (first | exact Mem.here | apply Mem.there)) (by rfl)) ?_
      refine Jl.pv (PR.fieldAddr rfl tfl26_0) ?_
      refine Jl.pv (PR.load1 rfl tsh5 (by repeat (first | exact Has.here | apply Has.there)) (by rfl)) ?_
      refine Jl.pv (PR.lookupF (φ := (.happens bm)) (by repeat (first | exact Mem.here | apply Mem.there)) rfl rfl (fun X W h => by obtain ⟨o, h1, h2⟩ := h.2.2; have := h2 W h1 e.k; rw [hv] at this; exact this)) ?_
      refine Jl.pv (PR.move rfl) ?_
      refine Jl.pv (PR.extract rfl (by rfl)) ?_
      refine Jl.pv (PR.extract rfl (by rfl)) ?_
      refine Jl.as (.bool true) (congrArg Value.bool rfl) ?_
      refine Jl.pv (PR.assign rfl) ?_
      refine Jl.pv (PR.assign rfl) ?_
      refine Jl.nil ?_
      refine Jq.thenN ?_
      refine Jc.seq ?_
      refine Jc.region ?_
      refine Jl.pv (PR.move rfl) ?_
      refine Jl.pv (PR.move rfl) ?_
      refine Jl.on rfl rfl ?_
      refine Jl.pv (PR.loadW rfl tsh24 (by repeat (first | exact Has.here | apply Has.there)) (by rfl)) ?_
      refine Jl.on rfl rfl ?_
      refine Jl.calll (fs := []) (cs := []) (right_ct c (A8, c8) hw) en21 rfl (by rfl) (by rfl) (by repeat (first | exact Take.nil | apply Take.cons (by repeat (first | exact Del.here | apply Del.there)))) (ls := [c.row (A8, c8)]) (by repeat (first | exact Take.nil | apply Take.cons (by repeat (first | exact Del.here | apply Del.there)))) (by repeat (first | exact Lends.nil | apply Lends.row | apply Lends.blk)) (by repeat (first | exact trivial | refine And.intro (by repeat (first | exact Mem.here | apply Mem.there)) ?_)) ?_
      rintro ⟨⟩
      refine Jl.as (.bool false) (congrArg Value.bool (Cl.ok_no hok)) ?_
      refine Jl.pv (PR.pickT rfl rfl) ?_
      refine Jl.nil ?_
      refine Jq.thenN ?_
      refine Jc.condF rfl ?_
      refine Jc.skip ?_
      refine Jq.thenN ?_
      refine Jc.seq ?_
      refine Jc.region ?_
      refine Jl.pv (PR.loadW rfl tsh24 (by repeat (first | exact Has.here | apply Has.there)) (by rfl)) ?_
      refine Jl.storeW rfl tsh24 rfl (by rfl) (by first | exact Cl.cs_one _ _ | simp [Value.oneCell']) (by repeat (first | exact Swap.here | apply Swap.there)) (by rfl) ?_
      refine Jl.nil ?_
      refine Jq.thenN ?_
      refine Jc.ret ?_
      exact Jq.fin (A8, c8) (.inl rfl) rfl (RetVs.cellA rfl (by repeat (first | exact Has.here | apply Has.there)) tsh24 (by rfl) RetVs.nil) rfl (by repeat (first | exact Take.nil | apply Take.cons (by repeat (first | exact Del.here | apply Del.there)))) (by repeat (first | exact trivial | refine And.intro (by repeat (first | exact Mem.here | apply Mem.there)) ?_))
theorem evfalls_ct (e : Ev) : Ct Tryd.prog 14 [e.v] [] [] (fun _ : Unit => .bool (falls e)) (fun _ => []) (fun _ => []) := by
  have h1 : ∀ k : UInt8, decide (((e.k.toNat : Nat) : Int) = ((k.toNat : Nat) : Int)) = decide (e.k = k) := fun k => decide_eq_decide.2 ⟨fun h => UInt8.toNat_inj.1 (by omega), fun h => by rw [h]⟩
  refine Ct.of _ Tryd.func14 Tryd.ntmps14 rfl rfl (fun X W => ?_)
  refine Jc.seq ?_
  refine Jc.region ?_
  refine Jl.box rfl (by rfl) ?_
  intro b1
  refine Jl.pv (PR.assign rfl) ?_
  refine Jl.nil ?_
  refine Jq.thenN ?_
  refine Jc.seq ?_
  refine Jc.region ?_
  refine Jl.pv (PR.fieldAddr rfl tfl26_0) ?_
  refine Jl.pv (PR.load1 rfl tsh5 (by repeat (first | exact Has.here | apply Has.there)) (by rfl)) ?_
  refine Jl.pv (PR.eql (decide (e.k = 1)) rfl rfl (h1 1)) ?_
  refine Jl.pv (PR.move rfl) ?_
  refine Jl.bsplit (fun g6 => ?_) (fun g6 => ?_)
  · try replace g6 := of_decide_eq_true g6
    refine Jl.offS rfl rfl rfl ?_
    refine Jl.offS rfl rfl rfl ?_
    refine Jl.offS rfl rfl rfl ?_
    refine Jl.pv (PR.pickT rfl rfl) ?_
    refine Jl.pv (PR.assign rfl) ?_
    refine Jl.nil ?_
    refine Jq.thenN ?_
    refine Jc.ret ?_
    exact Jq.fin () (.inl rfl) rfl (RetVs.tmp rfl RetVs.nil) (by simp_all [retval, falls]) (by repeat (first | exact Take.nil | apply Take.cons (by repeat (first | exact Del.here | apply Del.there)))) (by repeat (first | exact trivial | refine And.intro (by repeat (first | exact Mem.here | apply Mem.there)) ?_))
  · try replace g6 := of_decide_eq_false g6
    refine Jl.on rfl rfl ?_
    refine Jl.pv (PR.fieldAddr rfl tfl26_0) ?_
    refine Jl.on rfl rfl ?_
    refine Jl.pv (PR.load1 rfl tsh5 (by repeat (first | exact Has.here | apply Has.there)) (by rfl)) ?_
    refine Jl.on rfl rfl ?_
    refine Jl.pv (PR.eql (decide (e.k = 2)) rfl rfl (h1 2)) ?_
    refine Jl.pv (PR.pickF rfl rfl) ?_
    refine Jl.pv (PR.assign rfl) ?_
    refine Jl.nil ?_
    refine Jq.thenN ?_
    refine Jc.ret ?_
    exact Jq.fin () (.inl rfl) rfl (RetVs.tmp rfl RetVs.nil) (by simp_all [retval, falls]) (by repeat (first | exact Take.nil | apply Take.cons (by repeat (first | exact Del.here | apply Del.there)))) (by repeat (first | exact trivial | refine And.intro (by repeat (first | exact Mem.here | apply Mem.there)) ?_))
end Go.Proofs.YtakkoandmkomdaaDoor
