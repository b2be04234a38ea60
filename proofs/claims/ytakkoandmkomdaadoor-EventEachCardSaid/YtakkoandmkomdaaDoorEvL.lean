/-
The laws of events: wakes, EventTells, EventRight.
-/
import Derived.Test.YtakkoandmkomdaaDoorEvC
namespace Go.Proofs.YtakkoandmkomdaaDoor
set_option linter.unusedVariables false
open Go.RowKit
attribute [local irreducible] Res.blk Res.row Fact.rd Res.mapI
theorem Cl.Ok.wf {c : Cl} (h : c.Ok) : c.Wf := fun b hb => by
  obtain ⟨i, hi, rfl⟩ := List.mem_iff_getElem.1 hb
  have := okN_iff.1 (h.bs i hi).1.2.1
  exact wf64 (by omega) (by omega)
theorem Cl.Ok.n {c : Cl} (h : c.Ok) : c.bs.length ≤ 1000000 := by have := h.len; omega
theorem evdo_at {c d : Cl} {x : AdC} {e : Ev} (bm : Nat) (hw : c.Wf) (hn : c.bs.length ≤ 1000000) (h : doE c e = d) : Ct Tryd.prog 10 [c.v x, e.v] [] [.rd x.1 (bxsV c.bs), .happens bm] d.v (fun y => [d.row y]) (fun _ => []) := by
  subst h; exact evdo_ct c x e bm hw hn
theorem evall_at {c d : Cl} {x L : AdC} {l : List Ev} {n : Nat} (bm : Nat) (hw : c.Wf) (hn : c.bs.length ≤ 1000000) (hln : l.length = n) (hL : n ≤ L.2) (hl : n ≤ 1000000) (h : allE c l = d) : Ct Tryd.prog 12 [c.v x, .slice L.1 n L.2] [] [.rd x.1 (bxsV c.bs), .rd L.1 (evsV l), .happens bm] d.v (fun y => [d.row y]) (fun _ => []) := by
  subst h hln; exact evall_ct c x L l bm hw hn hL hl
theorem rsame_eq (a : Cl) (x y : AdC) (hn : a.bs.length ≤ 1000000) : Ct Tryd.prog 9 [a.v x, a.v y] [] [.rd x.1 (bxsV a.bs), .rd y.1 (bxsV a.bs)] (fun _ : Unit => .bool true) (fun _ => []) (fun _ => []) := by
  have h0 := rsame_ct a a x y hn
  rw [sameC_iff.2 rfl] at h0
  exact h0
def wk0 : Cl := ⟨[], 0, 0, 4, false⟩
def wk1 : Cl := ⟨[], 0, 0, 5, false⟩
def wk2 : Cl := ⟨[⟨1, 0, 7, 0, true, false, true, true, 0, 0, 0⟩], 0, 0, 5, false⟩
def wk3 : Cl := ⟨[⟨1, 0, 7, 0, true, true, false, true, 0, 0, 0⟩], 0, 0, 5, false⟩
theorem wk0_ok : wk0.Ok := ⟨by decide, by decide, by decide, by decide, fun i h => absurd h (Nat.not_lt_zero _)⟩
theorem wk0_do : doE wk0 ⟨5, 0, 0⟩ = wk1 := by rw [doE_ok wk0_ok]; rfl
theorem wk1_ok : wk1.Ok := ⟨by decide, by decide, by decide, by decide, fun i h => absurd h (Nat.not_lt_zero _)⟩
theorem wk1_do : doE wk1 ⟨3, 7, 1⟩ = wk3 := by rw [doE_ok wk1_ok]; rfl
theorem wk3_ok : wk3.Ok := wk1_do ▸ doE_Ok wk1_ok _
theorem wk1_all : allE wk1 [⟨3, 7, 1⟩, ⟨1, 1, 0⟩] = wk2 := by
  show doE (doE wk1 ⟨3, 7, 1⟩) ⟨1, 1, 0⟩ = wk2
  rw [wk1_do, doE_ok wk3_ok]; rfl
theorem evwakes_ct (bm : Nat) : Ct Tryd.prog 8 [] [] [.happens bm] (fun _ : Unit => .bool true) (fun _ => []) (fun _ => []) := by
  refine Ct.of _ Tryd.func8 Tryd.ntmps8 rfl rfl (fun X W => ?_)
  refine Jc.fact0 (.rd none (bxsV [])) (fun X W => Fact.rd_nil none X W) ?_
  refine Jc.seq ?_
  refine Jc.region ?_
  refine Jl.pv (PR.assign rfl) ?_
  refine Jl.nil ?_
  refine Jq.thenN ?_
  refine Jc.seq ?_
  refine Jc.region ?_
  refine Jl.pv (PR.build (by rfl) tze24 tpl24_3 (by rfl)) ?_
  refine Jl.pv (PR.build (by rfl) tze26 tpl26_0 (by rfl)) ?_
  refine Jl.call (evdo_at (c := wk0) (x := (none, 0)) (e := ⟨5, 0, 0⟩) bm wk0_ok.wf wk0_ok.n wk0_do) en10 (by rfl) (by repeat (first | exact Take.nil | apply Take.cons (by repeat (first | exact Del.here | apply Del.there)))) (by repeat (first | exact trivial | refine And.intro (by repeat (first | exact Mem.here | apply Mem.there)) ?_)) ?_
  rintro ⟨A5, c5⟩
  refine Jl.sealR (by repeat (first | exact Del.here | apply Del.there)) ?_
  refine Jl.alloc tze24 ?_
  intro b1
  refine Jl.storeW rfl tsh24 rfl (by rfl) (by first | exact Cl.cs_one _ _ | simp [Value.oneCell']) (by repeat (first | exact Swap.here | apply Swap.there)) (by rfl) ?_
  refine Jl.nil ?_
  refine Jq.thenN ?_
  refine Jc.seq ?_
  refine Jc.region ?_
  refine Jl.pv (PR.loadW rfl tsh24 (by repeat (first | exact Has.here | apply Has.there)) (by rfl)) ?_
  refine Jl.pv (PR.build (by rfl) tze26 tpl26_0_1_2 (by rfl)) ?_
  refine Jl.pv (PR.build (by rfl) tze26 tpl26_0_1 (by rfl)) ?_
  refine Jl.buildSlice (by rfl) tsl27 tzr27_2 (by rfl) (by rfl) ?_
  intro b9
  refine Jl.seal (by repeat (first | exact Del.here | apply Del.there)) ?_
  refine Jl.call (evall_at (c := wk1) (x := (A5, c5)) (L := (some ⟨b9, 0, none⟩, 2)) (l := [⟨3, 7, 1⟩, ⟨1, 1, 0⟩]) bm wk1_ok.wf wk1_ok.n rfl (Nat.le_refl _) (by decide) wk1_all) en12 (by rfl) (by repeat (first | exact Take.nil | apply Take.cons (by repeat (first | exact Del.here | apply Del.there)))) (by repeat (first | exact trivial | refine And.intro (by repeat (first | exact Mem.here | apply Mem.there)) ?_)) ?_
  rintro ⟨A10, c10⟩
  refine Jl.sealR (by repeat (first | exact Del.here | apply Del.there)) ?_
  refine Jl.alloc tze24 ?_
  intro b2
  refine Jl.storeW rfl tsh24 rfl (by rfl) (by first | exact Cl.cs_one _ _ | simp [Value.oneCell']) (by repeat (first | exact Swap.here | apply Swap.there)) (by rfl) ?_
  refine Jl.nil ?_
  refine Jq.thenN ?_
  refine Jc.seq ?_
  refine Jc.region ?_
  refine Jl.pv (PR.fieldAddr rfl tfl24_3) ?_
  refine Jl.pv (PR.load1 rfl tsh3 (by repeat (first | exact Has.here | apply Has.there)) (by rfl)) ?_
  refine Jl.pv (PR.eql true rfl rfl (by decide)) ?_
  refine Jl.pv (PR.move rfl) ?_
  refine Jl.on rfl rfl ?_
  refine Jl.pv (PR.fieldAddr rfl tfl24_0) ?_
  refine Jl.on rfl rfl ?_
  refine Jl.pv (PR.load1 rfl tsh22 (by repeat (first | exact Has.here | apply Has.there)) (by rfl)) ?_
  refine Jl.on rfl rfl ?_
  refine Jl.pv (PR.len rfl tsl22) ?_
  refine Jl.on rfl rfl ?_
  refine Jl.pv (PR.eql true rfl rfl (by decide)) ?_
  refine Jl.pv (PR.pickT rfl rfl) ?_
  refine Jl.pv (PR.move rfl) ?_
  refine Jl.on rfl rfl ?_
  refine Jl.pv (PR.fieldAddr rfl tfl24_0) ?_
  refine Jl.on rfl rfl ?_
  refine Jl.pv (PR.load1 rfl tsh22 (by repeat (first | exact Has.here | apply Has.there)) (by rfl)) ?_
  refine Jl.on rfl rfl ?_
  refine Jl.pv (PR.idx 0 rfl rfl tsl22 (by repeat (first | exact Mem.here | apply Mem.there)) (bxsV_len _) (by decide) rfl (by decide)) ?_
  refine Jl.on rfl rfl ?_
  refine Jl.pv (PR.fieldAddrR rfl tfl36_6 (by repeat (first | exact Mem.here | apply Mem.there)) (by decide)) ?_
  refine Jl.on rfl rfl ?_
  refine Jl.pv (PR.loadR rfl tsh4 (by repeat (first | exact Mem.here | apply Mem.there)) (bxs_f (l := wk2.bs) (k := 0) (by decide) 6 rfl)) ?_
  refine Jl.as (.bool true) (congrArg Value.bool rfl) ?_
  refine Jl.pv (PR.pickT rfl rfl) ?_
  refine Jl.pv (PR.move rfl) ?_
  refine Jl.on rfl rfl ?_
  refine Jl.pv (PR.fieldAddr rfl tfl24_0) ?_
  refine Jl.on rfl rfl ?_
  refine Jl.pv (PR.load1 rfl tsh22 (by repeat (first | exact Has.here | apply Has.there)) (by rfl)) ?_
  refine Jl.on rfl rfl ?_
  refine Jl.pv (PR.idx 0 rfl rfl tsl22 (by repeat (first | exact Mem.here | apply Mem.there)) (bxsV_len _) (by decide) rfl (by decide)) ?_
  refine Jl.on rfl rfl ?_
  refine Jl.pv (PR.fieldAddrR rfl tfl36_4 (by repeat (first | exact Mem.here | apply Mem.there)) (by decide)) ?_
  refine Jl.on rfl rfl ?_
  refine Jl.pv (PR.loadR rfl tsh4 (by repeat (first | exact Mem.here | apply Mem.there)) (bxs_f (l := wk2.bs) (k := 0) (by decide) 4 rfl)) ?_
  refine Jl.as (.bool true) (congrArg Value.bool rfl) ?_
  refine Jl.pv (PR.pickT rfl rfl) ?_
  refine Jl.pv (PR.move rfl) ?_
  refine Jl.on rfl rfl ?_
  refine Jl.pv (PR.fieldAddr rfl tfl24_0) ?_
  refine Jl.on rfl rfl ?_
  refine Jl.pv (PR.load1 rfl tsh22 (by repeat (first | exact Has.here | apply Has.there)) (by rfl)) ?_
  refine Jl.on rfl rfl ?_
  refine Jl.pv (PR.idx 0 rfl rfl tsl22 (by repeat (first | exact Mem.here | apply Mem.there)) (bxsV_len _) (by decide) rfl (by decide)) ?_
  refine Jl.on rfl rfl ?_
  refine Jl.pv (PR.fieldAddrR rfl tfl36_2 (by repeat (first | exact Mem.here | apply Mem.there)) (by decide)) ?_
  refine Jl.on rfl rfl ?_
  refine Jl.pv (PR.loadR rfl tsh3 (by repeat (first | exact Mem.here | apply Mem.there)) (bxs_f (l := wk2.bs) (k := 0) (by decide) 2 rfl)) ?_
  refine Jl.on rfl rfl ?_
  refine Jl.pv (PR.eql true rfl rfl (by decide)) ?_
  refine Jl.pv (PR.pickT rfl rfl) ?_
  refine Jl.pv (PR.move rfl) ?_
  refine Jl.on rfl rfl ?_
  refine Jl.pv (PR.build (by rfl) tze26 tpl26_0 (by rfl)) ?_
  refine Jl.on rfl rfl ?_
  refine Jl.call (evfalls_ct ⟨1, 0, 0⟩) en14 (by rfl) (by repeat (first | exact Take.nil | apply Take.cons (by repeat (first | exact Del.here | apply Del.there)))) (by repeat (first | exact trivial | refine And.intro (by repeat (first | exact Mem.here | apply Mem.there)) ?_)) ?_
  rintro ⟨⟩
  refine Jl.as (.bool true) (congrArg Value.bool rfl) ?_
  refine Jl.pv (PR.pickT rfl rfl) ?_
  refine Jl.pv (PR.move rfl) ?_
  refine Jl.on rfl rfl ?_
  refine Jl.pv (PR.build (by rfl) tze26 tpl26_0 (by rfl)) ?_
  refine Jl.on rfl rfl ?_
  refine Jl.call (evfalls_ct ⟨5, 0, 0⟩) en14 (by rfl) (by repeat (first | exact Take.nil | apply Take.cons (by repeat (first | exact Del.here | apply Del.there)))) (by repeat (first | exact trivial | refine And.intro (by repeat (first | exact Mem.here | apply Mem.there)) ?_)) ?_
  rintro ⟨⟩
  refine Jl.as (.bool false) (congrArg Value.bool rfl) ?_
  refine Jl.on rfl rfl ?_
  refine Jl.pv (PR.not rfl) ?_
  refine Jl.pv (PR.pickT rfl rfl) ?_
  refine Jl.pv (PR.assign rfl) ?_
  refine Jl.nil ?_
  refine Jq.thenN ?_
  refine Jc.ret ?_
  exact Jq.fin () (.inl rfl) rfl (RetVs.tmp rfl RetVs.nil) rfl (by repeat (first | exact Take.nil | apply Take.cons (by repeat (first | exact Del.here | apply Del.there)))) (by repeat (first | exact trivial | refine And.intro (by repeat (first | exact Mem.here | apply Mem.there)) ?_))
theorem eventTells_ct (c : Cl) (x L : AdC) (e : Ev) (l : List Ev) (bm : Nat) (hw : c.Wf) (hL : l.length ≤ L.2) : Ct Tryd.prog 3 [c.v x, e.v, .slice L.1 l.length L.2] [] [.rd x.1 (bxsV c.bs), .rd L.1 (evsV l), .happens bm] (fun _ : Unit => .bool true) (fun _ => []) (fun _ => []) := by
  refine Ct.of _ Tryd.func3 Tryd.ntmps3 rfl rfl (fun X W => ?_)
  refine Jc.seq ?_
  refine Jc.region ?_
  refine Jl.box rfl (by rfl) ?_
  intro b3
  refine Jl.box rfl (by rfl) ?_
  intro b4
  refine Jl.pv (PR.assign rfl) ?_
  refine Jl.nil ?_
  refine Jq.thenN ?_
  refine Jc.seq ?_
  refine Jc.seq ?_
  refine Jc.region ?_
  refine Jl.pv (PR.fieldAddr rfl tfl24_0) ?_
  refine Jl.pv (PR.load1 rfl tsh22 (by repeat (first | exact Has.here | apply Has.there)) (by rfl)) ?_
  refine Jl.pv (PR.len rfl tsl22) ?_
  refine Jl.pv (PR.gtr _ rfl rfl rfl) ?_
  refine Jl.pv (PR.move rfl) ?_
  refine Jl.bsplit (fun g11 => ?_) (fun g11 => ?_)
  · try replace g11 := of_decide_eq_true g11
    refine Jl.offS rfl rfl rfl ?_
    refine Jl.offS rfl rfl rfl ?_
    refine Jl.offS rfl rfl rfl ?_
    refine Jl.pv (PR.pickT rfl rfl) ?_
    refine Jl.nil ?_
    refine Jq.thenN ?_
    refine Jc.condT rfl ?_
    refine Jc.seq ?_
    refine Jc.region ?_
    refine Jl.call (evwakes_ct bm) en8 (by rfl) (by repeat (first | exact Take.nil | apply Take.cons (by repeat (first | exact Del.here | apply Del.there)))) (by repeat (first | exact trivial | refine And.intro (by repeat (first | exact Mem.here | apply Mem.there)) ?_)) ?_
    rintro ⟨⟩
    refine Jl.pv (PR.assign rfl) ?_
    refine Jl.nil ?_
    refine Jq.thenN ?_
    refine Jc.ret ?_
    refine Jq.thenR ?_
    exact Jq.fin () (.inl rfl) rfl (RetVs.tmp rfl RetVs.nil) rfl (by repeat (first | exact Take.nil | apply Take.cons (by repeat (first | exact Del.here | apply Del.there)))) (by repeat (first | exact trivial | refine And.intro (by repeat (first | exact Mem.here | apply Mem.there)) ?_))
  · try replace g11 := of_decide_eq_false g11
    refine Jl.on rfl rfl ?_
    refine Jl.pv (PR.move rfl) ?_
    refine Jl.on rfl rfl ?_
    refine Jl.pv (PR.len rfl tsl27) ?_
    refine Jl.on rfl rfl ?_
    refine Jl.pv (PR.gtr _ rfl rfl rfl) ?_
    refine Jl.pv (PR.pickF rfl rfl) ?_
    refine Jl.nil ?_
    refine Jq.thenN ?_
    refine Jc.cond rfl (fun h0 => ?_) (fun h0 => ?_)
    · try replace h0 := of_decide_eq_true h0
      refine Jc.seq ?_
      refine Jc.region ?_
      refine Jl.call (evwakes_ct bm) en8 (by rfl) (by repeat (first | exact Take.nil | apply Take.cons (by repeat (first | exact Del.here | apply Del.there)))) (by repeat (first | exact trivial | refine And.intro (by repeat (first | exact Mem.here | apply Mem.there)) ?_)) ?_
      rintro ⟨⟩
      refine Jl.pv (PR.assign rfl) ?_
      refine Jl.nil ?_
      refine Jq.thenN ?_
      refine Jc.ret ?_
      refine Jq.thenR ?_
      exact Jq.fin () (.inl rfl) rfl (RetVs.tmp rfl RetVs.nil) rfl (by repeat (first | exact Take.nil | apply Take.cons (by repeat (first | exact Del.here | apply Del.there)))) (by repeat (first | exact trivial | refine And.intro (by repeat (first | exact Mem.here | apply Mem.there)) ?_))
    · try replace h0 := of_decide_eq_false h0
      have hn : c.bs.length ≤ 1000000 := by omega
      have hl : l.length ≤ 1000000 := by omega
      refine Jc.skip ?_
      refine Jq.thenN ?_
      refine Jc.seq ?_
      refine Jc.drawn [0, 0, 3, 0, 0, 31, 63, 127, 255, 255, 1023, 255, 255, 8191, 16383, 32767, 65535, 131071, 262143, 131071, 1048575, 2097151, 4194303, 8388607, 16777215, 33554431, 67108863] ([(25, false), (26, false)], []) [⟨[(0, false), (1, false), (3, false), (4, false)], [], 2⟩, ⟨[], [], 5⟩, ⟨[], [], 6⟩, ⟨[(7, false), (8, false), (9, false), (11, false), (12, false)], [], 10⟩, ⟨[], [], 13⟩, ⟨[], [], 14⟩, ⟨[(15, false), (16, false), (17, false), (19, false)], [], 18⟩, ⟨[], [], 20⟩, ⟨[(21, false), (22, false), (23, false)], [], 24⟩] tmx (by kernel_rfl) ?_
      refine Dh.JH.cons ?_
      refine Dh.JB.rd [.blk _ _ _] rfl trivial (by repeat (first | exact Take.nil | apply Take.cons (by repeat (first | exact Del.here | apply Del.there)))) (fun _ => PR.loadW rfl tsh24 Has.here (by rfl)) ?_
      refine Dh.JB.rd [.blk _ _ _] rfl trivial (by repeat (first | exact Take.nil | apply Take.cons (by repeat (first | exact Del.here | apply Del.there)))) (fun _ => PR.loadW rfl tsh26 Has.here (by rfl)) ?_
      refine Dh.JB.rd [.blk _ _ _] rfl trivial (by repeat (first | exact Take.nil | apply Take.cons (by repeat (first | exact Del.here | apply Del.there)))) (fun _ => PR.loadW rfl tsh24 Has.here (by rfl)) ?_
      refine Dh.JB.rd [.blk _ _ _] rfl trivial (by repeat (first | exact Take.nil | apply Take.cons (by repeat (first | exact Del.here | apply Del.there)))) (fun _ => PR.loadW rfl tsh26 Has.here (by rfl)) ?_
      refine Dh.JB.nil ?_
      refine Dh.JL.nil ?_
      refine Dh.JE.mk rfl (fun _ h => by cases h) (fun C3_2 => ?_)
      refine Jl.call (evdo_ct c x e bm hw hn) en10 (by rfl) (by repeat (first | exact Take.nil | apply Take.cons (by repeat (first | exact Del.here | apply Del.there)))) (by repeat (first | exact trivial | refine And.intro (by repeat (first | exact Mem.here | apply Mem.there)) ?_)) ?_
      rintro ⟨A19, c19⟩
      refine Jl.sealR (by repeat (first | exact Del.here | apply Del.there)) ?_
      refine Jl.nil ?_
      refine Dh.Jq.segV (by repeat (first | exact Dh.FExt.refl | apply Dh.FExt.cons | apply Dh.FExt.app)) ?_ (by repeat (first | exact Dh.KeepL.nil | apply Dh.KeepL.anc (by rfl) | apply Dh.KeepL.keep (by repeat (first | exact Take.nil | apply Take.cons (by repeat (first | exact Del.here | apply Del.there))))))
      refine Dh.JH.cons ?_
      refine Dh.JB.nil ?_
      refine Dh.JL.nil ?_
      refine Dh.JE.mk rfl (fun _ h => by cases h) (fun C3_5 => ?_)
      refine Jl.call (revdo_ct c x e hn) en11 (by rfl) (by repeat (first | exact Take.nil | apply Take.cons (by repeat (first | exact Del.here | apply Del.there)))) (by repeat (first | exact trivial | refine And.intro (by repeat (first | exact Mem.here | apply Mem.there)) ?_)) ?_
      rintro ⟨A22, c22⟩
      refine Jl.sealR (by repeat (first | exact Del.here | apply Del.there)) ?_
      refine Jl.nil ?_
      refine Dh.Jq.segV (by repeat (first | exact Dh.FExt.refl | apply Dh.FExt.cons | apply Dh.FExt.app)) ?_ (by repeat (first | exact Dh.KeepL.nil | apply Dh.KeepL.anc (by rfl) | apply Dh.KeepL.keep (by repeat (first | exact Take.nil | apply Take.cons (by repeat (first | exact Del.here | apply Del.there))))))
      refine Dh.JH.cons ?_
      refine Dh.JB.nil ?_
      refine Dh.JL.nil ?_
      refine Dh.JE.mk rfl (fun _ h => by cases h) (fun C3_6 => ?_)
      refine Jl.call (rsame_eq (doE c e) (A19, c19) (A22, c22) (doE_len e hn (by omega))) en9 (by rfl) (by repeat (first | exact Take.nil | apply Take.cons (by repeat (first | exact Del.here | apply Del.there)))) (by repeat (first | exact trivial | refine And.intro (by repeat (first | exact Mem.here | apply Mem.there)) ?_)) ?_
      rintro ⟨⟩
      refine Jl.as (.bool true) (congrArg Value.bool rfl) ?_
      refine Jl.nil ?_
      refine Dh.Jq.segV (by repeat (first | exact Dh.FExt.refl | apply Dh.FExt.cons | apply Dh.FExt.app)) ?_ (by repeat (first | exact Dh.KeepL.nil | apply Dh.KeepL.anc (by rfl) | apply Dh.KeepL.keep (by repeat (first | exact Take.nil | apply Take.cons (by repeat (first | exact Del.here | apply Del.there))))))
      refine Dh.JH.cons ?_
      refine Dh.JB.pv rfl trivial (fun _ => PR.move rfl) ?_
      refine Dh.JB.rd [.blk _ _ _] rfl ⟨_, rfl, rfl⟩ (by repeat (first | exact Take.nil | apply Take.cons (by repeat (first | exact Del.here | apply Del.there)))) (fun _ => PR.loadW rfl tsh24 Has.here (by rfl)) ?_
      refine Dh.JB.pv rfl ⟨_, rfl, rfl⟩ (fun _ => PR.move rfl) ?_
      refine Dh.JB.rd [.blk _ _ _] rfl ⟨_, rfl, rfl⟩ (by repeat (first | exact Take.nil | apply Take.cons (by repeat (first | exact Del.here | apply Del.there)))) (fun _ => PR.loadW rfl tsh24 Has.here (by rfl)) ?_
      refine Dh.JB.pv rfl ⟨_, rfl, rfl⟩ (fun _ => PR.move rfl) ?_
      refine Dh.JB.nil ?_
      refine Dh.JL.nil ?_
      refine Dh.JE.mk rfl (fun _ h => by cases h) (fun C3_10 => ?_)
      refine Jl.on rfl rfl ?_
      refine Jl.call (evall_ct c x L l bm hw hn hL hl) en12 (by rfl) (by repeat (first | exact Take.nil | apply Take.cons (by repeat (first | exact Del.here | apply Del.there)))) (by repeat (first | exact trivial | refine And.intro (by repeat (first | exact Mem.here | apply Mem.there)) ?_)) ?_
      rintro ⟨A27, c27⟩
      refine Jl.sealR (by repeat (first | exact Del.here | apply Del.there)) ?_
      refine Jl.nil ?_
      refine Dh.Jq.segV (by repeat (first | exact Dh.FExt.refl | apply Dh.FExt.cons | apply Dh.FExt.app)) ?_ (by repeat (first | exact Dh.KeepL.nil | apply Dh.KeepL.anc (by rfl) | apply Dh.KeepL.keep (by repeat (first | exact Take.nil | apply Take.cons (by repeat (first | exact Del.here | apply Del.there))))))
      refine Dh.JH.cons ?_
      refine Dh.JB.nil ?_
      refine Dh.JL.nil ?_
      refine Dh.JE.mk rfl (fun _ h => by cases h) (fun C3_13 => ?_)
      refine Jl.on rfl rfl ?_
      refine Jl.call (revall_ct c x L l hn hl) en13 (by rfl) (by repeat (first | exact Take.nil | apply Take.cons (by repeat (first | exact Del.here | apply Del.there)))) (by repeat (first | exact trivial | refine And.intro (by repeat (first | exact Mem.here | apply Mem.there)) ?_)) ?_
      rintro ⟨A30, c30⟩
      refine Jl.sealR (by repeat (first | exact Del.here | apply Del.there)) ?_
      refine Jl.nil ?_
      refine Dh.Jq.segV (by repeat (first | exact Dh.FExt.refl | apply Dh.FExt.cons | apply Dh.FExt.app)) ?_ (by repeat (first | exact Dh.KeepL.nil | apply Dh.KeepL.anc (by rfl) | apply Dh.KeepL.keep (by repeat (first | exact Take.nil | apply Take.cons (by repeat (first | exact Del.here | apply Del.there))))))
      refine Dh.JH.cons ?_
      refine Dh.JB.nil ?_
      refine Dh.JL.nil ?_
      refine Dh.JE.mk rfl (fun _ h => by cases h) (fun C3_14 => ?_)
      refine Jl.on rfl rfl ?_
      refine Jl.call (rsame_eq (allE c l) (A27, c27) (A30, c30) (allE_len l hn (by omega))) en9 (by rfl) (by repeat (first | exact Take.nil | apply Take.cons (by repeat (first | exact Del.here | apply Del.there)))) (by repeat (first | exact trivial | refine And.intro (by repeat (first | exact Mem.here | apply Mem.there)) ?_)) ?_
      rintro ⟨⟩
      refine Jl.as (.bool true) (congrArg Value.bool rfl) ?_
      refine Jl.nil ?_
      refine Dh.Jq.segV (by repeat (first | exact Dh.FExt.refl | apply Dh.FExt.cons | apply Dh.FExt.app)) ?_ (by repeat (first | exact Dh.KeepL.nil | apply Dh.KeepL.anc (by rfl) | apply Dh.KeepL.keep (by repeat (first | exact Take.nil | apply Take.cons (by repeat (first | exact Del.here | apply Del.there))))))
      refine Dh.JH.cons ?_
      refine Dh.JB.pv rfl trivial (fun _ => PR.pickT rfl rfl) ?_
      refine Dh.JB.pv rfl trivial (fun _ => PR.move rfl) ?_
      refine Dh.JB.rd [.blk _ _ _] rfl ⟨_, rfl, rfl⟩ (by repeat (first | exact Take.nil | apply Take.cons (by repeat (first | exact Del.here | apply Del.there)))) (fun _ => PR.loadW rfl tsh26 Has.here (by rfl)) ?_
      refine Dh.JB.rd [.blk _ _ _] rfl ⟨_, rfl, rfl⟩ (by repeat (first | exact Take.nil | apply Take.cons (by repeat (first | exact Del.here | apply Del.there)))) (fun _ => PR.loadW rfl tsh26 Has.here (by rfl)) ?_
      refine Dh.JB.nil ?_
      refine Dh.JL.nil ?_
      refine Dh.JE.mk rfl (fun _ h => by cases h) (fun C3_18 => ?_)
      refine Jl.on rfl rfl ?_
      refine Jl.call (evfalls_ct e) en14 (by rfl) (by repeat (first | exact Take.nil | apply Take.cons (by repeat (first | exact Del.here | apply Del.there)))) (by repeat (first | exact trivial | refine And.intro (by repeat (first | exact Mem.here | apply Mem.there)) ?_)) ?_
      rintro ⟨⟩
      refine Jl.nil ?_
      refine Dh.Jq.segV (by repeat (first | exact Dh.FExt.refl | apply Dh.FExt.cons | apply Dh.FExt.app)) ?_ (by repeat (first | exact Dh.KeepL.nil | apply Dh.KeepL.anc (by rfl) | apply Dh.KeepL.keep (by repeat (first | exact Take.nil | apply Take.cons (by repeat (first | exact Del.here | apply Del.there))))))
      refine Dh.JH.cons ?_
      refine Dh.JB.nil ?_
      refine Dh.JL.nil ?_
      refine Dh.JE.mk rfl (fun _ h => by cases h) (fun C3_20 => ?_)
      refine Jl.on rfl rfl ?_
      refine Jl.call (revfalls_ct e) en15 (by rfl) (by repeat (first | exact Take.nil | apply Take.cons (by repeat (first | exact Del.here | apply Del.there)))) (by repeat (first | exact trivial | refine And.intro (by repeat (first | exact Mem.here | apply Mem.there)) ?_)) ?_
      rintro ⟨⟩
      refine Jl.nil ?_
      refine Dh.Jq.segV (by repeat (first | exact Dh.FExt.refl | apply Dh.FExt.cons | apply Dh.FExt.app)) ?_ (by repeat (first | exact Dh.KeepL.nil | apply Dh.KeepL.anc (by rfl) | apply Dh.KeepL.keep (by repeat (first | exact Take.nil | apply Take.cons (by repeat (first | exact Del.here | apply Del.there))))))
      refine Dh.JH.cons ?_
      refine Dh.JB.pv rfl ⟨_, rfl, rfl⟩ (fun _ => PR.beql true Tryd.underlying4 rfl rfl (by simp)) ?_
      refine Dh.JB.pv rfl trivial (fun _ => PR.pickT rfl rfl) ?_
      refine Dh.JB.pv rfl trivial (fun _ => PR.move rfl) ?_
      refine Dh.JB.nil ?_
      refine Dh.JL.nil ?_
      refine Dh.JE.mk rfl (fun _ h => by cases h) (fun C3_24 => ?_)
      refine Jl.on rfl rfl ?_
      refine Jl.call (evwakes_ct bm) en8 (by rfl) (by repeat (first | exact Take.nil | apply Take.cons (by repeat (first | exact Del.here | apply Del.there)))) (by repeat (first | exact trivial | refine And.intro (by repeat (first | exact Mem.here | apply Mem.there)) ?_)) ?_
      rintro ⟨⟩
      refine Jl.nil ?_
      refine Dh.Jq.segV (by repeat (first | exact Dh.FExt.refl | apply Dh.FExt.cons | apply Dh.FExt.app)) ?_ (by repeat (first | exact Dh.KeepL.nil | apply Dh.KeepL.anc (by rfl) | apply Dh.KeepL.keep (by repeat (first | exact Take.nil | apply Take.cons (by repeat (first | exact Del.here | apply Del.there))))))
      refine Dh.JH.nil ?_
      refine Dh.JB.pv rfl trivial (fun _ => PR.pickT rfl rfl) ?_
      refine Dh.JB.pv rfl trivial (fun _ => PR.assign rfl) ?_
      refine Dh.JB.nil ?_
      refine Dh.JL.nil ?_
      refine Jq.thenN ?_
      refine Jc.ret ?_
      exact Jq.fin () (.inl rfl) rfl (RetVs.tmp rfl RetVs.nil) rfl (by repeat (first | exact Take.nil | apply Take.cons (by repeat (first | exact Del.here | apply Del.there)))) (by repeat (first | exact trivial | refine And.intro (by repeat (first | exact Mem.here | apply Mem.there)) ?_))
  -- hint not used: one
theorem eventRight_ct (c : Cl) (x L : AdC) (l : List Ev) (bm : Nat) : Ct Tryd.prog 4 [c.v x, .slice L.1 l.length L.2] [] [.rd x.1 (bxsV c.bs), .rd L.1 (evsV l), .happens bm] (fun _ : Unit => .bool true) (fun _ => []) (fun _ => []) := by
  obtain ⟨B, cB⟩ := L
  refine Ct.of _ Tryd.func4 Tryd.ntmps4 rfl rfl (fun X W => ?_)
  refine Jc.seq ?_
  refine Jc.region ?_
  refine Jl.box rfl (by rfl) ?_
  intro b2
  refine Jl.pv (PR.assign rfl) ?_
  refine Jl.nil ?_
  refine Jq.thenN ?_
  refine Jc.seq ?_
  refine Jc.seq ?_
  refine Jc.region ?_
  refine Jl.pv (PR.move rfl) ?_
  refine Jl.pv (PR.len rfl tsl27) ?_
  refine Jl.pv (PR.gtr _ rfl rfl rfl) ?_
  refine Jl.pv (PR.move rfl) ?_
  refine Jl.bsplit (fun g14 => ?_) (fun g14 => ?_)
  · try replace g14 := of_decide_eq_true g14
    refine Jl.offS rfl rfl rfl ?_
    refine Jl.offS rfl rfl rfl ?_
    refine Jl.offS rfl rfl rfl ?_
    refine Jl.pv (PR.pickT rfl rfl) ?_
    refine Jl.nil ?_
    refine Jq.thenN ?_
    refine Jc.condT rfl ?_
    refine Jc.seq ?_
    refine Jc.region ?_
    refine Jl.call (evwakes_ct bm) en8 (by rfl) (by repeat (first | exact Take.nil | apply Take.cons (by repeat (first | exact Del.here | apply Del.there)))) (by repeat (first | exact trivial | refine And.intro (by repeat (first | exact Mem.here | apply Mem.there)) ?_)) ?_
    rintro ⟨⟩
    refine Jl.pv (PR.assign rfl) ?_
    refine Jl.nil ?_
    refine Jq.thenN ?_
    refine Jc.ret ?_
    refine Jq.thenR ?_
    exact Jq.fin () (.inl rfl) rfl (RetVs.tmp rfl RetVs.nil) rfl (by repeat (first | exact Take.nil | apply Take.cons (by repeat (first | exact Del.here | apply Del.there)))) (by repeat (first | exact trivial | refine And.intro (by repeat (first | exact Mem.here | apply Mem.there)) ?_))
  · try replace g14 := of_decide_eq_false g14
    refine Jl.on rfl rfl ?_
    refine Jl.pv (PR.loadW rfl tsh24 (by repeat (first | exact Has.here | apply Has.there)) (by rfl)) ?_
    refine Jl.on rfl rfl ?_
    refine Jl.call (rright'_ct c x) en16 (by rfl) (by repeat (first | exact Take.nil | apply Take.cons (by repeat (first | exact Del.here | apply Del.there)))) (by repeat (first | exact trivial | refine And.intro (by repeat (first | exact Mem.here | apply Mem.there)) ?_)) ?_
    rintro ⟨⟩
    refine Jl.on rfl rfl ?_
    refine Jl.pv (PR.not rfl) ?_
    refine Jl.pv (PR.pickF rfl rfl) ?_
    refine Jl.nil ?_
    refine Jq.thenN ?_
    refine Jc.cond rfl (fun h0 => ?_) (fun h0 => ?_)
    · try replace h0 := of_decide_eq_true h0
      refine Jc.seq ?_
      refine Jc.region ?_
      refine Jl.call (evwakes_ct bm) en8 (by rfl) (by repeat (first | exact Take.nil | apply Take.cons (by repeat (first | exact Del.here | apply Del.there)))) (by repeat (first | exact trivial | refine And.intro (by repeat (first | exact Mem.here | apply Mem.there)) ?_)) ?_
      rintro ⟨⟩
      refine Jl.pv (PR.assign rfl) ?_
      refine Jl.nil ?_
      refine Jq.thenN ?_
      refine Jc.ret ?_
      refine Jq.thenR ?_
      exact Jq.fin () (.inl rfl) rfl (RetVs.tmp rfl RetVs.nil) rfl (by repeat (first | exact Take.nil | apply Take.cons (by repeat (first | exact Del.here | apply Del.there)))) (by repeat (first | exact trivial | refine And.intro (by repeat (first | exact Mem.here | apply Mem.there)) ?_))
    · try replace h0 := of_decide_eq_false h0
      have hok : c.Ok := Cl.ok_iff.1 (not_false h0)
      refine Jc.skip ?_
      refine Jq.thenN ?_
      refine Jc.seq ?_
      refine Jc.seq ?_
      refine Jc.region ?_
      refine Jl.pv (PR.assign rfl) ?_
      refine Jl.nil ?_
      refine Jq.thenN ?_
      refine Jc.block ?_
      refine Jc.loop (σ := { s : Nat × Cl × AdC // s.1 ≤ l.length ∧ s.2.1.Ok }) (fun s => [(5, .int .i64 (s.1.1 : Int)), (1, .slice B l.length cB), (2, .pointer (some ⟨b2, 0, none⟩))]) (fun s => [.blk b2 24 (s.1.2.1.cs s.1.2.2)]) (fun s => [.rd s.1.2.2.1 (bxsV s.1.2.1.bs), .rd B (evsV l), .happens bm]) (fun s => l.length - s.1.1) ⟨(0, c, x), Nat.zero_le _, hok⟩ (by repeat (first | exact trivial | refine And.intro rfl ?_)) rfl (by repeat (first | exact trivial | refine And.intro (by repeat (first | exact Mem.here | apply Mem.there)) ?_)) ?_
      rintro ⟨⟨k, d, y⟩, hk, hdo⟩
      show Jc _ _ _ _ _ _ [(5, Value.int .i64 (k : Int)), (1, .slice B l.length cB), (2, .pointer (some ⟨b2, 0, none⟩))] [.blk b2 24 (d.cs y)] [.rd y.1 (bxsV d.bs), .rd B (evsV l), .happens bm]
      refine Jc.seq ?_
      refine Jc.seq ?_
      refine Jc.region ?_
      refine Jl.pv (PR.move rfl) ?_
      refine Jl.pv (PR.move rfl) ?_
      refine Jl.pv (PR.len rfl tsl27) ?_
      refine Jl.pv (PR.lss _ rfl rfl rfl) ?_
      refine Jl.nil ?_
      refine Jq.thenN ?_
      refine Jc.cond rfl (fun h1 => ?_) (fun h1 => ?_)
      · try replace h1 := of_decide_eq_true h1
        have hlt : k < l.length := by have : (k : Int) < l.length := h1; omega
        obtain ⟨e, he⟩ : ∃ e, l[k] = e := ⟨_, rfl⟩
        obtain ⟨d', hd'⟩ : ∃ d', happ d e = d' := ⟨_, rfl⟩
        have hdo' : d'.Ok := hd' ▸ happ_Ok hdo e
        have hlen := happ_len d e
        have hnow := happ_now d e
        have hbox := happ_box d e
        have hH := happ_H d e
        rw [hd'] at hlen hnow hH
        have hbox' : ∀ j, (hj : j < d.bs.length) → (hj' : j < d'.bs.length) → evBox e d.bs[j] d'.bs[j] := fun j hj hj' => by subst hd'; exact hbox j hj
        have hdn := hdo.len
        have hdn' := hdo'.len
        have hnw := okN_iff.1 hdo.now
        have hnw' := okN_iff.1 hdo'.now
        refine Jc.skip ?_
        refine Jq.thenN ?_
        refine Jc.seq ?_
        refine Jc.block ?_
        refine Jc.seq ?_
        refine Jc.drawn [0, 0, 0, 6, 14, 31, 0, 127] ([], []) [⟨[(0, false), (1, false), (2, false), (3, false), (4, false), (6, true)], [], 5⟩, ⟨[], [6], 7⟩] tmx (by kernel_rfl) ?_
        refine Dh.JH.cons ?_
        refine Dh.JB.rd [.blk _ _ _] rfl trivial (by repeat (first | exact Take.nil | apply Take.cons (by repeat (first | exact Del.here | apply Del.there)))) (fun _ => PR.loadW rfl tsh24 Has.here (by rfl)) ?_
        refine Dh.JB.pv rfl trivial (fun _ => PR.move rfl) ?_
        refine Dh.JB.pv rfl trivial (fun _ => PR.move rfl) ?_
        refine Dh.JB.pv rfl trivial (fun _ => PR.idx k rfl rfl tsl27 (by repeat (first | exact Mem.here | apply Mem.there)) (evsV_len _) (by omega) rfl hlt) ?_
        refine Dh.JB.pv rfl trivial (fun _ => PR.loadRA rfl tsh26 (by repeat (first | exact Mem.here | apply Mem.there)) (by decide) (by rw [evs_at hlt, he])) ?_
        refine Dh.JB.alloc rfl trivial tze24 ?_
        refine Dh.JB.nil ?_
        refine Dh.JL.nil ?_
        refine Dh.JE.mk rfl (fun _ h => by cases h) (fun C6_5 => ?_)
        refine Jl.call (evdo_at (c := d) (x := y) (e := e) bm hdo.wf hdo.n ((doE_ok hdo e).trans hd')) en10 (by rfl) (by repeat (first | exact Take.nil | apply Take.cons (by repeat (first | exact Del.here | apply Del.there)))) (by repeat (first | exact trivial | refine And.intro (by repeat (first | exact Mem.here | apply Mem.there)) ?_)) ?_
        rintro ⟨A31, c31⟩
        refine Jl.sealR (by repeat (first | exact Del.here | apply Del.there)) ?_
        refine Jl.nil ?_
        refine Dh.Jq.segV (by repeat (first | exact Dh.FExt.refl | apply Dh.FExt.cons | apply Dh.FExt.app)) ?_ (by repeat (first | exact Dh.KeepL.nil | apply Dh.KeepL.anc (by rfl) | apply Dh.KeepL.keep (by repeat (first | exact Take.nil | apply Take.cons (by repeat (first | exact Del.here | apply Del.there))))))
        refine Dh.JH.cons ?_
        refine Dh.JB.nil ?_
        refine Dh.JL.ptr rfl (by repeat (first | exact Dh.es_here | apply Dh.es_there)) (fun b6 => ?_)
        refine Dh.JL.nil ?_
        refine Dh.JE.mk rfl (fun _ h => by cases h) (fun C6_7 => ?_)
        refine Jl.storeW rfl tsh24 rfl (by rfl) (by first | exact Cl.cs_one _ _ | simp [Value.oneCell', Bx.cs]) (by repeat (first | exact Swap.here | apply Swap.there)) (by rfl) ?_
        refine Jl.nil ?_
        refine Dh.Jq.segN (by repeat (first | exact Dh.FExt.refl | apply Dh.FExt.cons | apply Dh.FExt.app)) ?_ (by repeat (first | exact Dh.KeepL.nil | apply Dh.KeepL.anc (by rfl) | apply Dh.KeepL.keep (by repeat (first | exact Take.nil | apply Take.cons (by repeat (first | exact Del.here | apply Del.there))))))
        refine Dh.JH.nil ?_
        refine Dh.JB.nil ?_
        refine Dh.JL.nil ?_
        refine Jq.thenN ?_
        refine Jc.seq ?_
        refine Jc.seq ?_
        refine Jc.region ?_
        refine Jl.pv (PR.loadW rfl tsh24 (by repeat (first | exact Has.here | apply Has.there)) (by rfl)) ?_
        refine Jl.call (rright_ct d' (A31, c31) hdo'.n) en16 (by rfl) (by repeat (first | exact Take.nil | apply Take.cons (by repeat (first | exact Del.here | apply Del.there)))) (by repeat (first | exact trivial | refine And.intro (by repeat (first | exact Mem.here | apply Mem.there)) ?_)) ?_
        rintro ⟨⟩
        refine Jl.as (.bool true) (congrArg Value.bool (Cl.ok_iff.2 hdo')) ?_
        refine Jl.pv (PR.not rfl) ?_
        refine Jl.pv (PR.move rfl) ?_
        refine Jl.on rfl rfl ?_
        refine Jl.pv (PR.fieldAddr rfl tfl24_0) ?_
        refine Jl.on rfl rfl ?_
        refine Jl.pv (PR.load1 rfl tsh22 (by repeat (first | exact Has.here | apply Has.there)) (by rfl)) ?_
        refine Jl.on rfl rfl ?_
        refine Jl.pv (PR.len rfl tsl22) ?_
        refine Jl.on rfl rfl ?_
        refine Jl.pv (PR.fieldAddr rfl tfl24_0) ?_
        refine Jl.on rfl rfl ?_
        refine Jl.pv (PR.load1 rfl tsh22 (by repeat (first | exact Has.here | apply Has.there)) (by rfl)) ?_
        refine Jl.on rfl rfl ?_
        refine Jl.pv (PR.len rfl tsl22) ?_
        refine Jl.on rfl rfl ?_
        refine Jl.pv (PR.lss false rfl rfl (by simp; omega)) ?_
        refine Jl.pv (PR.pickF rfl rfl) ?_
        refine Jl.pv (PR.move rfl) ?_
        refine Jl.on rfl rfl ?_
        refine Jl.pv (PR.fieldAddr rfl tfl24_0) ?_
        refine Jl.on rfl rfl ?_
        refine Jl.pv (PR.load1 rfl tsh22 (by repeat (first | exact Has.here | apply Has.there)) (by rfl)) ?_
        refine Jl.on rfl rfl ?_
        refine Jl.pv (PR.len rfl tsl22) ?_
        refine Jl.on rfl rfl ?_
        refine Jl.pv (PR.fieldAddr rfl tfl24_0) ?_
        refine Jl.on rfl rfl ?_
        refine Jl.pv (PR.load1 rfl tsh22 (by repeat (first | exact Has.here | apply Has.there)) (by rfl)) ?_
        refine Jl.on rfl rfl ?_
        refine Jl.pv (PR.len rfl tsl22) ?_
        refine Jl.on rfl rfl ?_
        refine Jl.pv (PR.add ((d.bs.length : Int) + 1) rfl rfl (w64 (by omega) (by omega))) ?_
        refine Jl.on rfl rfl ?_
        refine Jl.pv (PR.gtr false rfl rfl (by simp; omega)) ?_
        refine Jl.pv (PR.pickF rfl rfl) ?_
        refine Jl.pv (PR.move rfl) ?_
        refine Jl.on rfl rfl ?_
        refine Jl.pv (PR.fieldAddr rfl tfl24_3) ?_
        refine Jl.on rfl rfl ?_
        refine Jl.pv (PR.load1 rfl tsh3 (by repeat (first | exact Has.here | apply Has.there)) (by rfl)) ?_
        refine Jl.on rfl rfl ?_
        refine Jl.pv (PR.fieldAddr rfl tfl24_3) ?_
        refine Jl.on rfl rfl ?_
        refine Jl.pv (PR.load1 rfl tsh3 (by repeat (first | exact Has.here | apply Has.there)) (by rfl)) ?_
        refine Jl.on rfl rfl ?_
        refine Jl.pv (PR.lss false rfl rfl (by simp; omega)) ?_
        refine Jl.pv (PR.pickF rfl rfl) ?_
        refine Jl.pv (PR.move rfl) ?_
        refine Jl.on rfl rfl ?_
        refine Jl.pv (PR.fieldAddr rfl tfl24_3) ?_
        refine Jl.on rfl rfl ?_
        refine Jl.pv (PR.load1 rfl tsh3 (by repeat (first | exact Has.here | apply Has.there)) (by rfl)) ?_
        refine Jl.on rfl rfl ?_
        refine Jl.pv (PR.fieldAddr rfl tfl24_3) ?_
        refine Jl.on rfl rfl ?_
        refine Jl.pv (PR.load1 rfl tsh3 (by repeat (first | exact Has.here | apply Has.there)) (by rfl)) ?_
        refine Jl.on rfl rfl ?_
        refine Jl.pv (PR.add (d.now + 1) rfl rfl (w64 (by omega) (by omega))) ?_
        refine Jl.on rfl rfl ?_
        refine Jl.pv (PR.gtr false rfl rfl (by simp; omega)) ?_
        refine Jl.pv (PR.pickF rfl rfl) ?_
        refine Jl.nil ?_
        refine Jq.thenN ?_
        refine Jc.condF rfl ?_
        refine Jc.skip ?_
        refine Jq.thenN ?_
        refine Jc.seq ?_
        refine Jc.seq ?_
        refine Jc.region ?_
        refine Jl.pv (PR.assign rfl) ?_
        refine Jl.nil ?_
        refine Jq.thenN ?_
        refine Jc.block ?_
        refine Jc.loop (σ := { j : Nat // j ≤ d.bs.length }) (fun s => [(7, .int .i64 (s.1 : Int)), (5, .int .i64 (k : Int)), (1, .slice B l.length cB), (2, .pointer (some ⟨b2, 0, none⟩)), (6, .pointer (some ⟨b6, 0, none⟩))]) (fun _ => [.blk b6 24 (d'.cs (A31, c31)), .blk b2 24 (d.cs y)]) (fun _ => [.rd A31 (bxsV d'.bs), .rd y.1 (bxsV d.bs), .rd B (evsV l), .happens bm]) (fun s => d.bs.length - s.1) ⟨0, Nat.zero_le _⟩ (by repeat (first | exact trivial | refine And.intro rfl ?_)) rfl (by repeat (first | exact trivial | refine And.intro (by repeat (first | exact Mem.here | apply Mem.there)) ?_)) ?_
        rintro ⟨j, hj⟩
        show Jc _ _ _ _ _ _ [(7, Value.int .i64 (j : Int)), (5, .int .i64 (k : Int)), (1, .slice B l.length cB), (2, .pointer (some ⟨b2, 0, none⟩)), (6, .pointer (some ⟨b6, 0, none⟩))] [.blk b6 24 (d'.cs (A31, c31)), .blk b2 24 (d.cs y)] [.rd A31 (bxsV d'.bs), .rd y.1 (bxsV d.bs), .rd B (evsV l), .happens bm]
        refine Jc.seq ?_
        refine Jc.seq ?_
        refine Jc.region ?_
        refine Jl.pv (PR.move rfl) ?_
        refine Jl.pv (PR.fieldAddr rfl tfl24_0) ?_
        refine Jl.pv (PR.load1 rfl tsh22 (by repeat (first | exact Has.here | apply Has.there)) (by rfl)) ?_
        refine Jl.pv (PR.len rfl tsl22) ?_
        refine Jl.pv (PR.lss _ rfl rfl rfl) ?_
        refine Jl.nil ?_
        refine Jq.thenN ?_
        refine Jc.cond rfl (fun h2 => ?_) (fun h2 => ?_)
        · try replace h2 := of_decide_eq_true h2
          have hjl : j < d.bs.length := by omega
          have hjl' : j < d'.bs.length := by omega
          obtain ⟨q1, q2, q3, q4, q5, q6, q7⟩ := hbox' j hjl hjl'
          refine Jc.skip ?_
          refine Jq.thenN ?_
          refine Jc.seq ?_
          refine Jc.block ?_
          refine Jc.seq ?_
          refine Jc.drawn [0, 1, 0, 7, 15, 0, 32, 0, 224, 480, 0, 0, 3103, 8191] ([], []) [⟨[(0, false), (1, false), (2, false), (3, false), (4, false), (5, false), (6, false), (7, false), (8, false), (9, false), (10, true), (11, true)], [10, 11], 12⟩, ⟨[], [], 13⟩] tmx (by kernel_rfl) ?_
          refine Dh.JH.cons ?_
          refine Dh.JB.pv rfl trivial (fun _ => PR.fieldAddr rfl tfl24_0) ?_
          refine Dh.JB.rd [.blk _ _ _] rfl trivial (by repeat (first | exact Take.nil | apply Take.cons (by repeat (first | exact Del.here | apply Del.there)))) (fun _ => PR.load1 rfl tsh22 Has.here (by rfl)) ?_
          refine Dh.JB.pv rfl trivial (fun _ => PR.move rfl) ?_
          refine Dh.JB.pv rfl trivial (fun _ => PR.idx j rfl rfl tsl22 (by repeat (first | exact Mem.here | apply Mem.there)) (bxsV_len _) (by omega) rfl hjl) ?_
          refine Dh.JB.pv rfl trivial (fun _ => PR.loadRA rfl tsh36 (by repeat (first | exact Mem.here | apply Mem.there)) (by decide) (bxs_at hjl)) ?_
          refine Dh.JB.pv rfl trivial (fun _ => PR.fieldAddr rfl tfl24_0) ?_
          refine Dh.JB.rd [.blk _ _ _] rfl trivial (by repeat (first | exact Take.nil | apply Take.cons (by repeat (first | exact Del.here | apply Del.there)))) (fun _ => PR.load1 rfl tsh22 Has.here (by rfl)) ?_
          refine Dh.JB.pv rfl trivial (fun _ => PR.move rfl) ?_
          refine Dh.JB.pv rfl trivial (fun _ => PR.idx j rfl rfl tsl22 (by repeat (first | exact Mem.here | apply Mem.there)) (bxsV_len _) (by omega) rfl hjl') ?_
          refine Dh.JB.pv rfl trivial (fun _ => PR.loadRA rfl tsh36 (by repeat (first | exact Mem.here | apply Mem.there)) (by decide) (bxs_at hjl')) ?_
          refine Dh.JB.alloc rfl trivial tze36 ?_
          refine Dh.JB.alloc rfl trivial tze36 ?_
          refine Dh.JB.nil ?_
          refine Dh.JL.ptr rfl (by repeat (first | exact Dh.es_here | apply Dh.es_there)) (fun b8 => ?_)
          refine Dh.JL.ptr rfl (by repeat (first | exact Dh.es_here | apply Dh.es_there)) (fun b9 => ?_)
          refine Dh.JL.nil ?_
          refine Dh.JE.mk rfl (fun _ h => by cases h) (fun C12_12 => ?_)
          refine Jl.storeW rfl tsh36 rfl (by rfl) (by first | exact Cl.cs_one _ _ | simp [Value.oneCell', Bx.cs]) (by repeat (first | exact Swap.here | apply Swap.there)) (by rfl) ?_
          refine Jl.nil ?_
          refine Dh.Jq.segN (by repeat (first | exact Dh.FExt.refl | apply Dh.FExt.cons | apply Dh.FExt.app)) ?_ (by repeat (first | exact Dh.KeepL.nil | apply Dh.KeepL.anc (by rfl) | apply Dh.KeepL.keep (by repeat (first | exact Take.nil | apply Take.cons (by repeat (first | exact Del.here | apply Del.there))))))
          refine Dh.JH.cons ?_
          refine Dh.JB.nil ?_
          refine Dh.JL.nil ?_
          refine Dh.JE.mk rfl (fun _ h => by cases h) (fun C12_13 => ?_)
          refine Jl.storeW rfl tsh36 rfl (by rfl) (by first | exact Cl.cs_one _ _ | simp [Value.oneCell', Bx.cs]) (by repeat (first | exact Swap.here | apply Swap.there)) (by rfl) ?_
          refine Jl.nil ?_
          refine Dh.Jq.segN (by repeat (first | exact Dh.FExt.refl | apply Dh.FExt.cons | apply Dh.FExt.app)) ?_ (by repeat (first | exact Dh.KeepL.nil | apply Dh.KeepL.anc (by rfl) | apply Dh.KeepL.keep (by repeat (first | exact Take.nil | apply Take.cons (by repeat (first | exact Del.here | apply Del.there))))))
          refine Dh.JH.nil ?_
          refine Dh.JB.nil ?_
          refine Dh.JL.nil ?_
          refine Jq.thenN ?_
          refine Jc.seq ?_
          refine Jc.region ?_
          refine Jl.pv (PR.fieldAddr rfl tfl36_6) ?_
          refine Jl.pv (PR.load1 rfl tsh4 (by repeat (first | exact Has.here | apply Has.there)) (by rfl)) ?_
          refine Jl.pv (PR.move rfl) ?_
          refine Jl.bsplit (fun g88 => ?_) (fun g88 => ?_)
          · try replace g88 := of_decide_eq_true g88
            have q8 := q1 g88
            refine Jl.on rfl rfl ?_
            refine Jl.pv (PR.fieldAddr rfl tfl36_6) ?_
            refine Jl.on rfl rfl ?_
            refine Jl.pv (PR.load1 rfl tsh4 (by repeat (first | exact Has.here | apply Has.there)) (by rfl)) ?_
            refine Jl.as (.bool true) (congrArg Value.bool q8) ?_
            refine Jl.on rfl rfl ?_
            refine Jl.pv (PR.not rfl) ?_
            refine Jl.pv (PR.pickT rfl rfl) ?_
            refine Jl.pv (PR.move rfl) ?_
            refine Jl.on rfl rfl ?_
            refine Jl.pv (PR.fieldAddr rfl tfl36_0) ?_
            refine Jl.on rfl rfl ?_
            refine Jl.pv (PR.load1 rfl tsh3 (by repeat (first | exact Has.here | apply Has.there)) (by rfl)) ?_
            refine Jl.on rfl rfl ?_
            refine Jl.pv (PR.fieldAddr rfl tfl36_0) ?_
            refine Jl.on rfl rfl ?_
            refine Jl.pv (PR.load1 rfl tsh3 (by repeat (first | exact Has.here | apply Has.there)) (by rfl)) ?_
            refine Jl.on rfl rfl ?_
            refine Jl.pv (PR.neq false rfl rfl (by simp [q2])) ?_
            refine Jl.pv (PR.pickF rfl rfl) ?_
            refine Jl.pv (PR.move rfl) ?_
            refine Jl.on rfl rfl ?_
            refine Jl.pv (PR.fieldAddr rfl tfl36_1) ?_
            refine Jl.on rfl rfl ?_
            refine Jl.pv (PR.load1 rfl tsh3 (by repeat (first | exact Has.here | apply Has.there)) (by rfl)) ?_
            refine Jl.on rfl rfl ?_
            refine Jl.pv (PR.fieldAddr rfl tfl36_1) ?_
            refine Jl.on rfl rfl ?_
            refine Jl.pv (PR.load1 rfl tsh3 (by repeat (first | exact Has.here | apply Has.there)) (by rfl)) ?_
            refine Jl.on rfl rfl ?_
            refine Jl.pv (PR.neq false rfl rfl (by simp [q3])) ?_
            refine Jl.pv (PR.pickF rfl rfl) ?_
            refine Jl.pv (PR.move rfl) ?_
            refine Jl.on rfl rfl ?_
            refine Jl.pv (PR.fieldAddr rfl tfl36_2) ?_
            refine Jl.on rfl rfl ?_
            refine Jl.pv (PR.load1 rfl tsh3 (by repeat (first | exact Has.here | apply Has.there)) (by rfl)) ?_
            refine Jl.on rfl rfl ?_
            refine Jl.pv (PR.fieldAddr rfl tfl36_2) ?_
            refine Jl.on rfl rfl ?_
            refine Jl.pv (PR.load1 rfl tsh3 (by repeat (first | exact Has.here | apply Has.there)) (by rfl)) ?_
            refine Jl.on rfl rfl ?_
            refine Jl.pv (PR.neq false rfl rfl (by simp [q4])) ?_
            refine Jl.pv (PR.pickF rfl rfl) ?_
            refine Jl.pv (PR.move rfl) ?_
            refine Jl.on rfl rfl ?_
            refine Jl.pv (PR.fieldAddr rfl tfl36_10) ?_
            refine Jl.on rfl rfl ?_
            refine Jl.pv (PR.load1 rfl tsh3 (by repeat (first | exact Has.here | apply Has.there)) (by rfl)) ?_
            refine Jl.on rfl rfl ?_
            refine Jl.pv (PR.fieldAddr rfl tfl36_10) ?_
            refine Jl.on rfl rfl ?_
            refine Jl.pv (PR.load1 rfl tsh3 (by repeat (first | exact Has.here | apply Has.there)) (by rfl)) ?_
            refine Jl.on rfl rfl ?_
            refine Jl.pv (PR.neq false rfl rfl (by simp [q5])) ?_
            refine Jl.pv (PR.pickF rfl rfl) ?_
            refine Jl.pv (PR.move rfl) ?_
            refine Jl.on rfl rfl ?_
            refine Jl.pv (PR.fieldAddr rfl tfl36_5) ?_
            refine Jl.on rfl rfl ?_
            refine Jl.pv (PR.load1 rfl tsh4 (by repeat (first | exact Has.here | apply Has.there)) (by rfl)) ?_
            refine Jl.on rfl rfl ?_
            refine Jl.pv (PR.move rfl) ?_
            refine Jl.bsplit (fun g124 => ?_) (fun g124 => ?_)
            · try replace g124 := of_decide_eq_true g124
              have q9 := q6 g124
              refine Jl.on rfl rfl ?_
              refine Jl.pv (PR.fieldAddr rfl tfl36_5) ?_
              refine Jl.on rfl rfl ?_
              refine Jl.pv (PR.load1 rfl tsh4 (by repeat (first | exact Has.here | apply Has.there)) (by rfl)) ?_
              refine Jl.as (.bool true) (congrArg Value.bool q9) ?_
              refine Jl.on rfl rfl ?_
              refine Jl.pv (PR.not rfl) ?_
              refine Jl.on rfl rfl ?_
              refine Jl.pv (PR.pickT rfl rfl) ?_
              refine Jl.pv (PR.pickF rfl rfl) ?_
              refine Jl.nil ?_
              refine Jq.thenN ?_
              refine Jc.condF rfl ?_
              refine Jc.skip ?_
              refine Jq.blkN ?_
              refine Jq.thenN ?_
              refine Jc.region ?_
              refine Jl.pv (PR.move rfl) ?_
              refine Jl.pv (PR.add ((j + 1 : Nat) : Int) rfl rfl (by rw [w64 (by omega) (by omega)]; rfl)) ?_
              refine Jl.pv (PR.assign rfl) ?_
              refine Jl.nil ?_
              exact Jq.againT ⟨j + 1, hjl⟩ (by simp only; omega) (by repeat (first | exact trivial | refine And.intro rfl ?_)) (by repeat (first | exact Take.nil | apply Take.cons (by repeat (first | exact Del.here | apply Del.there)))) (by repeat (first | exact trivial | refine And.intro (by repeat (first | exact Mem.here | apply Mem.there)) ?_))
            · try replace g124 := of_decide_eq_false g124
              refine Jl.offS rfl rfl rfl ?_
              refine Jl.offS rfl rfl rfl ?_
              refine Jl.offS rfl rfl rfl ?_
              refine Jl.on rfl rfl ?_
              refine Jl.pv (PR.pickF rfl rfl) ?_
              refine Jl.pv (PR.pickF rfl rfl) ?_
              refine Jl.nil ?_
              refine Jq.thenN ?_
              refine Jc.condF rfl ?_
              refine Jc.skip ?_
              refine Jq.blkN ?_
              refine Jq.thenN ?_
              refine Jc.region ?_
              refine Jl.pv (PR.move rfl) ?_
              refine Jl.pv (PR.add ((j + 1 : Nat) : Int) rfl rfl (by rw [w64 (by omega) (by omega)]; rfl)) ?_
              refine Jl.pv (PR.assign rfl) ?_
              refine Jl.nil ?_
              exact Jq.againT ⟨j + 1, hjl⟩ (by simp only; omega) (by repeat (first | exact trivial | refine And.intro rfl ?_)) (by repeat (first | exact Take.nil | apply Take.cons (by repeat (first | exact Del.here | apply Del.there)))) (by repeat (first | exact trivial | refine And.intro (by repeat (first | exact Mem.here | apply Mem.there)) ?_))
          · try replace g88 := of_decide_eq_false g88
            refine Jl.offS rfl rfl rfl ?_
            refine Jl.offS rfl rfl rfl ?_
            refine Jl.offS rfl rfl rfl ?_
            refine Jl.pv (PR.pickF rfl rfl) ?_
            refine Jl.pv (PR.move rfl) ?_
            refine Jl.on rfl rfl ?_
            refine Jl.pv (PR.fieldAddr rfl tfl36_0) ?_
            refine Jl.on rfl rfl ?_
            refine Jl.pv (PR.load1 rfl tsh3 (by repeat (first | exact Has.here | apply Has.there)) (by rfl)) ?_
            refine Jl.on rfl rfl ?_
            refine Jl.pv (PR.fieldAddr rfl tfl36_0) ?_
            refine Jl.on rfl rfl ?_
            refine Jl.pv (PR.load1 rfl tsh3 (by repeat (first | exact Has.here | apply Has.there)) (by rfl)) ?_
            refine Jl.on rfl rfl ?_
            refine Jl.pv (PR.neq false rfl rfl (by simp [q2])) ?_
            refine Jl.pv (PR.pickF rfl rfl) ?_
            refine Jl.pv (PR.move rfl) ?_
            refine Jl.on rfl rfl ?_
            refine Jl.pv (PR.fieldAddr rfl tfl36_1) ?_
            refine Jl.on rfl rfl ?_
            refine Jl.pv (PR.load1 rfl tsh3 (by repeat (first | exact Has.here | apply Has.there)) (by rfl)) ?_
            refine Jl.on rfl rfl ?_
            refine Jl.pv (PR.fieldAddr rfl tfl36_1) ?_
            refine Jl.on rfl rfl ?_
            refine Jl.pv (PR.load1 rfl tsh3 (by repeat (first | exact Has.here | apply Has.there)) (by rfl)) ?_
            refine Jl.on rfl rfl ?_
            refine Jl.pv (PR.neq false rfl rfl (by simp [q3])) ?_
            refine Jl.pv (PR.pickF rfl rfl) ?_
            refine Jl.pv (PR.move rfl) ?_
            refine Jl.on rfl rfl ?_
            refine Jl.pv (PR.fieldAddr rfl tfl36_2) ?_
            refine Jl.on rfl rfl ?_
            refine Jl.pv (PR.load1 rfl tsh3 (by repeat (first | exact Has.here | apply Has.there)) (by rfl)) ?_
            refine Jl.on rfl rfl ?_
            refine Jl.pv (PR.fieldAddr rfl tfl36_2) ?_
            refine Jl.on rfl rfl ?_
            refine Jl.pv (PR.load1 rfl tsh3 (by repeat (first | exact Has.here | apply Has.there)) (by rfl)) ?_
            refine Jl.on rfl rfl ?_
            refine Jl.pv (PR.neq false rfl rfl (by simp [q4])) ?_
            refine Jl.pv (PR.pickF rfl rfl) ?_
            refine Jl.pv (PR.move rfl) ?_
            refine Jl.on rfl rfl ?_
            refine Jl.pv (PR.fieldAddr rfl tfl36_10) ?_
            refine Jl.on rfl rfl ?_
            refine Jl.pv (PR.load1 rfl tsh3 (by repeat (first | exact Has.here | apply Has.there)) (by rfl)) ?_
            refine Jl.on rfl rfl ?_
            refine Jl.pv (PR.fieldAddr rfl tfl36_10) ?_
            refine Jl.on rfl rfl ?_
            refine Jl.pv (PR.load1 rfl tsh3 (by repeat (first | exact Has.here | apply Has.there)) (by rfl)) ?_
            refine Jl.on rfl rfl ?_
            refine Jl.pv (PR.neq false rfl rfl (by simp [q5])) ?_
            refine Jl.pv (PR.pickF rfl rfl) ?_
            refine Jl.pv (PR.move rfl) ?_
            refine Jl.on rfl rfl ?_
            refine Jl.pv (PR.fieldAddr rfl tfl36_5) ?_
            refine Jl.on rfl rfl ?_
            refine Jl.pv (PR.load1 rfl tsh4 (by repeat (first | exact Has.here | apply Has.there)) (by rfl)) ?_
            refine Jl.on rfl rfl ?_
            refine Jl.pv (PR.move rfl) ?_
            refine Jl.bsplit (fun g124 => ?_) (fun g124 => ?_)
            · try replace g124 := of_decide_eq_true g124
              have q9 := q6 g124
              refine Jl.on rfl rfl ?_
              refine Jl.pv (PR.fieldAddr rfl tfl36_5) ?_
              refine Jl.on rfl rfl ?_
              refine Jl.pv (PR.load1 rfl tsh4 (by repeat (first | exact Has.here | apply Has.there)) (by rfl)) ?_
              refine Jl.as (.bool true) (congrArg Value.bool q9) ?_
              refine Jl.on rfl rfl ?_
              refine Jl.pv (PR.not rfl) ?_
              refine Jl.on rfl rfl ?_
              refine Jl.pv (PR.pickT rfl rfl) ?_
              refine Jl.pv (PR.pickF rfl rfl) ?_
              refine Jl.nil ?_
              refine Jq.thenN ?_
              refine Jc.condF rfl ?_
              refine Jc.skip ?_
              refine Jq.blkN ?_
              refine Jq.thenN ?_
              refine Jc.region ?_
              refine Jl.pv (PR.move rfl) ?_
              refine Jl.pv (PR.add ((j + 1 : Nat) : Int) rfl rfl (by rw [w64 (by omega) (by omega)]; rfl)) ?_
              refine Jl.pv (PR.assign rfl) ?_
              refine Jl.nil ?_
              exact Jq.againT ⟨j + 1, hjl⟩ (by simp only; omega) (by repeat (first | exact trivial | refine And.intro rfl ?_)) (by repeat (first | exact Take.nil | apply Take.cons (by repeat (first | exact Del.here | apply Del.there)))) (by repeat (first | exact trivial | refine And.intro (by repeat (first | exact Mem.here | apply Mem.there)) ?_))
            · try replace g124 := of_decide_eq_false g124
              refine Jl.offS rfl rfl rfl ?_
              refine Jl.offS rfl rfl rfl ?_
              refine Jl.offS rfl rfl rfl ?_
              refine Jl.on rfl rfl ?_
              refine Jl.pv (PR.pickF rfl rfl) ?_
              refine Jl.pv (PR.pickF rfl rfl) ?_
              refine Jl.nil ?_
              refine Jq.thenN ?_
              refine Jc.condF rfl ?_
              refine Jc.skip ?_
              refine Jq.blkN ?_
              refine Jq.thenN ?_
              refine Jc.region ?_
              refine Jl.pv (PR.move rfl) ?_
              refine Jl.pv (PR.add ((j + 1 : Nat) : Int) rfl rfl (by rw [w64 (by omega) (by omega)]; rfl)) ?_
              refine Jl.pv (PR.assign rfl) ?_
              refine Jl.nil ?_
              exact Jq.againT ⟨j + 1, hjl⟩ (by simp only; omega) (by repeat (first | exact trivial | refine And.intro rfl ?_)) (by repeat (first | exact Take.nil | apply Take.cons (by repeat (first | exact Del.here | apply Del.there)))) (by repeat (first | exact trivial | refine And.intro (by repeat (first | exact Mem.here | apply Mem.there)) ?_))
        · try replace h2 := of_decide_eq_false h2
          refine Jc.exit ?_
          refine Jq.thenX ?_
          refine Jq.thenX ?_
          refine Jq.blkX ?_
          refine Jq.thenN ?_
          refine Jc.seq ?_
          have hHl : d.H ≤ 60 := Nat.le_trans List.countP_le_length hdn
          have hHl' : d'.H ≤ 60 := Nat.le_trans List.countP_le_length hdn'
          refine Jc.drawn [0, 1, 0, 7, 15, 31] ([(4, false), (5, false)], []) [⟨[(0, false), (2, false)], [], 1⟩, ⟨[], [], 3⟩] tmx (by kernel_rfl) ?_
          refine Dh.JH.cons ?_
          refine Dh.JB.rd [.blk _ _ _] rfl trivial (by repeat (first | exact Take.nil | apply Take.cons (by repeat (first | exact Del.here | apply Del.there)))) (fun _ => PR.loadW rfl tsh24 Has.here (by rfl)) ?_
          refine Dh.JB.rd [.blk _ _ _] rfl trivial (by repeat (first | exact Take.nil | apply Take.cons (by repeat (first | exact Del.here | apply Del.there)))) (fun _ => PR.loadW rfl tsh24 Has.here (by rfl)) ?_
          refine Dh.JB.nil ?_
          refine Dh.JL.nil ?_
          refine Dh.JE.mk rfl (fun _ h => by cases h) (fun C15_1 => ?_)
          refine Jl.call (rh_ct d y hdo.n) en17 (by rfl) (by repeat (first | exact Take.nil | apply Take.cons (by repeat (first | exact Del.here | apply Del.there)))) (by repeat (first | exact trivial | refine And.intro (by repeat (first | exact Mem.here | apply Mem.there)) ?_)) ?_
          rintro ⟨⟩
          refine Jl.nil ?_
          refine Dh.Jq.segV (by repeat (first | exact Dh.FExt.refl | apply Dh.FExt.cons | apply Dh.FExt.app)) ?_ (by repeat (first | exact Dh.KeepL.nil | apply Dh.KeepL.anc (by rfl) | apply Dh.KeepL.keep (by repeat (first | exact Take.nil | apply Take.cons (by repeat (first | exact Del.here | apply Del.there))))))
          refine Dh.JH.cons ?_
          refine Dh.JB.nil ?_
          refine Dh.JL.nil ?_
          refine Dh.JE.mk rfl (fun _ h => by cases h) (fun C15_3 => ?_)
          refine Jl.call (rh_ct d' (A31, c31) hdo'.n) en17 (by rfl) (by repeat (first | exact Take.nil | apply Take.cons (by repeat (first | exact Del.here | apply Del.there)))) (by repeat (first | exact trivial | refine And.intro (by repeat (first | exact Mem.here | apply Mem.there)) ?_)) ?_
          rintro ⟨⟩
          refine Jl.nil ?_
          refine Dh.Jq.segV (by repeat (first | exact Dh.FExt.refl | apply Dh.FExt.cons | apply Dh.FExt.app)) ?_ (by repeat (first | exact Dh.KeepL.nil | apply Dh.KeepL.anc (by rfl) | apply Dh.KeepL.keep (by repeat (first | exact Take.nil | apply Take.cons (by repeat (first | exact Del.here | apply Del.there))))))
          refine Dh.JH.nil ?_
          refine Dh.JB.pv rfl trivial (fun _ => PR.sub ((d.H : Int) - (d'.H : Int)) rfl rfl (w64 (by omega) (by omega))) ?_
          refine Dh.JB.pv rfl trivial (fun _ => PR.assign rfl) ?_
          refine Dh.JB.nil ?_
          refine Dh.JL.nil ?_
          refine Jq.thenN ?_
          refine Jc.seq ?_
          refine Jc.seq ?_
          refine Jc.region ?_
          refine Jl.pv (PR.move rfl) ?_
          refine Jl.pv (PR.gtr false rfl rfl (by simp; omega)) ?_
          refine Jl.pv (PR.move rfl) ?_
          refine Jl.on rfl rfl ?_
          refine Jl.pv (PR.move rfl) ?_
          refine Jl.on rfl rfl ?_
          refine Jl.pv (PR.gtr _ rfl rfl rfl) ?_
          refine Jl.on rfl rfl ?_
          refine Jl.pv (PR.move rfl) ?_
          refine Jl.bsplit (fun g140 => ?_) (fun g140 => ?_)
          · try replace g140 := of_decide_eq_true g140
            refine Jl.on rfl rfl ?_
            refine Jl.pv (PR.move rfl) ?_
            refine Jl.on rfl rfl ?_
            refine Jl.pv (PR.move rfl) ?_
            refine Jl.on rfl rfl ?_
            refine Jl.pv (PR.idx k rfl rfl tsl27 (by repeat (first | exact Mem.here | apply Mem.there)) (evsV_len _) (by omega) rfl hlt) ?_
            refine Jl.on rfl rfl ?_
            refine Jl.pv (PR.loadRA rfl tsh26 (by repeat (first | exact Mem.here | apply Mem.there)) (by decide) (by rw [evs_at hlt, he])) ?_
            refine Jl.on rfl rfl ?_
            refine Jl.call (evfalls_ct e) en14 (by rfl) (by repeat (first | exact Take.nil | apply Take.cons (by repeat (first | exact Del.here | apply Del.there)))) (by repeat (first | exact trivial | refine And.intro (by repeat (first | exact Mem.here | apply Mem.there)) ?_)) ?_
            rintro ⟨⟩
            refine Jl.as (.bool true) (congrArg Value.bool (hH.2 (by omega))) ?_
            refine Jl.on rfl rfl ?_
            refine Jl.pv (PR.not rfl) ?_
            refine Jl.on rfl rfl ?_
            refine Jl.pv (PR.pickT rfl rfl) ?_
            refine Jl.pv (PR.pickF rfl rfl) ?_
            refine Jl.nil ?_
            refine Jq.thenN ?_
            refine Jc.condF rfl ?_
            refine Jc.skip ?_
            refine Jq.thenN ?_
            refine Jc.region ?_
            refine Jl.pv (PR.loadW rfl tsh24 (by repeat (first | exact Has.here | apply Has.there)) (by rfl)) ?_
            refine Jl.storeW rfl tsh24 rfl (by rfl) (by first | exact Cl.cs_one _ _ | simp [Value.oneCell', Bx.cs]) (by repeat (first | exact Swap.here | apply Swap.there)) (by rfl) ?_
            refine Jl.nil ?_
            refine Jq.blkN ?_
            refine Jq.thenN ?_
            refine Jc.region ?_
            refine Jl.pv (PR.move rfl) ?_
            refine Jl.pv (PR.add ((k + 1 : Nat) : Int) rfl rfl (by rw [w64 (by omega) (by omega)]; rfl)) ?_
            refine Jl.pv (PR.assign rfl) ?_
            refine Jl.nil ?_
            exact Jq.againT ⟨(k + 1, d', (A31, c31)), hlt, hdo'⟩ (by simp only; omega) (by repeat (first | exact trivial | refine And.intro rfl ?_)) (by repeat (first | exact Take.nil | apply Take.cons (by repeat (first | exact Del.here | apply Del.there)))) (by repeat (first | exact trivial | refine And.intro (by repeat (first | exact Mem.here | apply Mem.there)) ?_))
          · try replace g140 := of_decide_eq_false g140
            refine Jl.offS rfl rfl rfl ?_
            refine Jl.offS rfl rfl rfl ?_
            refine Jl.offS rfl rfl rfl ?_
            refine Jl.offS rfl rfl rfl ?_
            refine Jl.offS rfl rfl rfl ?_
            refine Jl.offS rfl rfl rfl ?_
            refine Jl.on rfl rfl ?_
            refine Jl.pv (PR.pickF rfl rfl) ?_
            refine Jl.pv (PR.pickF rfl rfl) ?_
            refine Jl.nil ?_
            refine Jq.thenN ?_
            refine Jc.condF rfl ?_
            refine Jc.skip ?_
            refine Jq.thenN ?_
            refine Jc.region ?_
            refine Jl.pv (PR.loadW rfl tsh24 (by repeat (first | exact Has.here | apply Has.there)) (by rfl)) ?_
            refine Jl.storeW rfl tsh24 rfl (by rfl) (by first | exact Cl.cs_one _ _ | simp [Value.oneCell', Bx.cs]) (by repeat (first | exact Swap.here | apply Swap.there)) (by rfl) ?_
            refine Jl.nil ?_
            refine Jq.blkN ?_
            refine Jq.thenN ?_
            refine Jc.region ?_
            refine Jl.pv (PR.move rfl) ?_
            refine Jl.pv (PR.add ((k + 1 : Nat) : Int) rfl rfl (by rw [w64 (by omega) (by omega)]; rfl)) ?_
            refine Jl.pv (PR.assign rfl) ?_
            refine Jl.nil ?_
            exact Jq.againT ⟨(k + 1, d', (A31, c31)), hlt, hdo'⟩ (by simp only; omega) (by repeat (first | exact trivial | refine And.intro rfl ?_)) (by repeat (first | exact Take.nil | apply Take.cons (by repeat (first | exact Del.here | apply Del.there)))) (by repeat (first | exact trivial | refine And.intro (by repeat (first | exact Mem.here | apply Mem.there)) ?_))
      · try replace h1 := of_decide_eq_false h1
        refine Jc.exit ?_
        refine Jq.thenX ?_
        refine Jq.thenX ?_
        refine Jq.blkX ?_
        refine Jq.thenN ?_
        refine Jc.seq ?_
        refine Jc.region ?_
        refine Jl.call (evwakes_ct bm) en8 (by rfl) (by repeat (first | exact Take.nil | apply Take.cons (by repeat (first | exact Del.here | apply Del.there)))) (by repeat (first | exact trivial | refine And.intro (by repeat (first | exact Mem.here | apply Mem.there)) ?_)) ?_
        rintro ⟨⟩
        refine Jl.pv (PR.assign rfl) ?_
        refine Jl.nil ?_
        refine Jq.thenN ?_
        refine Jc.ret ?_
        exact Jq.fin () (.inl rfl) rfl (RetVs.tmp rfl RetVs.nil) rfl (by repeat (first | exact Take.nil | apply Take.cons (by repeat (first | exact Del.here | apply Del.there)))) (by repeat (first | exact trivial | refine And.intro (by repeat (first | exact Mem.here | apply Mem.there)) ?_))
end Go.Proofs.YtakkoandmkomdaaDoor
