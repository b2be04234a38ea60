/-
The laws of events: EventTwice, EventEach.
-/
import Derived.Test.YtakkoandmkomdaaDoorEvM
namespace Go.Proofs.YtakkoandmkomdaaDoor
set_option linter.unusedVariables false
open Go.RowKit
attribute [local irreducible] Res.blk Res.row Fact.rd Res.mapI
theorem fnd_set {l : List Bx} {i : Nat} {b : Bx} (id : Int) (hi : i < l.length) (h1 : b.id = l[i].id) (h2 : b.gone = l[i].gone) : fnd (l.set i b) id = fnd l id := by
  unfold fnd
  induction l generalizing i with
  | nil => simp at hi
  | cons c l ih =>
    cases i with
    | zero =>
      simp only [List.getElem_cons_zero] at h1 h2
      rw [List.set_cons_zero, List.findIdx?_cons, List.findIdx?_cons, h1, h2]
    | succ i =>
      rw [List.set_cons_succ, List.findIdx?_cons, List.findIdx?_cons, ih (by simpa using hi) (by simpa using h1) (by simpa using h2)]
theorem onB_fnd {c : Cl} {id : Int} {f : Bx → Bx} (h1 : ∀ b, (f b).id = b.id) (h2 : ∀ b, (f b).gone = b.gone) : fnd (onB c id f).bs id = fnd c.bs id :=
  onB_ways (p := fun d => fnd d.bs id = fnd c.bs id) c id f (fun i hi _ _ _ => fnd_set id hi (h1 _) (h2 _)) fun _ => rfl
theorem onB_onB {c : Cl} {id : Int} {f g : Bx → Bx} (h1 : ∀ b, (f b).id = b.id) (h2 : ∀ b, (f b).gone = b.gone) : onB (onB c id f) id g = onB c id (fun b => g (f b)) := by
  have hf := onB_fnd (c := c) (id := id) (f := f) h1 h2
  cases h : fnd c.bs id with
  | none => rw [onB_none (f := f) h, onB_none h, onB_none h]
  | some i =>
    obtain ⟨hi, _, _⟩ := fnd_some h
    rw [h] at hf
    rw [onB_some (f := f) h hi] at hf ⊢
    rw [onB_some hf (by simpa using hi), onB_some h hi]
    simp
theorem flip_flip (b : Bx) : b.flip.flip = b := by cases b; simp [Bx.flip]
theorem onB_id {c : Cl} {id : Int} {f : Bx → Bx} (h : ∀ b, f b = b) : onB c id f = c :=
  onB_ways (p := fun d => d = c) c id f (fun i hi _ _ _ => by rw [h, List.set_getElem_self]) fun _ => rfl
/-- Behind its death a box is not found. -/
theorem die_fnd {c : Cl} (h : c.Ok) (id : Int) : fnd (onB c id Bx.die).bs id = none := by
  refine onB_ways (p := fun d => fnd d.bs id = none) c id Bx.die (fun i hi _ hid hg => ?_) fun h => h
  refine fnd_not fun j hj ⟨q1, q2⟩ => ?_
  simp only [List.length_set] at hj
  simp only [List.getElem_set] at q1 q2
  split at q1
  · rename_i e; subst e; rw [if_pos rfl] at q2; cases q2
  · rename_i e
    have h1 := (h.bs i hi).1.1
    have h2 := (h.bs j hj).1.1
    omega
theorem doE_1 {c : Cl} (h : c.Ok) (a b : Int) : doE c ⟨1, a, b⟩ = onB c a Bx.die := doE_ok h _
theorem doE_2 {c : Cl} (h : c.Ok) (a b : Int) : doE c ⟨2, a, b⟩ = onB c a Bx.flip := doE_ok h _
theorem doE_3 {c : Cl} (h : c.Ok) (a b : Int) : doE c ⟨3, a, b⟩ = strayC c a (decide (b ≠ 0)) := doE_ok h _
theorem doE_4 {c : Cl} (h : c.Ok) (a b : Int) : doE c ⟨4, a, b⟩ = { c with ti := !c.ti } := doE_ok h _
theorem doE_6 {c : Cl} (h : c.Ok) (a b : Int) : doE c ⟨6, a, b⟩ = floorC c a b := doE_ok h _
theorem twice_a {c : Cl} (h : c.Ok) (id : Int) : allE c [⟨2, id, 0⟩, ⟨4, 0, 0⟩, ⟨4, 0, 0⟩, ⟨2, id, 0⟩] = c := by
  show doE (doE (doE (doE c ⟨2, id, 0⟩) ⟨4, 0, 0⟩) ⟨4, 0, 0⟩) ⟨2, id, 0⟩ = c
  have h1 : (onB c id Bx.flip).Ok := doE_2 h id 0 ▸ doE_Ok h _
  have h2 : ({ onB c id Bx.flip with ti := !(onB c id Bx.flip).ti } : Cl).Ok := doE_4 h1 0 0 ▸ doE_Ok h1 _
  rw [doE_2 h, doE_4 h1, doE_4 h2]
  have e : ({ ({ onB c id Bx.flip with ti := !(onB c id Bx.flip).ti } : Cl) with ti := !(!(onB c id Bx.flip).ti) } : Cl) = onB c id Bx.flip := by
    cases onB c id Bx.flip; simp
  rw [e, doE_2 h1, onB_onB (f := Bx.flip) (g := Bx.flip) (fun _ => rfl) (fun _ => rfl)]
  exact onB_id flip_flip
theorem twice_d {c : Cl} (h : c.Ok) (id : Int) : allE c [⟨1, id, 0⟩, ⟨2, id, 0⟩, ⟨1, id, 0⟩] = allE c [⟨1, id, 0⟩] := by
  show doE (doE (doE c ⟨1, id, 0⟩) ⟨2, id, 0⟩) ⟨1, id, 0⟩ = doE c ⟨1, id, 0⟩
  have h1 : (onB c id Bx.die).Ok := doE_1 h id 0 ▸ doE_Ok h _
  have hf := die_fnd h id
  rw [doE_1 h, doE_2 h1, onB_none hf, doE_1 h1, onB_none hf]
theorem twice_e {c : Cl} (h : c.Ok) (fl : Int) : allE c [⟨6, fl, 3⟩, ⟨6, fl, 3⟩] = doE c ⟨6, fl, 3⟩ := by
  show doE (doE c ⟨6, fl, 3⟩) ⟨6, fl, 3⟩ = _
  have h1 := doE_Ok h ⟨6, fl, 3⟩
  rw [doE_6 h] at h1 ⊢
  rw [doE_6 h1]
  unfold floorC
  split <;> simp_all
theorem twice_fl {c : Cl} (h : c.Ok) {fl : Int} (h1 : 0 ≤ fl) (h2 : fl ≤ 1099511627776) : (doE c ⟨6, fl, 3⟩).fl = fl ∧ (doE c ⟨6, fl, 3⟩).dr = 3 := by
  rw [doE_6 h, floorC, if_pos ⟨okN_iff.2 ⟨h1, h2⟩, by decide⟩]
  exact ⟨rfl, rfl⟩
theorem eventTwice_ct (c : Cl) (x : AdC) (id ver fl : Int) (bm : Nat) : Ct Tryd.prog 6 [c.v x, .int .i64 id, .int .i64 ver, .int .i64 fl] [] [.rd x.1 (bxsV c.bs), .happens bm] (fun _ : Unit => .bool true) (fun _ => []) (fun _ => []) := by
  refine Ct.of _ Tryd.func6 Tryd.ntmps6 rfl rfl (fun X W => ?_)
  refine Jc.seq ?_
  refine Jc.region ?_
  refine Jl.box rfl (by rfl) ?_
  intro b4
  refine Jl.pv (PR.assign rfl) ?_
  refine Jl.nil ?_
  refine Jq.thenN ?_
  refine Jc.seq ?_
  refine Jc.seq ?_
  refine Jc.region ?_
  refine Jl.pv (PR.loadW rfl tsh24 (by repeat (first | exact Has.here | apply Has.there)) (by rfl)) ?_
  refine Jl.call (rright'_ct c x) en16 (by rfl) (by repeat (first | exact Take.nil | apply Take.cons (by repeat (first | exact Del.here | apply Del.there)))) (by repeat (first | exact trivial | refine And.intro (by repeat (first | exact Mem.here | apply Mem.there)) ?_)) ?_
  rintro ⟨⟩
  refine Jl.pv (PR.not rfl) ?_
  refine Jl.nil ?_
  refine Jq.thenN ?_
  refine Jc.cond rfl (fun h0 => ?_) (fun h0 => ?_)
  · try replace h0 := of_decide_eq_true h0
    refine Jc.seq ?_
    refine Jc.region ?_
    refine Jl.call (evwakes_ct bm) en8 (by rfl) (by repeat (first | exact Take.nil | apply Take.cons (by repeat (first | exact Del.here | apply Del.there)))) (by repeat (first | exact trivial | refine And.intro (by repeat (first | exact Mem.here | apply Mem.there)) ?_)) ?_
    rintro ⟨⟩
    refine Jl.pv (PR.assign rfl) ?_
    refine Jl.nil ?_
    refine Jq.thenN ?_
    refine Jc.ret ?_
    refine Jq.thenR ?_
    exact Jq.fin () (.inl rfl) rfl (RetVs.tmp rfl RetVs.nil) rfl (by repeat (first | exact Take.nil | apply Take.cons (by repeat (first | exact Del.here | apply Del.there)))) (by repeat (first | exact trivial | refine And.intro (by repeat (first | exact Mem.here | apply Mem.there)) ?_))
  · try replace h0 := of_decide_eq_false h0
    have hok : c.Ok := Cl.ok_iff.1 (not_false h0)
    have hlen := hok.len
    obtain ⟨b, hb⟩ : ∃ b, allE c [⟨1, id, 0⟩] = b := ⟨_, rfl⟩
    have hbo : b.Ok := hb ▸ allE_Ok hok _
    have hbf : fnd b.bs id = none := by rw [← hb, show allE c [⟨1, id, 0⟩] = doE c ⟨1, id, 0⟩ from rfl, doE_1 hok]; exact die_fnd hok id
    obtain ⟨s, hs⟩ : ∃ s, doE c ⟨6, fl, 3⟩ = s := ⟨_, rfl⟩
    have hso : s.Ok := hs ▸ doE_Ok hok _
    obtain ⟨f, hf⟩ : ∃ f, doE c ⟨3, ver, 0⟩ = f := ⟨_, rfl⟩
    have hfo : f.Ok := hf ▸ doE_Ok hok _
    have hfl := happ_len c ⟨3, ver, 0⟩
    rw [← doE_ok hok, hf] at hfl
    refine Jc.skip ?_
    refine Jq.thenN ?_
    refine Jc.seq ?_
    refine Jc.region ?_
    refine Jl.pv (PR.loadW rfl tsh24 (by repeat (first | exact Has.here | apply Has.there)) (by rfl)) ?_
    refine Jl.call (rown_ct c x hok.n) en18 (by rfl) (by repeat (first | exact Take.nil | apply Take.cons (by repeat (first | exact Del.here | apply Del.there)))) (by repeat (first | exact trivial | refine And.intro (by repeat (first | exact Mem.here | apply Mem.there)) ?_)) ?_
    rintro ⟨A25, c25⟩
    refine Jl.sealR (by repeat (first | exact Del.here | apply Del.there)) ?_
    refine Jl.alloc tze24 ?_
    intro b9
    refine Jl.storeW rfl tsh24 rfl (by rfl) (by first | exact Cl.cs_one _ _ | simp [Value.oneCell', Bx.cs]) (by repeat (first | exact Swap.here | apply Swap.there)) (by rfl) ?_
    refine Jl.nil ?_
    refine Jq.thenN ?_
    refine Jc.seq ?_
    refine Jc.region ?_
    refine Jl.pv (PR.move rfl) ?_
    refine Jl.pv (PR.build (by rfl) tze26 tpl26_0_1 (by rfl)) ?_
    refine Jl.pv (PR.build (by rfl) tze26 tpl26_0 (by rfl)) ?_
    refine Jl.alloc tze26 ?_
    intro b10
    refine Jl.alloc tze26 ?_
    intro b11
    refine Jl.storeW rfl tsh26 rfl (by rfl) (by first | exact Cl.cs_one _ _ | simp [Value.oneCell', Bx.cs]) (by repeat (first | exact Swap.here | apply Swap.there)) (by rfl) ?_
    refine Jl.storeW rfl tsh26 rfl (by rfl) (by first | exact Cl.cs_one _ _ | simp [Value.oneCell', Bx.cs]) (by repeat (first | exact Swap.here | apply Swap.there)) (by rfl) ?_
    refine Jl.nil ?_
    refine Jq.thenN ?_
    refine Jc.seq ?_
    refine Jc.region ?_
    refine Jl.pv (PR.move rfl) ?_
    refine Jl.pv (PR.build (by rfl) tze26 tpl26_0_1 (by rfl)) ?_
    refine Jl.pv (PR.move rfl) ?_
    refine Jl.pv (PR.build (by rfl) tze26 tpl26_0_1_2 (by rfl)) ?_
    refine Jl.alloc tze26 ?_
    intro b12
    refine Jl.alloc tze26 ?_
    intro b13
    refine Jl.storeW rfl tsh26 rfl (by rfl) (by first | exact Cl.cs_one _ _ | simp [Value.oneCell', Bx.cs]) (by repeat (first | exact Swap.here | apply Swap.there)) (by rfl) ?_
    refine Jl.storeW rfl tsh26 rfl (by rfl) (by first | exact Cl.cs_one _ _ | simp [Value.oneCell', Bx.cs]) (by repeat (first | exact Swap.here | apply Swap.there)) (by rfl) ?_
    refine Jl.nil ?_
    refine Jq.thenN ?_
    refine Jc.seq ?_
    refine Jc.region ?_
    refine Jl.pv (PR.loadW rfl tsh24 (by repeat (first | exact Has.here | apply Has.there)) (by rfl)) ?_
    refine Jl.pv (PR.loadW rfl tsh26 (by repeat (first | exact Has.here | apply Has.there)) (by rfl)) ?_
    refine Jl.pv (PR.loadW rfl tsh26 (by repeat (first | exact Has.here | apply Has.there)) (by rfl)) ?_
    refine Jl.pv (PR.loadW rfl tsh26 (by repeat (first | exact Has.here | apply Has.there)) (by rfl)) ?_
    refine Jl.pv (PR.loadW rfl tsh26 (by repeat (first | exact Has.here | apply Has.there)) (by rfl)) ?_
    refine Jl.buildSlice (by rfl) tsl27 tzr27_4 (by rfl) (by rfl) ?_
    intro b38
    refine Jl.seal (by repeat (first | exact Del.here | apply Del.there)) ?_
    refine Jl.call (evall_at (c := c) (x := x) (L := (some ⟨b38, 0, none⟩, 4)) (l := [⟨2, id, 0⟩, ⟨4, 0, 0⟩, ⟨4, 0, 0⟩, ⟨2, id, 0⟩]) bm hok.wf hok.n rfl (Nat.le_refl _) (by simp) (twice_a hok id)) en12 (by rfl) (by repeat (first | exact Take.nil | apply Take.cons (by repeat (first | exact Del.here | apply Del.there)))) (by repeat (first | exact trivial | refine And.intro (by repeat (first | exact Mem.here | apply Mem.there)) ?_)) ?_
    rintro ⟨A39, c39⟩
    refine Jl.sealR (by repeat (first | exact Del.here | apply Del.there)) ?_
    refine Jl.alloc tze24 ?_
    intro b14
    refine Jl.storeW rfl tsh24 rfl (by rfl) (by first | exact Cl.cs_one _ _ | simp [Value.oneCell', Bx.cs]) (by repeat (first | exact Swap.here | apply Swap.there)) (by rfl) ?_
    refine Jl.nil ?_
    refine Jq.thenN ?_
    refine Jc.seq ?_
    refine Jc.drawn [0, 0, 2, 7, 0, 0, 0, 0, 224, 511, 0, 0, 4095, 8191] ([], []) [⟨[(0, false), (1, false), (2, true), (4, false), (5, false), (6, false), (7, false), (8, true), (10, true), (11, true)], [2], 3⟩, ⟨[], [8], 9⟩, ⟨[], [10, 11], 12⟩, ⟨[], [], 13⟩] tmx (by kernel_rfl) ?_
    refine Dh.JH.cons ?_
    refine Dh.JB.rd [.blk _ _ _] rfl trivial (by repeat (first | exact Take.nil | apply Take.cons (by repeat (first | exact Del.here | apply Del.there)))) (fun _ => PR.loadW rfl tsh24 Has.here (by rfl)) ?_
    refine Dh.JB.rd [.blk _ _ _] rfl trivial (by repeat (first | exact Take.nil | apply Take.cons (by repeat (first | exact Del.here | apply Del.there)))) (fun _ => PR.loadW rfl tsh26 Has.here (by rfl)) ?_
    refine Dh.JB.buildSlice rfl trivial (by rfl) tsl27 tzr27_1 (by rfl) (by rfl) ?_
    refine Dh.JB.rd [.blk _ _ _] rfl trivial (by repeat (first | exact Take.nil | apply Take.cons (by repeat (first | exact Del.here | apply Del.there)))) (fun _ => PR.loadW rfl tsh24 Has.here (by rfl)) ?_
    refine Dh.JB.rd [.blk _ _ _] rfl trivial (by repeat (first | exact Take.nil | apply Take.cons (by repeat (first | exact Del.here | apply Del.there)))) (fun _ => PR.loadW rfl tsh26 Has.here (by rfl)) ?_
    refine Dh.JB.rd [.blk _ _ _] rfl trivial (by repeat (first | exact Take.nil | apply Take.cons (by repeat (first | exact Del.here | apply Del.there)))) (fun _ => PR.loadW rfl tsh26 Has.here (by rfl)) ?_
    refine Dh.JB.rd [.blk _ _ _] rfl trivial (by repeat (first | exact Take.nil | apply Take.cons (by repeat (first | exact Del.here | apply Del.there)))) (fun _ => PR.loadW rfl tsh26 Has.here (by rfl)) ?_
    refine Dh.JB.buildSlice rfl trivial (by rfl) tsl27 tzr27_3 (by rfl) (by rfl) ?_
    refine Dh.JB.alloc rfl trivial tze24 ?_
    refine Dh.JB.alloc rfl trivial tze24 ?_
    refine Dh.JB.nil ?_
    refine Dh.JL.sl rfl (by repeat (first | exact Dh.es_here | apply Dh.es_there)) (fun b42 => ?_)
    refine Dh.JL.nil ?_
    refine Dh.JE.mk rfl (fun _ h => by cases h) (fun C7_3 => ?_)
    refine Jl.seal (by repeat (first | exact Del.here | apply Del.there)) ?_
    refine Jl.call (evall_at (c := c) (x := x) (L := (some ⟨b42, 0, none⟩, 1)) (l := [⟨1, id, 0⟩]) bm hok.wf hok.n rfl (Nat.le_refl _) (by simp) hb) en12 (by rfl) (by repeat (first | exact Take.nil | apply Take.cons (by repeat (first | exact Del.here | apply Del.there)))) (by repeat (first | exact trivial | refine And.intro (by repeat (first | exact Mem.here | apply Mem.there)) ?_)) ?_
    rintro ⟨A43, c43⟩
    refine Jl.sealR (by repeat (first | exact Del.here | apply Del.there)) ?_
    refine Jl.nil ?_
    refine Dh.Jq.segV (by repeat (first | exact Dh.FExt.refl | apply Dh.FExt.cons | apply Dh.FExt.app)) ?_ (by repeat (first | exact Dh.KeepL.nil | apply Dh.KeepL.anc (by rfl) | apply Dh.KeepL.keep (by repeat (first | exact Take.nil | apply Take.cons (by repeat (first | exact Del.here | apply Del.there))))))
    refine Dh.JH.cons ?_
    refine Dh.JB.nil ?_
    refine Dh.JL.sl rfl (by repeat (first | exact Dh.es_here | apply Dh.es_there)) (fun b48 => ?_)
    refine Dh.JL.nil ?_
    refine Dh.JE.mk rfl (fun _ h => by cases h) (fun C7_9 => ?_)
    refine Jl.seal (by repeat (first | exact Del.here | apply Del.there)) ?_
    refine Jl.call (evall_at (c := c) (x := x) (L := (some ⟨b48, 0, none⟩, 3)) (l := [⟨1, id, 0⟩, ⟨2, id, 0⟩, ⟨1, id, 0⟩]) bm hok.wf hok.n rfl (Nat.le_refl _) (by simp) ((twice_d hok id).trans hb)) en12 (by rfl) (by repeat (first | exact Take.nil | apply Take.cons (by repeat (first | exact Del.here | apply Del.there)))) (by repeat (first | exact trivial | refine And.intro (by repeat (first | exact Mem.here | apply Mem.there)) ?_)) ?_
    rintro ⟨A49, c49⟩
    refine Jl.sealR (by repeat (first | exact Del.here | apply Del.there)) ?_
    refine Jl.nil ?_
    refine Dh.Jq.segV (by repeat (first | exact Dh.FExt.refl | apply Dh.FExt.cons | apply Dh.FExt.app)) ?_ (by repeat (first | exact Dh.KeepL.nil | apply Dh.KeepL.anc (by rfl) | apply Dh.KeepL.keep (by repeat (first | exact Take.nil | apply Take.cons (by repeat (first | exact Del.here | apply Del.there))))))
    refine Dh.JH.cons ?_
    refine Dh.JB.nil ?_
    refine Dh.JL.ptr rfl (by repeat (first | exact Dh.es_here | apply Dh.es_there)) (fun b15 => ?_)
    refine Dh.JL.ptr rfl (by repeat (first | exact Dh.es_here | apply Dh.es_there)) (fun b16 => ?_)
    refine Dh.JL.nil ?_
    refine Dh.JE.mk rfl (fun _ h => by cases h) (fun C7_12 => ?_)
    refine Jl.storeW rfl tsh24 rfl (by rfl) (by first | exact Cl.cs_one _ _ | simp [Value.oneCell', Bx.cs]) (by repeat (first | exact Swap.here | apply Swap.there)) (by rfl) ?_
    refine Jl.nil ?_
    refine Dh.Jq.segN (by repeat (first | exact Dh.FExt.refl | apply Dh.FExt.cons | apply Dh.FExt.app)) ?_ (by repeat (first | exact Dh.KeepL.nil | apply Dh.KeepL.anc (by rfl) | apply Dh.KeepL.keep (by repeat (first | exact Take.nil | apply Take.cons (by repeat (first | exact Del.here | apply Del.there))))))
    refine Dh.JH.cons ?_
    refine Dh.JB.nil ?_
    refine Dh.JL.nil ?_
    refine Dh.JE.mk rfl (fun _ h => by cases h) (fun C7_13 => ?_)
    refine Jl.storeW rfl tsh24 rfl (by rfl) (by first | exact Cl.cs_one _ _ | simp [Value.oneCell', Bx.cs]) (by repeat (first | exact Swap.here | apply Swap.there)) (by rfl) ?_
    refine Jl.nil ?_
    refine Dh.Jq.segN (by repeat (first | exact Dh.FExt.refl | apply Dh.FExt.cons | apply Dh.FExt.app)) ?_ (by repeat (first | exact Dh.KeepL.nil | apply Dh.KeepL.anc (by rfl) | apply Dh.KeepL.keep (by repeat (first | exact Take.nil | apply Take.cons (by repeat (first | exact Del.here | apply Del.there))))))
    refine Dh.JH.nil ?_
    refine Dh.JB.nil ?_
    refine Dh.JL.nil ?_
    refine Jq.thenN ?_
    refine Jc.seq ?_
    refine Jc.region ?_
    refine Jl.pv (PR.loadW rfl tsh24 (by repeat (first | exact Has.here | apply Has.there)) (by rfl)) ?_
    refine Jl.pv (PR.loadW rfl tsh26 (by repeat (first | exact Has.here | apply Has.there)) (by rfl)) ?_
    refine Jl.pv (PR.loadW rfl tsh26 (by repeat (first | exact Has.here | apply Has.there)) (by rfl)) ?_
    refine Jl.buildSlice (by rfl) tsl27 tzr27_2 (by rfl) (by rfl) ?_
    intro b53
    refine Jl.seal (by repeat (first | exact Del.here | apply Del.there)) ?_
    refine Jl.call (evall_at (c := c) (x := x) (L := (some ⟨b53, 0, none⟩, 2)) (l := [⟨6, fl, 3⟩, ⟨6, fl, 3⟩]) bm hok.wf hok.n rfl (Nat.le_refl _) (by simp) ((twice_e hok fl).trans hs)) en12 (by rfl) (by repeat (first | exact Take.nil | apply Take.cons (by repeat (first | exact Del.here | apply Del.there)))) (by repeat (first | exact trivial | refine And.intro (by repeat (first | exact Mem.here | apply Mem.there)) ?_)) ?_
    rintro ⟨A54, c54⟩
    refine Jl.sealR (by repeat (first | exact Del.here | apply Del.there)) ?_
    refine Jl.alloc tze24 ?_
    intro b17
    refine Jl.storeW rfl tsh24 rfl (by rfl) (by first | exact Cl.cs_one _ _ | simp [Value.oneCell', Bx.cs]) (by repeat (first | exact Swap.here | apply Swap.there)) (by rfl) ?_
    refine Jl.nil ?_
    refine Jq.thenN ?_
    refine Jc.seq ?_
    refine Jc.region ?_
    refine Jl.pv (PR.loadW rfl tsh24 (by repeat (first | exact Has.here | apply Has.there)) (by rfl)) ?_
    refine Jl.pv (PR.move rfl) ?_
    refine Jl.pv (PR.build (by rfl) tze26 tpl26_0_1 (by rfl)) ?_
    refine Jl.call (evdo_at (c := c) (x := x) (e := ⟨3, ver, 0⟩) bm hok.wf hok.n hf) en10 (by rfl) (by repeat (first | exact Take.nil | apply Take.cons (by repeat (first | exact Del.here | apply Del.there)))) (by repeat (first | exact trivial | refine And.intro (by repeat (first | exact Mem.here | apply Mem.there)) ?_)) ?_
    rintro ⟨A58, c58⟩
    refine Jl.sealR (by repeat (first | exact Del.here | apply Del.there)) ?_
    refine Jl.alloc tze24 ?_
    intro b18
    refine Jl.storeW rfl tsh24 rfl (by rfl) (by first | exact Cl.cs_one _ _ | simp [Value.oneCell', Bx.cs]) (by repeat (first | exact Swap.here | apply Swap.there)) (by rfl) ?_
    refine Jl.nil ?_
    refine Jq.thenN ?_
    refine Jc.seq ?_
    refine Jc.seq ?_
    refine Jc.drawn [0, 0, 3, 7, 15, 31, 31, 127, 255, 511, 1023, 2047, 2047, 8191, 16383, 32767, 65535, 131071, 131071, 131071, 917503, 2097151, 4194303, 8388607] ([(22, false), (23, false)], []) [⟨[(0, false), (1, false)], [], 2⟩, ⟨[(3, false), (4, false), (5, false), (6, false)], [], 7⟩, ⟨[(8, false), (9, false), (10, false), (11, false), (12, false)], [], 13⟩, ⟨[(14, false), (15, false), (16, false), (17, false), (18, false), (19, false)], [], 20⟩, ⟨[], [], 21⟩] tmx (by kernel_rfl) ?_
    refine Dh.JH.cons ?_
    refine Dh.JB.rd [.blk _ _ _] rfl trivial (by repeat (first | exact Take.nil | apply Take.cons (by repeat (first | exact Del.here | apply Del.there)))) (fun _ => PR.loadW rfl tsh24 Has.here (by rfl)) ?_
    refine Dh.JB.rd [.blk _ _ _] rfl trivial (by repeat (first | exact Take.nil | apply Take.cons (by repeat (first | exact Del.here | apply Del.there)))) (fun _ => PR.loadW rfl tsh24 Has.here (by rfl)) ?_
    refine Dh.JB.nil ?_
    refine Dh.JL.nil ?_
    refine Dh.JE.mk rfl (fun _ h => by cases h) (fun C10_2 => ?_)
    refine Jl.call (rsame_eq c x (A25, c25) hok.n) en9 (by rfl) (by repeat (first | exact Take.nil | apply Take.cons (by repeat (first | exact Del.here | apply Del.there)))) (by repeat (first | exact trivial | refine And.intro (by repeat (first | exact Mem.here | apply Mem.there)) ?_)) ?_
    rintro ⟨⟩
    refine Jl.as (.bool true) (congrArg Value.bool rfl) ?_
    refine Jl.nil ?_
    refine Dh.Jq.segV (by repeat (first | exact Dh.FExt.refl | apply Dh.FExt.cons | apply Dh.FExt.app)) ?_ (by repeat (first | exact Dh.KeepL.nil | apply Dh.KeepL.anc (by rfl) | apply Dh.KeepL.keep (by repeat (first | exact Take.nil | apply Take.cons (by repeat (first | exact Del.here | apply Del.there))))))
    refine Dh.JH.cons ?_
    refine Dh.JB.pv rfl trivial (fun _ => PR.not rfl) ?_
    refine Dh.JB.pv rfl trivial (fun _ => PR.move rfl) ?_
    refine Dh.JB.rd [.blk _ _ _] rfl ⟨_, rfl, rfl⟩ (by repeat (first | exact Take.nil | apply Take.cons (by repeat (first | exact Del.here | apply Del.there)))) (fun _ => PR.loadW rfl tsh24 Has.here (by rfl)) ?_
    refine Dh.JB.rd [.blk _ _ _] rfl ⟨_, rfl, rfl⟩ (by repeat (first | exact Take.nil | apply Take.cons (by repeat (first | exact Del.here | apply Del.there)))) (fun _ => PR.loadW rfl tsh24 Has.here (by rfl)) ?_
    refine Dh.JB.nil ?_
    refine Dh.JL.nil ?_
    refine Dh.JE.mk rfl (fun _ h => by cases h) (fun C10_7 => ?_)
    refine Jl.on rfl rfl ?_
    refine Jl.call (rsame_eq c (A39, c39) x hok.n) en9 (by rfl) (by repeat (first | exact Take.nil | apply Take.cons (by repeat (first | exact Del.here | apply Del.there)))) (by repeat (first | exact trivial | refine And.intro (by repeat (first | exact Mem.here | apply Mem.there)) ?_)) ?_
    rintro ⟨⟩
    refine Jl.as (.bool true) (congrArg Value.bool rfl) ?_
    refine Jl.nil ?_
    refine Dh.Jq.segV (by repeat (first | exact Dh.FExt.refl | apply Dh.FExt.cons | apply Dh.FExt.app)) ?_ (by repeat (first | exact Dh.KeepL.nil | apply Dh.KeepL.anc (by rfl) | apply Dh.KeepL.keep (by repeat (first | exact Take.nil | apply Take.cons (by repeat (first | exact Del.here | apply Del.there))))))
    refine Dh.JH.cons ?_
    refine Dh.JB.pv rfl ⟨_, rfl, rfl⟩ (fun _ => PR.not rfl) ?_
    refine Dh.JB.pv rfl trivial (fun _ => PR.pickF rfl rfl) ?_
    refine Dh.JB.pv rfl trivial (fun _ => PR.move rfl) ?_
    refine Dh.JB.rd [.blk _ _ _] rfl ⟨_, rfl, rfl⟩ (by repeat (first | exact Take.nil | apply Take.cons (by repeat (first | exact Del.here | apply Del.there)))) (fun _ => PR.loadW rfl tsh24 Has.here (by rfl)) ?_
    refine Dh.JB.rd [.blk _ _ _] rfl ⟨_, rfl, rfl⟩ (by repeat (first | exact Take.nil | apply Take.cons (by repeat (first | exact Del.here | apply Del.there)))) (fun _ => PR.loadW rfl tsh24 Has.here (by rfl)) ?_
    refine Dh.JB.nil ?_
    refine Dh.JL.nil ?_
    refine Dh.JE.mk rfl (fun _ h => by cases h) (fun C10_13 => ?_)
    refine Jl.on rfl rfl ?_
    refine Jl.call (rsame_eq b (A43, c43) (A49, c49) hbo.n) en9 (by rfl) (by repeat (first | exact Take.nil | apply Take.cons (by repeat (first | exact Del.here | apply Del.there)))) (by repeat (first | exact trivial | refine And.intro (by repeat (first | exact Mem.here | apply Mem.there)) ?_)) ?_
    rintro ⟨⟩
    refine Jl.as (.bool true) (congrArg Value.bool rfl) ?_
    refine Jl.nil ?_
    refine Dh.Jq.segV (by repeat (first | exact Dh.FExt.refl | apply Dh.FExt.cons | apply Dh.FExt.app)) ?_ (by repeat (first | exact Dh.KeepL.nil | apply Dh.KeepL.anc (by rfl) | apply Dh.KeepL.keep (by repeat (first | exact Take.nil | apply Take.cons (by repeat (first | exact Del.here | apply Del.there))))))
    refine Dh.JH.cons ?_
    refine Dh.JB.pv rfl ⟨_, rfl, rfl⟩ (fun _ => PR.not rfl) ?_
    refine Dh.JB.pv rfl trivial (fun _ => PR.pickF rfl rfl) ?_
    refine Dh.JB.pv rfl trivial (fun _ => PR.move rfl) ?_
    refine Dh.JB.rd [.blk _ _ _] rfl ⟨_, rfl, rfl⟩ (by repeat (first | exact Take.nil | apply Take.cons (by repeat (first | exact Del.here | apply Del.there)))) (fun _ => PR.loadW rfl tsh24 Has.here (by rfl)) ?_
    refine Dh.JB.rd [.blk _ _ _] rfl ⟨_, rfl, rfl⟩ (by repeat (first | exact Take.nil | apply Take.cons (by repeat (first | exact Del.here | apply Del.there)))) (fun _ => PR.loadW rfl tsh24 Has.here (by rfl)) ?_
    refine Dh.JB.rd [.blk _ _ _] rfl ⟨_, rfl, rfl⟩ (by repeat (first | exact Take.nil | apply Take.cons (by repeat (first | exact Del.here | apply Del.there)))) (fun _ => PR.loadW rfl tsh26 Has.here (by rfl)) ?_
    refine Dh.JB.nil ?_
    refine Dh.JL.nil ?_
    refine Dh.JE.mk rfl (fun _ h => by cases h) (fun C10_20 => ?_)
    refine Jl.on rfl rfl ?_
    refine Jl.call (evdo_at (c := c) (x := x) (e := ⟨6, fl, 3⟩) bm hok.wf hok.n hs) en10 (by rfl) (by repeat (first | exact Take.nil | apply Take.cons (by repeat (first | exact Del.here | apply Del.there)))) (by repeat (first | exact trivial | refine And.intro (by repeat (first | exact Mem.here | apply Mem.there)) ?_)) ?_
    rintro ⟨A79, c79⟩
    refine Jl.sealR (by repeat (first | exact Del.here | apply Del.there)) ?_
    refine Jl.nil ?_
    refine Dh.Jq.segV (by repeat (first | exact Dh.FExt.refl | apply Dh.FExt.cons | apply Dh.FExt.app)) ?_ (by repeat (first | exact Dh.KeepL.nil | apply Dh.KeepL.anc (by rfl) | apply Dh.KeepL.keep (by repeat (first | exact Take.nil | apply Take.cons (by repeat (first | exact Del.here | apply Del.there))))))
    refine Dh.JH.cons ?_
    refine Dh.JB.nil ?_
    refine Dh.JL.nil ?_
    refine Dh.JE.mk rfl (fun _ h => by cases h) (fun C10_21 => ?_)
    refine Jl.on rfl rfl ?_
    refine Jl.call (rsame_eq s (A54, c54) (A79, c79) hso.n) en9 (by rfl) (by repeat (first | exact Take.nil | apply Take.cons (by repeat (first | exact Del.here | apply Del.there)))) (by repeat (first | exact trivial | refine And.intro (by repeat (first | exact Mem.here | apply Mem.there)) ?_)) ?_
    rintro ⟨⟩
    refine Jl.as (.bool true) (congrArg Value.bool rfl) ?_
    refine Jl.nil ?_
    refine Dh.Jq.segV (by repeat (first | exact Dh.FExt.refl | apply Dh.FExt.cons | apply Dh.FExt.app)) ?_ (by repeat (first | exact Dh.KeepL.nil | apply Dh.KeepL.anc (by rfl) | apply Dh.KeepL.keep (by repeat (first | exact Take.nil | apply Take.cons (by repeat (first | exact Del.here | apply Del.there))))))
    refine Dh.JH.nil ?_
    refine Dh.JB.pv rfl ⟨_, rfl, rfl⟩ (fun _ => PR.not rfl) ?_
    refine Dh.JB.pv rfl trivial (fun _ => PR.pickF rfl rfl) ?_
    refine Dh.JB.nil ?_
    refine Dh.JL.nil ?_
    refine Jq.thenN ?_
    refine Jc.condF rfl ?_
    refine Jc.skip ?_
    refine Jq.thenN ?_
    refine Jc.seq ?_
    refine Jc.seq ?_
    refine Jc.region ?_
    refine Jl.pv (PR.move rfl) ?_
    refine Jl.pv (PR.geq _ rfl rfl rfl) ?_
    refine Jl.pv (PR.move rfl) ?_
    refine Jl.bsplit (fun g85 => ?_) (fun g85 => ?_)
    · try replace g85 := of_decide_eq_true g85
      refine Jl.on rfl rfl ?_
      refine Jl.pv (PR.move rfl) ?_
      refine Jl.on rfl rfl ?_
      refine Jl.pv (PR.leq _ rfl rfl rfl) ?_
      refine Jl.pv (PR.pickT rfl rfl) ?_
      refine Jl.pv (PR.move rfl) ?_
      refine Jl.bsplit (fun g89 => ?_) (fun g89 => ?_)
      · try replace g89 := of_decide_eq_true g89
        have hsf := twice_fl hok g85 g89
        rw [hs] at hsf
        refine Jl.on rfl rfl ?_
        refine Jl.pv (PR.fieldAddr rfl tfl24_1) ?_
        refine Jl.on rfl rfl ?_
        refine Jl.pv (PR.load1 rfl tsh3 (by repeat (first | exact Has.here | apply Has.there)) (by rfl)) ?_
        refine Jl.on rfl rfl ?_
        refine Jl.pv (PR.move rfl) ?_
        refine Jl.on rfl rfl ?_
        refine Jl.pv (PR.neq false rfl rfl (by simp [hsf.1])) ?_
        refine Jl.on rfl rfl ?_
        refine Jl.pv (PR.move rfl) ?_
        refine Jl.on rfl rfl ?_
        refine Jl.pv (PR.fieldAddr rfl tfl24_2) ?_
        refine Jl.on rfl rfl ?_
        refine Jl.pv (PR.load1 rfl tsh3 (by repeat (first | exact Has.here | apply Has.there)) (by rfl)) ?_
        refine Jl.on rfl rfl ?_
        refine Jl.pv (PR.neq false rfl rfl (by simp [hsf.2])) ?_
        refine Jl.on rfl rfl ?_
        refine Jl.pv (PR.pickF rfl rfl) ?_
        refine Jl.pv (PR.pickT rfl rfl) ?_
        refine Jl.nil ?_
        refine Jq.thenN ?_
        refine Jc.condF rfl ?_
        refine Jc.skip ?_
        refine Jq.thenN ?_
        refine Jc.seq ?_
        refine Jc.region ?_
        refine Jl.pv (PR.move rfl) ?_
        refine Jl.pv (PR.geq _ rfl rfl rfl) ?_
        refine Jl.pv (PR.move rfl) ?_
        refine Jl.bsplit (fun g102 => ?_) (fun g102 => ?_)
        · try replace g102 := of_decide_eq_true g102
          refine Jl.on rfl rfl ?_
          refine Jl.pv (PR.move rfl) ?_
          refine Jl.on rfl rfl ?_
          refine Jl.pv (PR.leq _ rfl rfl rfl) ?_
          refine Jl.pv (PR.pickT rfl rfl) ?_
          refine Jl.pv (PR.move rfl) ?_
          refine Jl.bsplit (fun g106 => ?_) (fun g106 => ?_)
          · try replace g106 := of_decide_eq_true g106
            have hv : okN ver = true := okN_iff.2 ⟨g102, g106⟩
            refine Jl.on rfl rfl ?_
            refine Jl.pv (PR.fieldAddr rfl tfl24_0) ?_
            refine Jl.on rfl rfl ?_
            refine Jl.pv (PR.load1 rfl tsh22 (by repeat (first | exact Has.here | apply Has.there)) (by rfl)) ?_
            refine Jl.on rfl rfl ?_
            refine Jl.pv (PR.len rfl tsl22) ?_
            refine Jl.on rfl rfl ?_
            refine Jl.pv (PR.lss _ rfl rfl rfl) ?_
            refine Jl.pv (PR.pickT rfl rfl) ?_
            refine Jl.pv (PR.assign rfl) ?_
            refine Jl.nil ?_
            refine Jq.thenN ?_
            refine Jc.seq ?_
            refine Jc.region ?_
            refine Jl.pv (PR.fieldAddr rfl tfl24_0) ?_
            refine Jl.pv (PR.load1 rfl tsh22 (by repeat (first | exact Has.here | apply Has.there)) (by rfl)) ?_
            refine Jl.pv (PR.len rfl tsl22) ?_
            refine Jl.pv (PR.fieldAddr rfl tfl24_0) ?_
            refine Jl.pv (PR.load1 rfl tsh22 (by repeat (first | exact Has.here | apply Has.there)) (by rfl)) ?_
            refine Jl.pv (PR.len rfl tsl22) ?_
            refine Jl.pv (PR.add ((c.bs.length : Int) + 1) rfl rfl (w64 (by omega) (by omega))) ?_
            refine Jl.pv (PR.eql _ rfl rfl rfl) ?_
            refine Jl.pv (PR.move rfl) ?_
            refine Jl.pv (PR.beql true Tryd.underlying4 rfl rfl (by simp [hv] at hfl; rw [beq_iff_eq, decide_eq_decide]; omega)) ?_
            refine Jl.pv (PR.move rfl) ?_
            refine Jl.on rfl rfl ?_
            refine Jl.pv (PR.loadW rfl tsh24 (by repeat (first | exact Has.here | apply Has.there)) (by rfl)) ?_
            refine Jl.on rfl rfl ?_
            refine Jl.pv (PR.move rfl) ?_
            refine Jl.on rfl rfl ?_
            refine Jl.call (rfind_at (x := (A43, c43)) (show fndI b.bs id = -1 by rw [fndI, hbf]) hbo.n) en19 (by rfl) (by repeat (first | exact Take.nil | apply Take.cons (by repeat (first | exact Del.here | apply Del.there)))) (by repeat (first | exact trivial | refine And.intro (by repeat (first | exact Mem.here | apply Mem.there)) ?_)) ?_
            rintro ⟨⟩
            refine Jl.on rfl rfl ?_
            refine Jl.pv (PR.eql true rfl rfl (by decide)) ?_
            refine Jl.pv (PR.pickT rfl rfl) ?_
            refine Jl.pv (PR.move rfl) ?_
            refine Jl.on rfl rfl ?_
            refine Jl.call (evwakes_ct bm) en8 (by rfl) (by repeat (first | exact Take.nil | apply Take.cons (by repeat (first | exact Del.here | apply Del.there)))) (by repeat (first | exact trivial | refine And.intro (by repeat (first | exact Mem.here | apply Mem.there)) ?_)) ?_
            rintro ⟨⟩
            refine Jl.pv (PR.pickT rfl rfl) ?_
            refine Jl.pv (PR.assign rfl) ?_
            refine Jl.nil ?_
            refine Jq.thenN ?_
            refine Jc.ret ?_
            exact Jq.fin () (.inl rfl) rfl (RetVs.tmp rfl RetVs.nil) rfl (by repeat (first | exact Take.nil | apply Take.cons (by repeat (first | exact Del.here | apply Del.there)))) (by repeat (first | exact trivial | refine And.intro (by repeat (first | exact Mem.here | apply Mem.there)) ?_))
          · try replace g106 := of_decide_eq_false g106
            have hv : okN ver = false := okN_not.2 (by omega)
            refine Jl.offS rfl rfl rfl ?_
            refine Jl.offS rfl rfl rfl ?_
            refine Jl.offS rfl rfl rfl ?_
            refine Jl.offS rfl rfl rfl ?_
            refine Jl.pv (PR.pickF rfl rfl) ?_
            refine Jl.pv (PR.assign rfl) ?_
            refine Jl.nil ?_
            refine Jq.thenN ?_
            refine Jc.seq ?_
            refine Jc.region ?_
            refine Jl.pv (PR.fieldAddr rfl tfl24_0) ?_
            refine Jl.pv (PR.load1 rfl tsh22 (by repeat (first | exact Has.here | apply Has.there)) (by rfl)) ?_
            refine Jl.pv (PR.len rfl tsl22) ?_
            refine Jl.pv (PR.fieldAddr rfl tfl24_0) ?_
            refine Jl.pv (PR.load1 rfl tsh22 (by repeat (first | exact Has.here | apply Has.there)) (by rfl)) ?_
            refine Jl.pv (PR.len rfl tsl22) ?_
            refine Jl.pv (PR.add ((c.bs.length : Int) + 1) rfl rfl (w64 (by omega) (by omega))) ?_
            refine Jl.pv (PR.eql _ rfl rfl rfl) ?_
            refine Jl.pv (PR.move rfl) ?_
            refine Jl.pv (PR.beql true Tryd.underlying4 rfl rfl (by simp [hv] at hfl; simp; omega)) ?_
            refine Jl.pv (PR.move rfl) ?_
            refine Jl.on rfl rfl ?_
            refine Jl.pv (PR.loadW rfl tsh24 (by repeat (first | exact Has.here | apply Has.there)) (by rfl)) ?_
            refine Jl.on rfl rfl ?_
            refine Jl.pv (PR.move rfl) ?_
            refine Jl.on rfl rfl ?_
            refine Jl.call (rfind_at (x := (A43, c43)) (show fndI b.bs id = -1 by rw [fndI, hbf]) hbo.n) en19 (by rfl) (by repeat (first | exact Take.nil | apply Take.cons (by repeat (first | exact Del.here | apply Del.there)))) (by repeat (first | exact trivial | refine And.intro (by repeat (first | exact Mem.here | apply Mem.there)) ?_)) ?_
            rintro ⟨⟩
            refine Jl.on rfl rfl ?_
            refine Jl.pv (PR.eql true rfl rfl (by decide)) ?_
            refine Jl.pv (PR.pickT rfl rfl) ?_
            refine Jl.pv (PR.move rfl) ?_
            refine Jl.on rfl rfl ?_
            refine Jl.call (evwakes_ct bm) en8 (by rfl) (by repeat (first | exact Take.nil | apply Take.cons (by repeat (first | exact Del.here | apply Del.there)))) (by repeat (first | exact trivial | refine And.intro (by repeat (first | exact Mem.here | apply Mem.there)) ?_)) ?_
            rintro ⟨⟩
            refine Jl.pv (PR.pickT rfl rfl) ?_
            refine Jl.pv (PR.assign rfl) ?_
            refine Jl.nil ?_
            refine Jq.thenN ?_
            refine Jc.ret ?_
            exact Jq.fin () (.inl rfl) rfl (RetVs.tmp rfl RetVs.nil) rfl (by repeat (first | exact Take.nil | apply Take.cons (by repeat (first | exact Del.here | apply Del.there)))) (by repeat (first | exact trivial | refine And.intro (by repeat (first | exact Mem.here | apply Mem.there)) ?_))
        · try replace g102 := of_decide_eq_false g102
          have hv : okN ver = false := okN_not.2 (by omega)
          refine Jl.offS rfl rfl rfl ?_
          refine Jl.offS rfl rfl rfl ?_
          refine Jl.pv (PR.pickF rfl rfl) ?_
          refine Jl.pv (PR.move rfl) ?_
          refine Jl.offS rfl rfl rfl ?_
          refine Jl.offS rfl rfl rfl ?_
          refine Jl.offS rfl rfl rfl ?_
          refine Jl.offS rfl rfl rfl ?_
          refine Jl.pv (PR.pickF rfl rfl) ?_
          refine Jl.pv (PR.assign rfl) ?_
          refine Jl.nil ?_
          refine Jq.thenN ?_
          refine Jc.seq ?_
          refine Jc.region ?_
          refine Jl.pv (PR.fieldAddr rfl tfl24_0) ?_
          refine Jl.pv (PR.load1 rfl tsh22 (by repeat (first | exact Has.here | apply Has.there)) (by rfl)) ?_
          refine Jl.pv (PR.len rfl tsl22) ?_
          refine Jl.pv (PR.fieldAddr rfl tfl24_0) ?_
          refine Jl.pv (PR.load1 rfl tsh22 (by repeat (first | exact Has.here | apply Has.there)) (by rfl)) ?_
          refine Jl.pv (PR.len rfl tsl22) ?_
          refine Jl.pv (PR.add ((c.bs.length : Int) + 1) rfl rfl (w64 (by omega) (by omega))) ?_
          refine Jl.pv (PR.eql _ rfl rfl rfl) ?_
          refine Jl.pv (PR.move rfl) ?_
          refine Jl.pv (PR.beql true Tryd.underlying4 rfl rfl (by simp [hv] at hfl; simp; omega)) ?_
          refine Jl.pv (PR.move rfl) ?_
          refine Jl.on rfl rfl ?_
          refine Jl.pv (PR.loadW rfl tsh24 (by repeat (first | exact Has.here | apply Has.there)) (by rfl)) ?_
          refine Jl.on rfl rfl ?_
          refine Jl.pv (PR.move rfl) ?_
          refine Jl.on rfl rfl ?_
          refine Jl.call (rfind_at (x := (A43, c43)) (show fndI b.bs id = -1 by rw [fndI, hbf]) hbo.n) en19 (by rfl) (by repeat (first | exact Take.nil | apply Take.cons (by repeat (first | exact Del.here | apply Del.there)))) (by repeat (first | exact trivial | refine And.intro (by repeat (first | exact Mem.here | apply Mem.there)) ?_)) ?_
          rintro ⟨⟩
          refine Jl.on rfl rfl ?_
          refine Jl.pv (PR.eql true rfl rfl (by decide)) ?_
          refine Jl.pv (PR.pickT rfl rfl) ?_
          refine Jl.pv (PR.move rfl) ?_
          refine Jl.on rfl rfl ?_
          refine Jl.call (evwakes_ct bm) en8 (by rfl) (by repeat (first | exact Take.nil | apply Take.cons (by repeat (first | exact Del.here | apply Del.there)))) (by repeat (first | exact trivial | refine And.intro (by repeat (first | exact Mem.here | apply Mem.there)) ?_)) ?_
          rintro ⟨⟩
          refine Jl.pv (PR.pickT rfl rfl) ?_
          refine Jl.pv (PR.assign rfl) ?_
          refine Jl.nil ?_
          refine Jq.thenN ?_
          refine Jc.ret ?_
          exact Jq.fin () (.inl rfl) rfl (RetVs.tmp rfl RetVs.nil) rfl (by repeat (first | exact Take.nil | apply Take.cons (by repeat (first | exact Del.here | apply Del.there)))) (by repeat (first | exact trivial | refine And.intro (by repeat (first | exact Mem.here | apply Mem.there)) ?_))
      · try replace g89 := of_decide_eq_false g89
        refine Jl.offS rfl rfl rfl ?_
        refine Jl.offS rfl rfl rfl ?_
        refine Jl.offS rfl rfl rfl ?_
        refine Jl.offS rfl rfl rfl ?_
        refine Jl.offS rfl rfl rfl ?_
        refine Jl.offUS rfl rfl ?_
        refine Jl.offUS rfl rfl ?_
        refine Jl.offUS rfl rfl ?_
        refine Jl.offS rfl rfl rfl ?_
        refine Jl.pv (PR.pickF rfl rfl) ?_
        refine Jl.nil ?_
        refine Jq.thenN ?_
        refine Jc.condF rfl ?_
        refine Jc.skip ?_
        refine Jq.thenN ?_
        refine Jc.seq ?_
        refine Jc.region ?_
        refine Jl.pv (PR.move rfl) ?_
        refine Jl.pv (PR.geq _ rfl rfl rfl) ?_
        refine Jl.pv (PR.move rfl) ?_
        refine Jl.bsplit (fun g102 => ?_) (fun g102 => ?_)
        · try replace g102 := of_decide_eq_true g102
          refine Jl.on rfl rfl ?_
          refine Jl.pv (PR.move rfl) ?_
          refine Jl.on rfl rfl ?_
          refine Jl.pv (PR.leq _ rfl rfl rfl) ?_
          refine Jl.pv (PR.pickT rfl rfl) ?_
          refine Jl.pv (PR.move rfl) ?_
          refine Jl.bsplit (fun g106 => ?_) (fun g106 => ?_)
          · try replace g106 := of_decide_eq_true g106
            have hv : okN ver = true := okN_iff.2 ⟨g102, g106⟩
            refine Jl.on rfl rfl ?_
            refine Jl.pv (PR.fieldAddr rfl tfl24_0) ?_
            refine Jl.on rfl rfl ?_
            refine Jl.pv (PR.load1 rfl tsh22 (by repeat (first | exact Has.here | apply Has.there)) (by rfl)) ?_
            refine Jl.on rfl rfl ?_
            refine Jl.pv (PR.len rfl tsl22) ?_
            refine Jl.on rfl rfl ?_
            refine Jl.pv (PR.lss _ rfl rfl rfl) ?_
            refine Jl.pv (PR.pickT rfl rfl) ?_
            refine Jl.pv (PR.assign rfl) ?_
            refine Jl.nil ?_
            refine Jq.thenN ?_
            refine Jc.seq ?_
            refine Jc.region ?_
            refine Jl.pv (PR.fieldAddr rfl tfl24_0) ?_
            refine Jl.pv (PR.load1 rfl tsh22 (by repeat (first | exact Has.here | apply Has.there)) (by rfl)) ?_
            refine Jl.pv (PR.len rfl tsl22) ?_
            refine Jl.pv (PR.fieldAddr rfl tfl24_0) ?_
            refine Jl.pv (PR.load1 rfl tsh22 (by repeat (first | exact Has.here | apply Has.there)) (by rfl)) ?_
            refine Jl.pv (PR.len rfl tsl22) ?_
            refine Jl.pv (PR.add ((c.bs.length : Int) + 1) rfl rfl (w64 (by omega) (by omega))) ?_
            refine Jl.pv (PR.eql _ rfl rfl rfl) ?_
            refine Jl.pv (PR.move rfl) ?_
            refine Jl.pv (PR.beql true Tryd.underlying4 rfl rfl (by simp [hv] at hfl; rw [beq_iff_eq, decide_eq_decide]; omega)) ?_
            refine Jl.pv (PR.move rfl) ?_
            refine Jl.on rfl rfl ?_
            refine Jl.pv (PR.loadW rfl tsh24 (by repeat (first | exact Has.here | apply Has.there)) (by rfl)) ?_
            refine Jl.on rfl rfl ?_
            refine Jl.pv (PR.move rfl) ?_
            refine Jl.on rfl rfl ?_
            refine Jl.call (rfind_at (x := (A43, c43)) (show fndI b.bs id = -1 by rw [fndI, hbf]) hbo.n) en19 (by rfl) (by repeat (first | exact Take.nil | apply Take.cons (by repeat (first | exact Del.here | apply Del.there)))) (by repeat (first | exact trivial | refine And.intro (by repeat (first | exact Mem.here | apply Mem.there)) ?_)) ?_
            rintro ⟨⟩
            refine Jl.on rfl rfl ?_
            refine Jl.pv (PR.eql true rfl rfl (by decide)) ?_
            refine Jl.pv (PR.pickT rfl rfl) ?_
            refine Jl.pv (PR.move rfl) ?_
            refine Jl.on rfl rfl ?_
            refine Jl.call (evwakes_ct bm) en8 (by rfl) (by repeat (first | exact Take.nil | apply Take.cons (by repeat (first | exact Del.here | apply Del.there)))) (by repeat (first | exact trivial | refine And.intro (by repeat (first | exact Mem.here | apply Mem.there)) ?_)) ?_
            rintro ⟨⟩
            refine Jl.pv (PR.pickT rfl rfl) ?_
            refine Jl.pv (PR.assign rfl) ?_
            refine Jl.nil ?_
            refine Jq.thenN ?_
            refine Jc.ret ?_
            exact Jq.fin () (.inl rfl) rfl (RetVs.tmp rfl RetVs.nil) rfl (by repeat (first | exact Take.nil | apply Take.cons (by repeat (first | exact Del.here | apply Del.there)))) (by repeat (first | exact trivial | refine And.intro (by repeat (first | exact Mem.here | apply Mem.there)) ?_))
          · try replace g106 := of_decide_eq_false g106
            have hv : okN ver = false := okN_not.2 (by omega)
            refine Jl.offS rfl rfl rfl ?_
            refine Jl.offS rfl rfl rfl ?_
            refine Jl.offS rfl rfl rfl ?_
            refine Jl.offS rfl rfl rfl ?_
            refine Jl.pv (PR.pickF rfl rfl) ?_
            refine Jl.pv (PR.assign rfl) ?_
            refine Jl.nil ?_
            refine Jq.thenN ?_
            refine Jc.seq ?_
            refine Jc.region ?_
            refine Jl.pv (PR.fieldAddr rfl tfl24_0) ?_
            refine Jl.pv (PR.load1 rfl tsh22 (by repeat (first | exact Has.here | apply Has.there)) (by rfl)) ?_
            refine Jl.pv (PR.len rfl tsl22) ?_
            refine Jl.pv (PR.fieldAddr rfl tfl24_0) ?_
            refine Jl.pv (PR.load1 rfl tsh22 (by repeat (first | exact Has.here | apply Has.there)) (by rfl)) ?_
            refine Jl.pv (PR.len rfl tsl22) ?_
            refine Jl.pv (PR.add ((c.bs.length : Int) + 1) rfl rfl (w64 (by omega) (by omega))) ?_
            refine Jl.pv (PR.eql _ rfl rfl rfl) ?_
            refine Jl.pv (PR.move rfl) ?_
            refine Jl.pv (PR.beql true Tryd.underlying4 rfl rfl (by simp [hv] at hfl; simp; omega)) ?_
            refine Jl.pv (PR.move rfl) ?_
            refine Jl.on rfl rfl ?_
            refine Jl.pv (PR.loadW rfl tsh24 (by repeat (first | exact Has.here | apply Has.there)) (by rfl)) ?_
            refine Jl.on rfl rfl ?_
            refine Jl.pv (PR.move rfl) ?_
            refine Jl.on rfl rfl ?_
            refine Jl.call (rfind_at (x := (A43, c43)) (show fndI b.bs id = -1 by rw [fndI, hbf]) hbo.n) en19 (by rfl) (by repeat (first | exact Take.nil | apply Take.cons (by repeat (first | exact Del.here | apply Del.there)))) (by repeat (first | exact trivial | refine And.intro (by repeat (first | exact Mem.here | apply Mem.there)) ?_)) ?_
            rintro ⟨⟩
            refine Jl.on rfl rfl ?_
            refine Jl.pv (PR.eql true rfl rfl (by decide)) ?_
            refine Jl.pv (PR.pickT rfl rfl) ?_
            refine Jl.pv (PR.move rfl) ?_
            refine Jl.on rfl rfl ?_
            refine Jl.call (evwakes_ct bm) en8 (by rfl) (by repeat (first | exact Take.nil | apply Take.cons (by repeat (first | exact Del.here | apply Del.there)))) (by repeat (first | exact trivial | refine And.intro (by repeat (first | exact Mem.here | apply Mem.there)) ?_)) ?_
            rintro ⟨⟩
            refine Jl.pv (PR.pickT rfl rfl) ?_
            refine Jl.pv (PR.assign rfl) ?_
            refine Jl.nil ?_
            refine Jq.thenN ?_
            refine Jc.ret ?_
            exact Jq.fin () (.inl rfl) rfl (RetVs.tmp rfl RetVs.nil) rfl (by repeat (first | exact Take.nil | apply Take.cons (by repeat (first | exact Del.here | apply Del.there)))) (by repeat (first | exact trivial | refine And.intro (by repeat (first | exact Mem.here | apply Mem.there)) ?_))
        · try replace g102 := of_decide_eq_false g102
          have hv : okN ver = false := okN_not.2 (by omega)
          refine Jl.offS rfl rfl rfl ?_
          refine Jl.offS rfl rfl rfl ?_
          refine Jl.pv (PR.pickF rfl rfl) ?_
          refine Jl.pv (PR.move rfl) ?_
          refine Jl.offS rfl rfl rfl ?_
          refine Jl.offS rfl rfl rfl ?_
          refine Jl.offS rfl rfl rfl ?_
          refine Jl.offS rfl rfl rfl ?_
          refine Jl.pv (PR.pickF rfl rfl) ?_
          refine Jl.pv (PR.assign rfl) ?_
          refine Jl.nil ?_
          refine Jq.thenN ?_
          refine Jc.seq ?_
          refine Jc.region ?_
          refine Jl.pv (PR.fieldAddr rfl tfl24_0) ?_
          refine Jl.pv (PR.load1 rfl tsh22 (by repeat (first | exact Has.here | apply Has.there)) (by rfl)) ?_
          refine Jl.pv (PR.len rfl tsl22) ?_
          refine Jl.pv (PR.fieldAddr rfl tfl24_0) ?_
          refine Jl.pv (PR.load1 rfl tsh22 (by repeat (first | exact Has.here | apply Has.there)) (by rfl)) ?_
          refine Jl.pv (PR.len rfl tsl22) ?_
          refine Jl.pv (PR.add ((c.bs.length : Int) + 1) rfl rfl (w64 (by omega) (by omega))) ?_
          refine Jl.pv (PR.eql _ rfl rfl rfl) ?_
          refine Jl.pv (PR.move rfl) ?_
          refine Jl.pv (PR.beql true Tryd.underlying4 rfl rfl (by simp [hv] at hfl; simp; omega)) ?_
          refine Jl.pv (PR.move rfl) ?_
          refine Jl.on rfl rfl ?_
          refine Jl.pv (PR.loadW rfl tsh24 (by repeat (first | exact Has.here | apply Has.there)) (by rfl)) ?_
          refine Jl.on rfl rfl ?_
          refine Jl.pv (PR.move rfl) ?_
          refine Jl.on rfl rfl ?_
          refine Jl.call (rfind_at (x := (A43, c43)) (show fndI b.bs id = -1 by rw [fndI, hbf]) hbo.n) en19 (by rfl) (by repeat (first | exact Take.nil | apply Take.cons (by repeat (first | exact Del.here | apply Del.there)))) (by repeat (first | exact trivial | refine And.intro (by repeat (first | exact Mem.here | apply Mem.there)) ?_)) ?_
          rintro ⟨⟩
          refine Jl.on rfl rfl ?_
          refine Jl.pv (PR.eql true rfl rfl (by decide)) ?_
          refine Jl.pv (PR.pickT rfl rfl) ?_
          refine Jl.pv (PR.move rfl) ?_
          refine Jl.on rfl rfl ?_
          refine Jl.call (evwakes_ct bm) en8 (by rfl) (by repeat (first | exact Take.nil | apply Take.cons (by repeat (first | exact Del.here | apply Del.there)))) (by repeat (first | exact trivial | refine And.intro (by repeat (first | exact Mem.here | apply Mem.there)) ?_)) ?_
          rintro ⟨⟩
          refine Jl.pv (PR.pickT rfl rfl) ?_
          refine Jl.pv (PR.assign rfl) ?_
          refine Jl.nil ?_
          refine Jq.thenN ?_
          refine Jc.ret ?_
          exact Jq.fin () (.inl rfl) rfl (RetVs.tmp rfl RetVs.nil) rfl (by repeat (first | exact Take.nil | apply Take.cons (by repeat (first | exact Del.here | apply Del.there)))) (by repeat (first | exact trivial | refine And.intro (by repeat (first | exact Mem.here | apply Mem.there)) ?_))
    · try replace g85 := of_decide_eq_false g85
      refine Jl.offS rfl rfl rfl ?_
      refine Jl.offS rfl rfl rfl ?_
      refine Jl.pv (PR.pickF rfl rfl) ?_
      refine Jl.pv (PR.move rfl) ?_
      refine Jl.offS rfl rfl rfl ?_
      refine Jl.offS rfl rfl rfl ?_
      refine Jl.offS rfl rfl rfl ?_
      refine Jl.offS rfl rfl rfl ?_
      refine Jl.offS rfl rfl rfl ?_
      refine Jl.offUS rfl rfl ?_
      refine Jl.offUS rfl rfl ?_
      refine Jl.offUS rfl rfl ?_
      refine Jl.offS rfl rfl rfl ?_
      refine Jl.pv (PR.pickF rfl rfl) ?_
      refine Jl.nil ?_
      refine Jq.thenN ?_
      refine Jc.condF rfl ?_
      refine Jc.skip ?_
      refine Jq.thenN ?_
      refine Jc.seq ?_
      refine Jc.region ?_
      refine Jl.pv (PR.move rfl) ?_
      refine Jl.pv (PR.geq _ rfl rfl rfl) ?_
      refine Jl.pv (PR.move rfl) ?_
      refine Jl.bsplit (fun g102 => ?_) (fun g102 => ?_)
      · try replace g102 := of_decide_eq_true g102
        refine Jl.on rfl rfl ?_
        refine Jl.pv (PR.move rfl) ?_
        refine Jl.on rfl rfl ?_
        refine Jl.pv (PR.leq _ rfl rfl rfl) ?_
        refine Jl.pv (PR.pickT rfl rfl) ?_
        refine Jl.pv (PR.move rfl) ?_
        refine Jl.bsplit (fun g106 => ?_) (fun g106 => ?_)
        · try replace g106 := of_decide_eq_true g106
          have hv : okN ver = true := okN_iff.2 ⟨g102, g106⟩
          refine Jl.on rfl rfl ?_
          refine Jl.pv (PR.fieldAddr rfl tfl24_0) ?_
          refine Jl.on rfl rfl ?_
          refine Jl.pv (PR.load1 rfl tsh22 (by repeat (first | exact Has.here | apply Has.there)) (by rfl)) ?_
          refine Jl.on rfl rfl ?_
          refine Jl.pv (PR.len rfl tsl22) ?_
          refine Jl.on rfl rfl ?_
          refine Jl.pv (PR.lss _ rfl rfl rfl) ?_
          refine Jl.pv (PR.pickT rfl rfl) ?_
          refine Jl.pv (PR.assign rfl) ?_
          refine Jl.nil ?_
          refine Jq.thenN ?_
          refine Jc.seq ?_
          refine Jc.region ?_
          refine Jl.pv (PR.fieldAddr rfl tfl24_0) ?_
          refine Jl.pv (PR.load1 rfl tsh22 (by repeat (first | exact Has.here | apply Has.there)) (by rfl)) ?_
          refine Jl.pv (PR.len rfl tsl22) ?_
          refine Jl.pv (PR.fieldAddr rfl tfl24_0) ?_
          refine Jl.pv (PR.load1 rfl tsh22 (by repeat (first | exact Has.here | apply Has.there)) (by rfl)) ?_
          refine Jl.pv (PR.len rfl tsl22) ?_
          refine Jl.pv (PR.add ((c.bs.length : Int) + 1) rfl rfl (w64 (by omega) (by omega))) ?_
          refine Jl.pv (PR.eql _ rfl rfl rfl) ?_
          refine Jl.pv (PR.move rfl) ?_
          refine Jl.pv (PR.beql true Tryd.underlying4 rfl rfl (by simp [hv] at hfl; rw [beq_iff_eq, decide_eq_decide]; omega)) ?_
          refine Jl.pv (PR.move rfl) ?_
          refine Jl.on rfl rfl ?_
          refine Jl.pv (PR.loadW rfl tsh24 (by repeat (first | exact Has.here | apply Has.there)) (by rfl)) ?_
          refine Jl.on rfl rfl ?_
          refine Jl.pv (PR.move rfl) ?_
          refine Jl.on rfl rfl ?_
          refine Jl.call (rfind_at (x := (A43, c43)) (show fndI b.bs id = -1 by rw [fndI, hbf]) hbo.n) en19 (by rfl) (by repeat (first | exact Take.nil | apply Take.cons (by repeat (first | exact Del.here | apply Del.there)))) (by repeat (first | exact trivial | refine And.intro (by repeat (first | exact Mem.here | apply Mem.there)) ?_)) ?_
          rintro ⟨⟩
          refine Jl.on rfl rfl ?_
          refine Jl.pv (PR.eql true rfl rfl (by decide)) ?_
          refine Jl.pv (PR.pickT rfl rfl) ?_
          refine Jl.pv (PR.move rfl) ?_
          refine Jl.on rfl rfl ?_
          refine Jl.call (evwakes_ct bm) en8 (by rfl) (by repeat (first | exact Take.nil | apply Take.cons (by repeat (first | exact Del.here | apply Del.there)))) (by repeat (first | exact trivial | refine And.intro (by repeat (first | exact Mem.here | apply Mem.there)) ?_)) ?_
          rintro ⟨⟩
          refine Jl.pv (PR.pickT rfl rfl) ?_
          refine Jl.pv (PR.assign rfl) ?_
          refine Jl.nil ?_
          refine Jq.thenN ?_
          refine Jc.ret ?_
          exact Jq.fin () (.inl rfl) rfl (RetVs.tmp rfl RetVs.nil) rfl (by repeat (first | exact Take.nil | apply Take.cons (by repeat (first | exact Del.here | apply Del.there)))) (by repeat (first | exact trivial | refine And.intro (by repeat (first | exact Mem.here | apply Mem.there)) ?_))
        · try replace g106 := of_decide_eq_false g106
          have hv : okN ver = false := okN_not.2 (by omega)
          refine Jl.offS rfl rfl rfl ?_
          refine Jl.offS rfl rfl rfl ?_
          refine Jl.offS rfl rfl rfl ?_
          refine Jl.offS rfl rfl rfl ?_
          refine Jl.pv (PR.pickF rfl rfl) ?_
          refine Jl.pv (PR.assign rfl) ?_
          refine Jl.nil ?_
          refine Jq.thenN ?_
          refine Jc.seq ?_
          refine Jc.region ?_
          refine Jl.pv (PR.fieldAddr rfl tfl24_0) ?_
          refine Jl.pv (PR.load1 rfl tsh22 (by repeat (first | exact Has.here | apply Has.there)) (by rfl)) ?_
          refine Jl.pv (PR.len rfl tsl22) ?_
          refine Jl.pv (PR.fieldAddr rfl tfl24_0) ?_
          refine Jl.pv (PR.load1 rfl tsh22 (by repeat (first | exact Has.here | apply Has.there)) (by rfl)) ?_
          refine Jl.pv (PR.len rfl tsl22) ?_
          refine Jl.pv (PR.add ((c.bs.length : Int) + 1) rfl rfl (w64 (by omega) (by omega))) ?_
          refine Jl.pv (PR.eql _ rfl rfl rfl) ?_
          refine Jl.pv (PR.move rfl) ?_
          refine Jl.pv (PR.beql true Tryd.underlying4 rfl rfl (by simp [hv] at hfl; simp; omega)) ?_
          refine Jl.pv (PR.move rfl) ?_
          refine Jl.on rfl rfl ?_
          refine Jl.pv (PR.loadW rfl tsh24 (by repeat (first | exact Has.here | apply Has.there)) (by rfl)) ?_
          refine Jl.on rfl rfl ?_
          refine Jl.pv (PR.move rfl) ?_
          refine Jl.on rfl rfl ?_
          refine Jl.call (rfind_at (x := (A43, c43)) (show fndI b.bs id = -1 by rw [fndI, hbf]) hbo.n) en19 (by rfl) (by repeat (first | exact Take.nil | apply Take.cons (by repeat (first | exact Del.here | apply Del.there)))) (by repeat (first | exact trivial | refine And.intro (by repeat (first | exact Mem.here | apply Mem.there)) ?_)) ?_
          rintro ⟨⟩
          refine Jl.on rfl rfl ?_
          refine Jl.pv (PR.eql true rfl rfl (by decide)) ?_
          refine Jl.pv (PR.pickT rfl rfl) ?_
          refine Jl.pv (PR.move rfl) ?_
          refine Jl.on rfl rfl ?_
          refine Jl.call (evwakes_ct bm) en8 (by rfl) (by repeat (first | exact Take.nil | apply Take.cons (by repeat (first | exact Del.here | apply Del.there)))) (by repeat (first | exact trivial | refine And.intro (by repeat (first | exact Mem.here | apply Mem.there)) ?_)) ?_
          rintro ⟨⟩
          refine Jl.pv (PR.pickT rfl rfl) ?_
          refine Jl.pv (PR.assign rfl) ?_
          refine Jl.nil ?_
          refine Jq.thenN ?_
          refine Jc.ret ?_
          exact Jq.fin () (.inl rfl) rfl (RetVs.tmp rfl RetVs.nil) rfl (by repeat (first | exact Take.nil | apply Take.cons (by repeat (first | exact Del.here | apply Del.there)))) (by repeat (first | exact trivial | refine And.intro (by repeat (first | exact Mem.here | apply Mem.there)) ?_))
      · try replace g102 := of_decide_eq_false g102
        have hv : okN ver = false := okN_not.2 (by omega)
        refine Jl.offS rfl rfl rfl ?_
        refine Jl.offS rfl rfl rfl ?_
        refine Jl.pv (PR.pickF rfl rfl) ?_
        refine Jl.pv (PR.move rfl) ?_
        refine Jl.offS rfl rfl rfl ?_
        refine Jl.offS rfl rfl rfl ?_
        refine Jl.offS rfl rfl rfl ?_
        refine Jl.offS rfl rfl rfl ?_
        refine Jl.pv (PR.pickF rfl rfl) ?_
        refine Jl.pv (PR.assign rfl) ?_
        refine Jl.nil ?_
        refine Jq.thenN ?_
        refine Jc.seq ?_
        refine Jc.region ?_
        refine Jl.pv (PR.fieldAddr rfl tfl24_0) ?_
        refine Jl.pv (PR.load1 rfl tsh22 (by repeat (first | exact Has.here | apply Has.there)) (by rfl)) ?_
        refine Jl.pv (PR.len rfl tsl22) ?_
        refine Jl.pv (PR.fieldAddr rfl tfl24_0) ?_
        refine Jl.pv (PR.load1 rfl tsh22 (by repeat (first | exact Has.here | apply Has.there)) (by rfl)) ?_
        refine Jl.pv (PR.len rfl tsl22) ?_
        refine Jl.pv (PR.add ((c.bs.length : Int) + 1) rfl rfl (w64 (by omega) (by omega))) ?_
        refine Jl.pv (PR.eql _ rfl rfl rfl) ?_
        refine Jl.pv (PR.move rfl) ?_
        refine Jl.pv (PR.beql true Tryd.underlying4 rfl rfl (by simp [hv] at hfl; simp; omega)) ?_
        refine Jl.pv (PR.move rfl) ?_
        refine Jl.on rfl rfl ?_
        refine Jl.pv (PR.loadW rfl tsh24 (by repeat (first | exact Has.here | apply Has.there)) (by rfl)) ?_
        refine Jl.on rfl rfl ?_
        refine Jl.pv (PR.move rfl) ?_
        refine Jl.on rfl rfl ?_
        refine Jl.call (rfind_at (x := (A43, c43)) (show fndI b.bs id = -1 by rw [fndI, hbf]) hbo.n) en19 (by rfl) (by repeat (first | exact Take.nil | apply Take.cons (by repeat (first | exact Del.here | apply Del.there)))) (by repeat (first | exact trivial | refine And.intro (by repeat (first | exact Mem.here | apply Mem.there)) ?_)) ?_
        rintro ⟨⟩
        refine Jl.on rfl rfl ?_
        refine Jl.pv (PR.eql true rfl rfl (by decide)) ?_
        refine Jl.pv (PR.pickT rfl rfl) ?_
        refine Jl.pv (PR.move rfl) ?_
        refine Jl.on rfl rfl ?_
        refine Jl.call (evwakes_ct bm) en8 (by rfl) (by repeat (first | exact Take.nil | apply Take.cons (by repeat (first | exact Del.here | apply Del.there)))) (by repeat (first | exact trivial | refine And.intro (by repeat (first | exact Mem.here | apply Mem.there)) ?_)) ?_
        rintro ⟨⟩
        refine Jl.pv (PR.pickT rfl rfl) ?_
        refine Jl.pv (PR.assign rfl) ?_
        refine Jl.nil ?_
        refine Jq.thenN ?_
        refine Jc.ret ?_
        exact Jq.fin () (.inl rfl) rfl (RetVs.tmp rfl RetVs.nil) rfl (by repeat (first | exact Take.nil | apply Take.cons (by repeat (first | exact Del.here | apply Del.there)))) (by repeat (first | exact trivial | refine And.intro (by repeat (first | exact Mem.here | apply Mem.there)) ?_))
theorem eventEach_ct (c : Cl) (x L : AdC) (l : List Ev) (bm : Nat) (hL : l.length ≤ L.2) : Ct Tryd.prog 7 [c.v x, .slice L.1 l.length L.2] [] [.rd x.1 (bxsV c.bs), .rd L.1 (evsV l), .happens bm] (fun _ : Unit => .bool true) (fun _ => []) (fun _ => []) := by
  obtain ⟨B, cB⟩ := L
  refine Ct.of _ Tryd.func7 Tryd.ntmps7 rfl rfl (fun X W => ?_)
  refine Jc.seq ?_
  refine Jc.region ?_
  refine Jl.box rfl (by rfl) ?_
  intro b2
  refine Jl.pv (PR.assign rfl) ?_
  refine Jl.nil ?_
  refine Jq.thenN ?_
  refine Jc.seq ?_
  refine Jc.seq ?_
  refine Jc.region ?_
  refine Jl.pv (PR.move rfl) ?_
  refine Jl.pv (PR.len rfl tsl27) ?_
  refine Jl.pv (PR.gtr _ rfl rfl rfl) ?_
  refine Jl.pv (PR.move rfl) ?_
  refine Jl.bsplit (fun g13 => ?_) (fun g13 => ?_)
  · try replace g13 := of_decide_eq_true g13
    refine Jl.offS rfl rfl rfl ?_
    refine Jl.offS rfl rfl rfl ?_
    refine Jl.offS rfl rfl rfl ?_
    refine Jl.pv (PR.pickT rfl rfl) ?_
    refine Jl.nil ?_
    refine Jq.thenN ?_
    refine Jc.condT rfl ?_
    refine Jc.seq ?_
    refine Jc.region ?_
    refine Jl.call (evwakes_ct bm) en8 (by rfl) (by repeat (first | exact Take.nil | apply Take.cons (by repeat (first | exact Del.here | apply Del.there)))) (by repeat (first | exact trivial | refine And.intro (by repeat (first | exact Mem.here | apply Mem.there)) ?_)) ?_
    rintro ⟨⟩
    refine Jl.pv (PR.assign rfl) ?_
    refine Jl.nil ?_
    refine Jq.thenN ?_
    refine Jc.ret ?_
    refine Jq.thenR ?_
    exact Jq.fin () (.inl rfl) rfl (RetVs.tmp rfl RetVs.nil) rfl (by repeat (first | exact Take.nil | apply Take.cons (by repeat (first | exact Del.here | apply Del.there)))) (by repeat (first | exact trivial | refine And.intro (by repeat (first | exact Mem.here | apply Mem.there)) ?_))
  · try replace g13 := of_decide_eq_false g13
    refine Jl.on rfl rfl ?_
    refine Jl.pv (PR.loadW rfl tsh24 (by repeat (first | exact Has.here | apply Has.there)) (by rfl)) ?_
    refine Jl.on rfl rfl ?_
    refine Jl.call (rright'_ct c x) en16 (by rfl) (by repeat (first | exact Take.nil | apply Take.cons (by repeat (first | exact Del.here | apply Del.there)))) (by repeat (first | exact trivial | refine And.intro (by repeat (first | exact Mem.here | apply Mem.there)) ?_)) ?_
    rintro ⟨⟩
    refine Jl.on rfl rfl ?_
    refine Jl.pv (PR.not rfl) ?_
    refine Jl.pv (PR.pickF rfl rfl) ?_
    refine Jl.nil ?_
    refine Jq.thenN ?_
    refine Jc.cond rfl (fun h0 => ?_) (fun h0 => ?_)
    · try replace h0 := of_decide_eq_true h0
      refine Jc.seq ?_
      refine Jc.region ?_
      refine Jl.call (evwakes_ct bm) en8 (by rfl) (by repeat (first | exact Take.nil | apply Take.cons (by repeat (first | exact Del.here | apply Del.there)))) (by repeat (first | exact trivial | refine And.intro (by repeat (first | exact Mem.here | apply Mem.there)) ?_)) ?_
      rintro ⟨⟩
      refine Jl.pv (PR.assign rfl) ?_
      refine Jl.nil ?_
      refine Jq.thenN ?_
      refine Jc.ret ?_
      refine Jq.thenR ?_
      exact Jq.fin () (.inl rfl) rfl (RetVs.tmp rfl RetVs.nil) rfl (by repeat (first | exact Take.nil | apply Take.cons (by repeat (first | exact Del.here | apply Del.there)))) (by repeat (first | exact trivial | refine And.intro (by repeat (first | exact Mem.here | apply Mem.there)) ?_))
    · try replace h0 := of_decide_eq_false h0
      have hok : c.Ok := Cl.ok_iff.1 (not_false h0)
      have hWo : (allE c l).Ok := allE_Ok hok l
      refine Jc.skip ?_
      refine Jq.thenN ?_
      refine Jc.seq ?_
      refine Jc.region ?_
      refine Jl.pv (PR.loadW rfl tsh24 (by repeat (first | exact Has.here | apply Has.there)) (by rfl)) ?_
      refine Jl.pv (PR.move rfl) ?_
      refine Jl.call (evall_ct c x (B, cB) l bm hok.wf hok.n hL (by omega)) en12 (by rfl) (by repeat (first | exact Take.nil | apply Take.cons (by repeat (first | exact Del.here | apply Del.there)))) (by repeat (first | exact trivial | refine And.intro (by repeat (first | exact Mem.here | apply Mem.there)) ?_)) ?_
      rintro ⟨A21, c21⟩
      refine Jl.sealR (by repeat (first | exact Del.here | apply Del.there)) ?_
      refine Jl.alloc tze24 ?_
      intro b5
      refine Jl.storeW rfl tsh24 rfl (by rfl) (by first | exact Cl.cs_one _ _ | simp [Value.oneCell', Bx.cs]) (by repeat (first | exact Swap.here | apply Swap.there)) (by rfl) ?_
      refine Jl.nil ?_
      refine Jq.thenN ?_
      refine Jc.seq ?_
      refine Jc.seq ?_
      refine Jc.region ?_
      refine Jl.pv (PR.assign rfl) ?_
      refine Jl.nil ?_
      refine Jq.thenN ?_
      refine Jc.block ?_
      refine Jc.loop (σ := { s : Nat × Cl × AdC // s.1 ≤ l.length ∧ s.2.1.Ok ∧ allE c (l.take s.1) = s.2.1 }) (fun s => [(6, .int .i64 (s.1.1 : Int)), (1, .slice B l.length cB), (2, .pointer (some ⟨b2, 0, none⟩)), (5, .pointer (some ⟨b5, 0, none⟩))]) (fun s => [.blk b5 24 ((allE c l).cs (A21, c21)), .blk b2 24 (s.1.2.1.cs s.1.2.2)]) (fun s => [.rd A21 (bxsV (allE c l).bs), .rd s.1.2.2.1 (bxsV s.1.2.1.bs), .rd B (evsV l), .happens bm]) (fun s => l.length - s.1.1) ⟨(0, c, x), Nat.zero_le _, hok, rfl⟩ (by repeat (first | exact trivial | refine And.intro rfl ?_)) rfl (by repeat (first | exact trivial | refine And.intro (by repeat (first | exact Mem.here | apply Mem.there)) ?_)) ?_
      rintro ⟨⟨k, d, y⟩, hk, hdo, hdk⟩
      show Jc _ _ _ _ _ _ [(6, Value.int .i64 (k : Int)), (1, .slice B l.length cB), (2, .pointer (some ⟨b2, 0, none⟩)), (5, .pointer (some ⟨b5, 0, none⟩))] [.blk b5 24 ((allE c l).cs (A21, c21)), .blk b2 24 (d.cs y)] [.rd A21 (bxsV (allE c l).bs), .rd y.1 (bxsV d.bs), .rd B (evsV l), .happens bm]
      refine Jc.seq ?_
      refine Jc.seq ?_
      refine Jc.region ?_
      refine Jl.pv (PR.move rfl) ?_
      refine Jl.pv (PR.move rfl) ?_
      refine Jl.pv (PR.len rfl tsl27) ?_
      refine Jl.pv (PR.lss _ rfl rfl rfl) ?_
      refine Jl.nil ?_
      refine Jq.thenN ?_
      refine Jc.cond rfl (fun h1 => ?_) (fun h1 => ?_)
      · try replace h1 := of_decide_eq_true h1
        have hlt : k < l.length := by have : (k : Int) < l.length := h1; omega
        have hdn : d.bs.length ≤ 60 := hdo.len
        have hnx := allE_take (c := c) hlt
        have hdk' : allE c (l.take k) = d := hdk
        rw [hdk'] at hnx
        obtain ⟨e, he⟩ : ∃ e, l[k] = e := ⟨_, rfl⟩
        rw [he] at hnx
        have hdd := doE_ok hdo e
        obtain ⟨d', hd'⟩ : ∃ d', happ d e = d' := ⟨_, rfl⟩
        rw [hd'] at hdd
        rw [hdd] at hnx
        have hdo' : d'.Ok := hd' ▸ happ_Ok hdo e
        have hlen := happ_len d e
        have hnow := happ_now d e
        have hbox := happ_box d e
        have hti := happ_ti d e
        have hfl := happ_fl d e
        rw [hd'] at hlen hnow hti hfl
        have hbox' : ∀ j, (hj : j < d.bs.length) → (hj' : j < d'.bs.length) → evBox e d.bs[j] d'.bs[j] := fun j hj hj' => by subst hd'; exact hbox j hj
        have hek : ∀ k : UInt8, decide (((e.k.toNat : Nat) : Int) = ((k.toNat : Nat) : Int)) = decide (e.k = k) := fun k => decide_eq_decide.2 ⟨fun h => UInt8.toNat_inj.1 (by omega), fun h => by rw [h]⟩
        have hev : (evsV l)[k * 3]? = some (.int .u8 e.k.toNat) := by rw [← he]; exact (takeL_spec (evs_at hlt)).2 0 _ rfl
        have hea : (evsV l)[k * 3 + 1]? = some (.int .i64 e.a) := by rw [← he]; exact (takeL_spec (evs_at hlt)).2 1 _ rfl
        have hsz : k * 3 + 3 ≤ (evsV l).length := by rw [evsV_len]; omega
        refine Jc.skip ?_
        refine Jq.thenN ?_
        refine Jc.seq ?_
        refine Jc.block ?_
        refine Jc.seq ?_
        refine Jc.drawn [0, 0, 0, 6, 14, 31, 0, 127] ([], []) [⟨[(0, false), (1, false), (2, false), (3, false), (4, false), (6, true)], [], 5⟩, ⟨[], [6], 7⟩] tmx (by kernel_rfl) ?_
        refine Dh.JH.cons ?_
        refine Dh.JB.rd [.blk _ _ _] rfl trivial (by repeat (first | exact Take.nil | apply Take.cons (by repeat (first | exact Del.here | apply Del.there)))) (fun _ => PR.loadW rfl tsh24 Has.here (by rfl)) ?_
        refine Dh.JB.pv rfl trivial (fun _ => PR.move rfl) ?_
        refine Dh.JB.pv rfl trivial (fun _ => PR.move rfl) ?_
        refine Dh.JB.pv rfl trivial (fun _ => PR.idx k rfl rfl tsl27 (by repeat (first | exact Mem.here | apply Mem.there)) (evsV_len _) (by omega) rfl hlt) ?_
        refine Dh.JB.pv rfl trivial (fun _ => PR.loadRA rfl tsh26 (by repeat (first | exact Mem.here | apply Mem.there)) (by decide) (by rw [evs_at hlt, he])) ?_
        refine Dh.JB.alloc rfl trivial tze24 ?_
        refine Dh.JB.nil ?_
        refine Dh.JL.nil ?_
        refine Dh.JE.mk rfl (fun _ h => by cases h) (fun C7_5 => ?_)
        refine Jl.call (evdo_at (c := d) (x := y) (e := e) bm hdo.wf hdo.n hdd) en10 (by rfl) (by repeat (first | exact Take.nil | apply Take.cons (by repeat (first | exact Del.here | apply Del.there)))) (by repeat (first | exact trivial | refine And.intro (by repeat (first | exact Mem.here | apply Mem.there)) ?_)) ?_
        rintro ⟨A33, c33⟩
        refine Jl.sealR (by repeat (first | exact Del.here | apply Del.there)) ?_
        refine Jl.nil ?_
        refine Dh.Jq.segV (by repeat (first | exact Dh.FExt.refl | apply Dh.FExt.cons | apply Dh.FExt.app)) ?_ (by repeat (first | exact Dh.KeepL.nil | apply Dh.KeepL.anc (by rfl) | apply Dh.KeepL.keep (by repeat (first | exact Take.nil | apply Take.cons (by repeat (first | exact Del.here | apply Del.there))))))
        refine Dh.JH.cons ?_
        refine Dh.JB.nil ?_
        refine Dh.JL.ptr rfl (by repeat (first | exact Dh.es_here | apply Dh.es_there)) (fun b7 => ?_)
        refine Dh.JL.nil ?_
        refine Dh.JE.mk rfl (fun _ h => by cases h) (fun C7_7 => ?_)
        refine Jl.storeW rfl tsh24 rfl (by rfl) (by first | exact Cl.cs_one _ _ | simp [Value.oneCell', Bx.cs]) (by repeat (first | exact Swap.here | apply Swap.there)) (by rfl) ?_
        refine Jl.nil ?_
        refine Dh.Jq.segN (by repeat (first | exact Dh.FExt.refl | apply Dh.FExt.cons | apply Dh.FExt.app)) ?_ (by repeat (first | exact Dh.KeepL.nil | apply Dh.KeepL.anc (by rfl) | apply Dh.KeepL.keep (by repeat (first | exact Take.nil | apply Take.cons (by repeat (first | exact Del.here | apply Del.there))))))
        refine Dh.JH.nil ?_
        refine Dh.JB.nil ?_
        refine Dh.JL.nil ?_
        refine Jq.thenN ?_
        refine Jc.mid (σ := Unit) (fun _ => [(6, .int .i64 (k : Int)), (1, .slice B l.length cB), (2, .pointer (some ⟨b2, 0, none⟩)), (5, .pointer (some ⟨b5, 0, none⟩)), (7, .pointer (some ⟨b7, 0, none⟩))]) (fun _ => [.blk b7 24 (d'.cs (A33, c33)), .blk b5 24 ((allE c l).cs (A21, c21)), .blk b2 24 (d.cs y)]) (fun _ => [.rd A33 (bxsV d'.bs), .rd A21 (bxsV (allE c l).bs), .rd y.1 (bxsV d.bs), .rd B (evsV l), .happens bm]) ?_ ?_
        · refine Jc.seq ?_
          refine Jc.drawn [0, 1, 3, 0, 8, 24, 63, 127, 255, 511, 255, 1279, 4095, 255, 255, 24831, 57599, 123135, 254207, 524287, 1048575, 2097151, 4194303, 8388607, 4194303, 20971519, 67108863, 134217727, 268435455, 536870911, 268435455, 1342177279, 4294967295, 8589934591, 17179869183, 34359738367, 34359738367, 137438953471, 274877906943, 549755813887, 1099511627775, 2199023255551, 4398046511103, 8796093022207, 17592186044415, 35184372088831, 17592186044415, 87960930222079, 281474976710655, 562949953421311, 1125899906842623, 1125899906842623, 4503599627370495, 9007199254740991, 18014398509481983, 36028797018963967, 72057594037927935, 144115188075855871] ([(0, false), (1, false), (2, false), (3, false), (4, false), (5, false), (6, false), (7, false), (8, false), (9, false), (10, false), (11, false), (12, false), (13, false), (14, false), (15, false), (16, false), (17, false), (18, false), (19, false), (20, false), (21, false), (22, false), (23, false), (24, false), (25, false), (26, false), (27, false), (28, false), (29, false), (30, false), (31, false), (32, false), (33, false), (34, false), (35, false), (36, false), (37, false), (38, false), (39, false), (40, false), (41, false), (42, false), (43, false), (44, false), (45, false), (46, false), (47, false), (48, false), (49, false), (50, false), (51, false), (52, false), (53, false), (54, false), (55, false), (56, false), (57, false)], []) [] tmx (by kernel_rfl) ?_
          refine Dh.JH.nil ?_
          refine Dh.JB.pv rfl trivial (fun _ => PR.fieldAddr rfl tfl24_0) ?_
          refine Dh.JB.rd [.blk _ _ _] rfl trivial (by repeat (first | exact Take.nil | apply Take.cons (by repeat (first | exact Del.here | apply Del.there)))) (fun _ => PR.load1 rfl tsh22 Has.here (by rfl)) ?_
          refine Dh.JB.pv rfl trivial (fun _ => PR.len rfl tsl22) ?_
          refine Dh.JB.pv rfl trivial (fun _ => PR.fieldAddr rfl tfl24_0) ?_
          refine Dh.JB.rd [.blk _ _ _] rfl trivial (by repeat (first | exact Take.nil | apply Take.cons (by repeat (first | exact Del.here | apply Del.there)))) (fun _ => PR.load1 rfl tsh22 Has.here (by rfl)) ?_
          refine Dh.JB.pv rfl trivial (fun _ => PR.len rfl tsl22) ?_
          refine Dh.JB.pv rfl trivial (fun _ => PR.lss false rfl rfl (by simp; omega)) ?_
          refine Dh.JB.pv rfl trivial (fun _ => PR.move rfl) ?_
          refine Dh.JB.pv rfl ⟨_, rfl, rfl⟩ (fun _ => PR.fieldAddr rfl tfl24_4) ?_
          refine Dh.JB.rd [.blk _ _ _] rfl ⟨_, rfl, rfl⟩ (by repeat (first | exact Take.nil | apply Take.cons (by repeat (first | exact Del.here | apply Del.there)))) (fun _ => PR.load1 rfl tsh4 Has.here (by rfl)) ?_
          refine Dh.JB.pv rfl ⟨_, rfl, rfl⟩ (fun _ => PR.fieldAddr rfl tfl24_4) ?_
          refine Dh.JB.rd [.blk _ _ _] rfl ⟨_, rfl, rfl⟩ (by repeat (first | exact Take.nil | apply Take.cons (by repeat (first | exact Del.here | apply Del.there)))) (fun _ => PR.load1 rfl tsh4 Has.here (by rfl)) ?_
          refine Dh.JB.pv rfl ⟨_, rfl, rfl⟩ (fun _ => PR.bneq (decide (e.k = 4)) Tryd.underlying4 rfl rfl (by rw [hti]; by_cases h4 : e.k = 4 <;> simp [h4])) ?_
          refine Dh.JB.pv rfl ⟨_, rfl, rfl⟩ (fun _ => PR.move rfl) ?_
          refine Dh.JB.pv rfl ⟨_, rfl, rfl⟩ (fun _ => PR.move rfl) ?_
          refine Dh.JB.pv rfl ⟨_, rfl, rfl⟩ (fun _ => PR.idx k rfl rfl tsl27 (by repeat (first | exact Mem.here | apply Mem.there)) (evsV_len _) (by omega) rfl hlt) ?_
          refine Dh.JB.pv rfl ⟨_, rfl, rfl⟩ (fun _ => PR.fieldAddrR rfl tfl26_0 (by repeat (first | exact Mem.here | apply Mem.there)) (by omega)) ?_
          refine Dh.JB.pv rfl ⟨_, rfl, rfl⟩ (fun _ => PR.loadR rfl tsh5 (by repeat (first | exact Mem.here | apply Mem.there)) hev) ?_
          refine Dh.JB.pv rfl ⟨_, rfl, rfl⟩ (fun _ => PR.eql (decide (e.k = 4)) rfl rfl (hek 4)) ?_
          refine Dh.JB.pv rfl ⟨_, rfl, rfl⟩ (fun _ => PR.bneq false Tryd.underlying4 rfl rfl (by simp)) ?_
          refine Dh.JB.pv rfl trivial (fun _ => PR.pickF rfl rfl) ?_
          refine Dh.JB.pv rfl trivial (fun _ => PR.move rfl) ?_
          refine Dh.JB.pv rfl ⟨_, rfl, rfl⟩ (fun _ => PR.fieldAddr rfl tfl24_1) ?_
          refine Dh.JB.rd [.blk _ _ _] rfl ⟨_, rfl, rfl⟩ (by repeat (first | exact Take.nil | apply Take.cons (by repeat (first | exact Del.here | apply Del.there)))) (fun _ => PR.load1 rfl tsh3 Has.here (by rfl)) ?_
          refine Dh.JB.pv rfl ⟨_, rfl, rfl⟩ (fun _ => PR.fieldAddr rfl tfl24_1) ?_
          refine Dh.JB.rd [.blk _ _ _] rfl ⟨_, rfl, rfl⟩ (by repeat (first | exact Take.nil | apply Take.cons (by repeat (first | exact Del.here | apply Del.there)))) (fun _ => PR.load1 rfl tsh3 Has.here (by rfl)) ?_
          refine Dh.JB.pv rfl ⟨_, rfl, rfl⟩ (fun _ => PR.neq _ rfl rfl rfl) ?_
          refine Dh.JB.pv rfl ⟨_, rfl, rfl⟩ (fun _ => PR.move rfl) ?_
          refine Dh.JB.bsplit (fun g61 => ?_) (fun g61 => ?_)
          · try replace g61 := of_decide_eq_true g61
            have h6 : e.k = 6 := Decidable.byContradiction fun h => g61 (hfl h).1
            refine Dh.JB.off rfl ⟨_, rfl, .inr rfl⟩ ?_
            refine Dh.JB.off rfl ⟨_, rfl, .inr rfl⟩ ?_
            refine Dh.JB.off rfl ⟨_, rfl, .inr rfl⟩ ?_
            refine Dh.JB.off rfl ⟨_, rfl, .inr rfl⟩ ?_
            refine Dh.JB.off rfl ⟨_, rfl, .inr rfl⟩ ?_
            refine Dh.JB.pv rfl ⟨_, rfl, rfl⟩ (fun _ => PR.pickT rfl rfl) ?_
            refine Dh.JB.pv rfl ⟨_, rfl, rfl⟩ (fun _ => PR.move rfl) ?_
            refine Dh.JB.pv rfl ⟨_, rfl, rfl⟩ (fun _ => PR.move rfl) ?_
            refine Dh.JB.pv rfl ⟨_, rfl, rfl⟩ (fun _ => PR.move rfl) ?_
            refine Dh.JB.pv rfl ⟨_, rfl, rfl⟩ (fun _ => PR.idx k rfl rfl tsl27 (by repeat (first | exact Mem.here | apply Mem.there)) (evsV_len _) (by omega) rfl hlt) ?_
            refine Dh.JB.pv rfl ⟨_, rfl, rfl⟩ (fun _ => PR.fieldAddrR rfl tfl26_0 (by repeat (first | exact Mem.here | apply Mem.there)) (by omega)) ?_
            refine Dh.JB.pv rfl ⟨_, rfl, rfl⟩ (fun _ => PR.loadR rfl tsh5 (by repeat (first | exact Mem.here | apply Mem.there)) hev) ?_
            refine Dh.JB.pv rfl ⟨_, rfl, rfl⟩ (fun _ => PR.neq false rfl rfl (by rw [h6]; rfl)) ?_
            refine Dh.JB.pv rfl ⟨_, rfl, rfl⟩ (fun _ => PR.pickT rfl rfl) ?_
            refine Dh.JB.pv rfl trivial (fun _ => PR.pickF rfl rfl) ?_
            refine Dh.JB.pv rfl trivial (fun _ => PR.move rfl) ?_
            refine Dh.JB.pv rfl ⟨_, rfl, rfl⟩ (fun _ => PR.fieldAddr rfl tfl24_3) ?_
            refine Dh.JB.rd [.blk _ _ _] rfl ⟨_, rfl, rfl⟩ (by repeat (first | exact Take.nil | apply Take.cons (by repeat (first | exact Del.here | apply Del.there)))) (fun _ => PR.load1 rfl tsh3 Has.here (by rfl)) ?_
            refine Dh.JB.pv rfl ⟨_, rfl, rfl⟩ (fun _ => PR.fieldAddr rfl tfl24_3) ?_
            refine Dh.JB.rd [.blk _ _ _] rfl ⟨_, rfl, rfl⟩ (by repeat (first | exact Take.nil | apply Take.cons (by repeat (first | exact Del.here | apply Del.there)))) (fun _ => PR.load1 rfl tsh3 Has.here (by rfl)) ?_
            refine Dh.JB.pv rfl ⟨_, rfl, rfl⟩ (fun _ => PR.neq _ rfl rfl rfl) ?_
            refine Dh.JB.pv rfl ⟨_, rfl, rfl⟩ (fun _ => PR.move rfl) ?_
            refine Dh.JB.bsplit (fun g83 => ?_) (fun g83 => ?_)
            · try replace g83 := of_decide_eq_true g83
              have h5 : e.k = 5 := Decidable.byContradiction fun h => g83 (hnow.2.2 h)
              refine Dh.JB.pv rfl ⟨_, rfl, rfl⟩ (fun _ => PR.move rfl) ?_
              refine Dh.JB.pv rfl ⟨_, rfl, rfl⟩ (fun _ => PR.move rfl) ?_
              refine Dh.JB.pv rfl ⟨_, rfl, rfl⟩ (fun _ => PR.idx k rfl rfl tsl27 (by repeat (first | exact Mem.here | apply Mem.there)) (evsV_len _) (by omega) rfl hlt) ?_
              refine Dh.JB.pv rfl ⟨_, rfl, rfl⟩ (fun _ => PR.fieldAddrR rfl tfl26_0 (by repeat (first | exact Mem.here | apply Mem.there)) (by omega)) ?_
              refine Dh.JB.pv rfl ⟨_, rfl, rfl⟩ (fun _ => PR.loadR rfl tsh5 (by repeat (first | exact Mem.here | apply Mem.there)) hev) ?_
              refine Dh.JB.pv rfl ⟨_, rfl, rfl⟩ (fun _ => PR.neq false rfl rfl (by rw [h5]; rfl)) ?_
              refine Dh.JB.pv rfl ⟨_, rfl, rfl⟩ (fun _ => PR.pickT rfl rfl) ?_
              refine Dh.JB.pv rfl trivial (fun _ => PR.pickF rfl rfl) ?_
              refine Dh.JB.nil ?_
              refine Dh.JL.nil ?_
              refine Jq.thenN ?_
              refine Jc.condF rfl ?_
              refine Jc.skip ?_
              exact Jq.midT () (by repeat (first | exact trivial | refine And.intro rfl ?_)) (by repeat (first | exact Take.nil | apply Take.cons (by repeat (first | exact Del.here | apply Del.there)))) (by repeat (first | exact trivial | refine And.intro (by repeat (first | exact Mem.here | apply Mem.there)) ?_))
            · try replace g83 := of_decide_eq_false g83
              refine Dh.JB.off rfl ⟨_, rfl, .inr rfl⟩ ?_
              refine Dh.JB.off rfl ⟨_, rfl, .inr rfl⟩ ?_
              refine Dh.JB.off rfl ⟨_, rfl, .inr rfl⟩ ?_
              refine Dh.JB.off rfl ⟨_, rfl, .inr rfl⟩ ?_
              refine Dh.JB.off rfl ⟨_, rfl, .inr rfl⟩ ?_
              refine Dh.JB.off rfl ⟨_, rfl, .inr rfl⟩ ?_
              refine Dh.JB.pv rfl ⟨_, rfl, rfl⟩ (fun _ => PR.pickF rfl rfl) ?_
              refine Dh.JB.pv rfl trivial (fun _ => PR.pickF rfl rfl) ?_
              refine Dh.JB.nil ?_
              refine Dh.JL.nil ?_
              refine Jq.thenN ?_
              refine Jc.condF rfl ?_
              refine Jc.skip ?_
              exact Jq.midT () (by repeat (first | exact trivial | refine And.intro rfl ?_)) (by repeat (first | exact Take.nil | apply Take.cons (by repeat (first | exact Del.here | apply Del.there)))) (by repeat (first | exact trivial | refine And.intro (by repeat (first | exact Mem.here | apply Mem.there)) ?_))
          · try replace g61 := of_decide_eq_false g61
            refine Dh.JB.pv rfl ⟨_, rfl, rfl⟩ (fun _ => PR.fieldAddr rfl tfl24_2) ?_
            refine Dh.JB.rd [.blk _ _ _] rfl ⟨_, rfl, rfl⟩ (by repeat (first | exact Take.nil | apply Take.cons (by repeat (first | exact Del.here | apply Del.there)))) (fun _ => PR.load1 rfl tsh3 Has.here (by rfl)) ?_
            refine Dh.JB.pv rfl ⟨_, rfl, rfl⟩ (fun _ => PR.fieldAddr rfl tfl24_2) ?_
            refine Dh.JB.rd [.blk _ _ _] rfl ⟨_, rfl, rfl⟩ (by repeat (first | exact Take.nil | apply Take.cons (by repeat (first | exact Del.here | apply Del.there)))) (fun _ => PR.load1 rfl tsh3 Has.here (by rfl)) ?_
            refine Dh.JB.pv rfl ⟨_, rfl, rfl⟩ (fun _ => PR.neq _ rfl rfl rfl) ?_
            refine Dh.JB.pv rfl ⟨_, rfl, rfl⟩ (fun _ => PR.pickF rfl rfl) ?_
            refine Dh.JB.pv rfl ⟨_, rfl, rfl⟩ (fun _ => PR.move rfl) ?_
            refine Dh.JB.bsplit (fun g68 => ?_) (fun g68 => ?_)
            · try replace g68 := of_decide_eq_true g68
              have h6 : e.k = 6 := Decidable.byContradiction fun h => g68 (hfl h).2
              refine Dh.JB.pv rfl ⟨_, rfl, rfl⟩ (fun _ => PR.move rfl) ?_
              refine Dh.JB.pv rfl ⟨_, rfl, rfl⟩ (fun _ => PR.move rfl) ?_
              refine Dh.JB.pv rfl ⟨_, rfl, rfl⟩ (fun _ => PR.idx k rfl rfl tsl27 (by repeat (first | exact Mem.here | apply Mem.there)) (evsV_len _) (by omega) rfl hlt) ?_
              refine Dh.JB.pv rfl ⟨_, rfl, rfl⟩ (fun _ => PR.fieldAddrR rfl tfl26_0 (by repeat (first | exact Mem.here | apply Mem.there)) (by omega)) ?_
              refine Dh.JB.pv rfl ⟨_, rfl, rfl⟩ (fun _ => PR.loadR rfl tsh5 (by repeat (first | exact Mem.here | apply Mem.there)) hev) ?_
              refine Dh.JB.pv rfl ⟨_, rfl, rfl⟩ (fun _ => PR.neq false rfl rfl (by rw [h6]; rfl)) ?_
              refine Dh.JB.pv rfl ⟨_, rfl, rfl⟩ (fun _ => PR.pickT rfl rfl) ?_
              refine Dh.JB.pv rfl trivial (fun _ => PR.pickF rfl rfl) ?_
              refine Dh.JB.pv rfl trivial (fun _ => PR.move rfl) ?_
              refine Dh.JB.pv rfl ⟨_, rfl, rfl⟩ (fun _ => PR.fieldAddr rfl tfl24_3) ?_
              refine Dh.JB.rd [.blk _ _ _] rfl ⟨_, rfl, rfl⟩ (by repeat (first | exact Take.nil | apply Take.cons (by repeat (first | exact Del.here | apply Del.there)))) (fun _ => PR.load1 rfl tsh3 Has.here (by rfl)) ?_
              refine Dh.JB.pv rfl ⟨_, rfl, rfl⟩ (fun _ => PR.fieldAddr rfl tfl24_3) ?_
              refine Dh.JB.rd [.blk _ _ _] rfl ⟨_, rfl, rfl⟩ (by repeat (first | exact Take.nil | apply Take.cons (by repeat (first | exact Del.here | apply Del.there)))) (fun _ => PR.load1 rfl tsh3 Has.here (by rfl)) ?_
              refine Dh.JB.pv rfl ⟨_, rfl, rfl⟩ (fun _ => PR.neq _ rfl rfl rfl) ?_
              refine Dh.JB.pv rfl ⟨_, rfl, rfl⟩ (fun _ => PR.move rfl) ?_
              refine Dh.JB.bsplit (fun g83 => ?_) (fun g83 => ?_)
              · try replace g83 := of_decide_eq_true g83
                have h5 : e.k = 5 := Decidable.byContradiction fun h => g83 (hnow.2.2 h)
                refine Dh.JB.pv rfl ⟨_, rfl, rfl⟩ (fun _ => PR.move rfl) ?_
                refine Dh.JB.pv rfl ⟨_, rfl, rfl⟩ (fun _ => PR.move rfl) ?_
                refine Dh.JB.pv rfl ⟨_, rfl, rfl⟩ (fun _ => PR.idx k rfl rfl tsl27 (by repeat (first | exact Mem.here | apply Mem.there)) (evsV_len _) (by omega) rfl hlt) ?_
                refine Dh.JB.pv rfl ⟨_, rfl, rfl⟩ (fun _ => PR.fieldAddrR rfl tfl26_0 (by repeat (first | exact Mem.here | apply Mem.there)) (by omega)) ?_
                refine Dh.JB.pv rfl ⟨_, rfl, rfl⟩ (fun _ => PR.loadR rfl tsh5 (by repeat (first | exact Mem.here | apply Mem.there)) hev) ?_
                refine Dh.JB.pv rfl ⟨_, rfl, rfl⟩ (fun _ => PR.neq false rfl rfl (by rw [h5]; rfl)) ?_
                refine Dh.JB.pv rfl ⟨_, rfl, rfl⟩ (fun _ => PR.pickT rfl rfl) ?_
                refine Dh.JB.pv rfl trivial (fun _ => PR.pickF rfl rfl) ?_
                refine Dh.JB.nil ?_
                refine Dh.JL.nil ?_
                refine Jq.thenN ?_
                refine Jc.condF rfl ?_
                refine Jc.skip ?_
                exact Jq.midT () (by repeat (first | exact trivial | refine And.intro rfl ?_)) (by repeat (first | exact Take.nil | apply Take.cons (by repeat (first | exact Del.here | apply Del.there)))) (by repeat (first | exact trivial | refine And.intro (by repeat (first | exact Mem.here | apply Mem.there)) ?_))
              · try replace g83 := of_decide_eq_false g83
                refine Dh.JB.off rfl ⟨_, rfl, .inr rfl⟩ ?_
                refine Dh.JB.off rfl ⟨_, rfl, .inr rfl⟩ ?_
                refine Dh.JB.off rfl ⟨_, rfl, .inr rfl⟩ ?_
                refine Dh.JB.off rfl ⟨_, rfl, .inr rfl⟩ ?_
                refine Dh.JB.off rfl ⟨_, rfl, .inr rfl⟩ ?_
                refine Dh.JB.off rfl ⟨_, rfl, .inr rfl⟩ ?_
                refine Dh.JB.pv rfl ⟨_, rfl, rfl⟩ (fun _ => PR.pickF rfl rfl) ?_
                refine Dh.JB.pv rfl trivial (fun _ => PR.pickF rfl rfl) ?_
                refine Dh.JB.nil ?_
                refine Dh.JL.nil ?_
                refine Jq.thenN ?_
                refine Jc.condF rfl ?_
                refine Jc.skip ?_
                exact Jq.midT () (by repeat (first | exact trivial | refine And.intro rfl ?_)) (by repeat (first | exact Take.nil | apply Take.cons (by repeat (first | exact Del.here | apply Del.there)))) (by repeat (first | exact trivial | refine And.intro (by repeat (first | exact Mem.here | apply Mem.there)) ?_))
            · try replace g68 := of_decide_eq_false g68
              refine Dh.JB.off rfl ⟨_, rfl, .inr rfl⟩ ?_
              refine Dh.JB.off rfl ⟨_, rfl, .inr rfl⟩ ?_
              refine Dh.JB.off rfl ⟨_, rfl, .inr rfl⟩ ?_
              refine Dh.JB.off rfl ⟨_, rfl, .inr rfl⟩ ?_
              refine Dh.JB.off rfl ⟨_, rfl, .inr rfl⟩ ?_
              refine Dh.JB.off rfl ⟨_, rfl, .inr rfl⟩ ?_
              refine Dh.JB.pv rfl ⟨_, rfl, rfl⟩ (fun _ => PR.pickF rfl rfl) ?_
              refine Dh.JB.pv rfl trivial (fun _ => PR.pickF rfl rfl) ?_
              refine Dh.JB.pv rfl trivial (fun _ => PR.move rfl) ?_
              refine Dh.JB.pv rfl ⟨_, rfl, rfl⟩ (fun _ => PR.fieldAddr rfl tfl24_3) ?_
              refine Dh.JB.rd [.blk _ _ _] rfl ⟨_, rfl, rfl⟩ (by repeat (first | exact Take.nil | apply Take.cons (by repeat (first | exact Del.here | apply Del.there)))) (fun _ => PR.load1 rfl tsh3 Has.here (by rfl)) ?_
              refine Dh.JB.pv rfl ⟨_, rfl, rfl⟩ (fun _ => PR.fieldAddr rfl tfl24_3) ?_
              refine Dh.JB.rd [.blk _ _ _] rfl ⟨_, rfl, rfl⟩ (by repeat (first | exact Take.nil | apply Take.cons (by repeat (first | exact Del.here | apply Del.there)))) (fun _ => PR.load1 rfl tsh3 Has.here (by rfl)) ?_
              refine Dh.JB.pv rfl ⟨_, rfl, rfl⟩ (fun _ => PR.neq _ rfl rfl rfl) ?_
              refine Dh.JB.pv rfl ⟨_, rfl, rfl⟩ (fun _ => PR.move rfl) ?_
              refine Dh.JB.bsplit (fun g83 => ?_) (fun g83 => ?_)
              · try replace g83 := of_decide_eq_true g83
                have h5 : e.k = 5 := Decidable.byContradiction fun h => g83 (hnow.2.2 h)
                refine Dh.JB.pv rfl ⟨_, rfl, rfl⟩ (fun _ => PR.move rfl) ?_
                refine Dh.JB.pv rfl ⟨_, rfl, rfl⟩ (fun _ => PR.move rfl) ?_
                refine Dh.JB.pv rfl ⟨_, rfl, rfl⟩ (fun _ => PR.idx k rfl rfl tsl27 (by repeat (first | exact Mem.here | apply Mem.there)) (evsV_len _) (by omega) rfl hlt) ?_
                refine Dh.JB.pv rfl ⟨_, rfl, rfl⟩ (fun _ => PR.fieldAddrR rfl tfl26_0 (by repeat (first | exact Mem.here | apply Mem.there)) (by omega)) ?_
                refine Dh.JB.pv rfl ⟨_, rfl, rfl⟩ (fun _ => PR.loadR rfl tsh5 (by repeat (first | exact Mem.here | apply Mem.there)) hev) ?_
                refine Dh.JB.pv rfl ⟨_, rfl, rfl⟩ (fun _ => PR.neq false rfl rfl (by rw [h5]; rfl)) ?_
                refine Dh.JB.pv rfl ⟨_, rfl, rfl⟩ (fun _ => PR.pickT rfl rfl) ?_
                refine Dh.JB.pv rfl trivial (fun _ => PR.pickF rfl rfl) ?_
                refine Dh.JB.nil ?_
                refine Dh.JL.nil ?_
                refine Jq.thenN ?_
                refine Jc.condF rfl ?_
                refine Jc.skip ?_
                exact Jq.midT () (by repeat (first | exact trivial | refine And.intro rfl ?_)) (by repeat (first | exact Take.nil | apply Take.cons (by repeat (first | exact Del.here | apply Del.there)))) (by repeat (first | exact trivial | refine And.intro (by repeat (first | exact Mem.here | apply Mem.there)) ?_))
              · try replace g83 := of_decide_eq_false g83
                refine Dh.JB.off rfl ⟨_, rfl, .inr rfl⟩ ?_
                refine Dh.JB.off rfl ⟨_, rfl, .inr rfl⟩ ?_
                refine Dh.JB.off rfl ⟨_, rfl, .inr rfl⟩ ?_
                refine Dh.JB.off rfl ⟨_, rfl, .inr rfl⟩ ?_
                refine Dh.JB.off rfl ⟨_, rfl, .inr rfl⟩ ?_
                refine Dh.JB.off rfl ⟨_, rfl, .inr rfl⟩ ?_
                refine Dh.JB.pv rfl ⟨_, rfl, rfl⟩ (fun _ => PR.pickF rfl rfl) ?_
                refine Dh.JB.pv rfl trivial (fun _ => PR.pickF rfl rfl) ?_
                refine Dh.JB.nil ?_
                refine Dh.JL.nil ?_
                refine Jq.thenN ?_
                refine Jc.condF rfl ?_
                refine Jc.skip ?_
                exact Jq.midT () (by repeat (first | exact trivial | refine And.intro rfl ?_)) (by repeat (first | exact Take.nil | apply Take.cons (by repeat (first | exact Del.here | apply Del.there)))) (by repeat (first | exact trivial | refine And.intro (by repeat (first | exact Mem.here | apply Mem.there)) ?_))
        · rintro ⟨⟩
          show Jc _ _ _ _ _ _ [(6, .int .i64 (k : Int)), (1, .slice B l.length cB), (2, .pointer (some ⟨b2, 0, none⟩)), (5, .pointer (some ⟨b5, 0, none⟩)), (7, .pointer (some ⟨b7, 0, none⟩))] [.blk b7 24 (d'.cs (A33, c33)), .blk b5 24 ((allE c l).cs (A21, c21)), .blk b2 24 (d.cs y)] [.rd A33 (bxsV d'.bs), .rd A21 (bxsV (allE c l).bs), .rd y.1 (bxsV d.bs), .rd B (evsV l), .happens bm]
          refine Jc.seq ?_
          refine Jc.seq ?_
          refine Jc.region ?_
          refine Jl.pv (PR.assign rfl) ?_
          refine Jl.nil ?_
          refine Jq.thenN ?_
          refine Jc.block ?_
          refine Jc.loop (σ := { j : Nat // j ≤ d.bs.length }) (fun s => [(8, .int .i64 (s.1 : Int)), (6, .int .i64 (k : Int)), (1, .slice B l.length cB), (2, .pointer (some ⟨b2, 0, none⟩)), (5, .pointer (some ⟨b5, 0, none⟩)), (7, .pointer (some ⟨b7, 0, none⟩))]) (fun _ => [.blk b7 24 (d'.cs (A33, c33)), .blk b5 24 ((allE c l).cs (A21, c21)), .blk b2 24 (d.cs y)]) (fun _ => [.rd A33 (bxsV d'.bs), .rd A21 (bxsV (allE c l).bs), .rd y.1 (bxsV d.bs), .rd B (evsV l), .happens bm]) (fun s => d.bs.length - s.1) ⟨0, Nat.zero_le _⟩ (by repeat (first | exact trivial | refine And.intro rfl ?_)) rfl (by repeat (first | exact trivial | refine And.intro (by repeat (first | exact Mem.here | apply Mem.there)) ?_)) ?_
          rintro ⟨j, hj⟩
          show Jc _ _ _ _ _ _ [(8, Value.int .i64 (j : Int)), (6, .int .i64 (k : Int)), (1, .slice B l.length cB), (2, .pointer (some ⟨b2, 0, none⟩)), (5, .pointer (some ⟨b5, 0, none⟩)), (7, .pointer (some ⟨b7, 0, none⟩))] [.blk b7 24 (d'.cs (A33, c33)), .blk b5 24 ((allE c l).cs (A21, c21)), .blk b2 24 (d.cs y)] [.rd A33 (bxsV d'.bs), .rd A21 (bxsV (allE c l).bs), .rd y.1 (bxsV d.bs), .rd B (evsV l), .happens bm]
          refine Jc.seq ?_
          refine Jc.seq ?_
          refine Jc.region ?_
          refine Jl.pv (PR.move rfl) ?_
          refine Jl.pv (PR.fieldAddr rfl tfl24_0) ?_
          refine Jl.pv (PR.load1 rfl tsh22 (by repeat (first | exact Has.here | apply Has.there)) (by rfl)) ?_
          refine Jl.pv (PR.len rfl tsl22) ?_
          refine Jl.pv (PR.lss _ rfl rfl rfl) ?_
          refine Jl.nil ?_
          refine Jq.thenN ?_
          refine Jc.cond rfl (fun h2 => ?_) (fun h2 => ?_)
          · try replace h2 := of_decide_eq_true h2
            have hjl : j < d.bs.length := by omega
            have hjl' : j < d'.bs.length := by omega
            have q7 := (hbox' j hjl hjl').2.2.2.2.2.2
            have hsj : j * 11 + 11 ≤ (bxsV d.bs).length := by rw [bxsV_len]; omega
            refine Jc.skip ?_
            refine Jq.thenN ?_
            refine Jc.seq ?_
            refine Jc.block ?_
            refine Jc.seq ?_
            refine Jc.region ?_
            refine Jl.pv (PR.move rfl) ?_
            refine Jl.pv (PR.move rfl) ?_
            refine Jl.pv (PR.idx k rfl rfl tsl27 (by repeat (first | exact Mem.here | apply Mem.there)) (evsV_len _) (by omega) rfl hlt) ?_
            refine Jl.pv (PR.fieldAddrR rfl tfl26_0 (by repeat (first | exact Mem.here | apply Mem.there)) (by omega)) ?_
            refine Jl.pv (PR.loadR rfl tsh5 (by repeat (first | exact Mem.here | apply Mem.there)) hev) ?_
            refine Jl.pv (PR.eql (decide (e.k = 1)) rfl rfl (hek 1)) ?_
            refine Jl.pv (PR.move rfl) ?_
            refine Jl.bsplit (fun g105 => ?_) (fun g105 => ?_)
            · try replace g105 := of_decide_eq_true g105
              refine Jl.offS rfl rfl rfl ?_
              refine Jl.offS rfl rfl rfl ?_
              refine Jl.offS rfl rfl rfl ?_
              refine Jl.offS rfl rfl rfl ?_
              refine Jl.offS rfl rfl rfl ?_
              refine Jl.offS rfl rfl rfl ?_
              refine Jl.pv (PR.pickT rfl rfl) ?_
              refine Jl.pv (PR.assign rfl) ?_
              refine Jl.nil ?_
              refine Jq.thenN ?_
              refine Jc.seq ?_
              refine Jc.drawn [0, 1, 0, 7, 15, 0, 32, 0, 224, 480, 1023, 2047, 4095, 4095, 16383, 32767, 65535, 131071, 262143, 524287, 1048575, 2097151, 4194303, 8388607, 16777215, 8388607, 67108863, 134217727, 268435455, 8388607, 8388607, 1619001343, 3766484991, 8061452287, 17179869183, 34359738367, 68719476735] ([(0, false), (1, false), (2, false), (3, false), (4, false), (5, false), (6, false), (7, false), (8, false), (9, false), (10, false), (11, false), (12, false), (13, false), (14, false), (15, false), (16, false), (17, false), (18, false), (19, false), (20, false), (21, false), (22, false), (23, false), (24, false), (25, false), (26, false), (27, false), (28, false), (29, false), (30, false), (31, false), (32, false), (33, false), (34, false), (35, false), (36, false)], []) [] tmx (by kernel_rfl) ?_
              refine Dh.JH.nil ?_
              refine Dh.JB.pv rfl trivial (fun _ => PR.fieldAddr rfl tfl24_0) ?_
              refine Dh.JB.rd [.blk _ _ _] rfl trivial (by repeat (first | exact Take.nil | apply Take.cons (by repeat (first | exact Del.here | apply Del.there)))) (fun _ => PR.load1 rfl tsh22 Has.here (by rfl)) ?_
              refine Dh.JB.pv rfl trivial (fun _ => PR.move rfl) ?_
              refine Dh.JB.pv rfl trivial (fun _ => PR.idx j rfl rfl tsl22 (by repeat (first | exact Mem.here | apply Mem.there)) (bxsV_len _) (by omega) rfl hjl) ?_
              refine Dh.JB.pv rfl trivial (fun _ => PR.loadRA rfl tsh36 (by repeat (first | exact Mem.here | apply Mem.there)) (by decide) (bxs_at hjl)) ?_
              refine Dh.JB.pv rfl trivial (fun _ => PR.fieldAddr rfl tfl24_0) ?_
              refine Dh.JB.rd [.blk _ _ _] rfl trivial (by repeat (first | exact Take.nil | apply Take.cons (by repeat (first | exact Del.here | apply Del.there)))) (fun _ => PR.load1 rfl tsh22 Has.here (by rfl)) ?_
              refine Dh.JB.pv rfl trivial (fun _ => PR.move rfl) ?_
              refine Dh.JB.pv rfl trivial (fun _ => PR.idx j rfl rfl tsl22 (by repeat (first | exact Mem.here | apply Mem.there)) (bxsV_len _) (by omega) rfl hjl') ?_
              refine Dh.JB.pv rfl trivial (fun _ => PR.loadRA rfl tsh36 (by repeat (first | exact Mem.here | apply Mem.there)) (by decide) (bxs_at hjl')) ?_
              refine Dh.JB.pv rfl trivial (fun _ => PR.neqA (xs := d.bs[j].cs) (ys := d'.bs[j].cs) (decide (d.bs[j] ≠ d'.bs[j])) rfl rfl teq36 (by rfl) (by rw [decide_eq_true_eq, ne_eq, ne_eq, Bx.cs_inj])) ?_
              refine Dh.JB.pv rfl trivial (fun _ => PR.move rfl) ?_
              refine Dh.JB.bsplit (fun g124 => ?_) (fun g124 => ?_)
              · try replace g124 := of_decide_eq_true g124
                have q8 := q7 (fun h => g124 h.symm)
                refine Dh.JB.pv rfl ⟨_, rfl, rfl⟩ (fun _ => PR.move rfl) ?_
                refine Dh.JB.pv rfl ⟨_, rfl, rfl⟩ (fun _ => PR.move rfl) ?_
                refine Dh.JB.pv rfl ⟨_, rfl, rfl⟩ (fun _ => PR.idx k rfl rfl tsl27 (by repeat (first | exact Mem.here | apply Mem.there)) (evsV_len _) (by omega) rfl hlt) ?_
                refine Dh.JB.pv rfl ⟨_, rfl, rfl⟩ (fun _ => PR.fieldAddrR rfl tfl26_0 (by repeat (first | exact Mem.here | apply Mem.there)) (by omega)) ?_
                refine Dh.JB.pv rfl ⟨_, rfl, rfl⟩ (fun _ => PR.loadR rfl tsh5 (by repeat (first | exact Mem.here | apply Mem.there)) hev) ?_
                refine Dh.JB.pv rfl ⟨_, rfl, rfl⟩ (fun _ => PR.neq _ rfl rfl rfl) ?_
                refine Dh.JB.pv rfl trivial (fun _ => PR.pickT rfl rfl) ?_
                refine Dh.JB.pv rfl trivial (fun _ => PR.move rfl) ?_
                refine Dh.JB.bsplit (fun g132 => ?_) (fun g132 => ?_)
                · try replace g132 := of_decide_eq_true g132
                  have q9 := q8.resolve_left (fun h => g132 (by rw [h]; rfl))
                  refine Dh.JB.pv rfl ⟨_, rfl, rfl⟩ (fun _ => PR.move rfl) ?_
                  refine Dh.JB.pv rfl ⟨_, rfl, rfl⟩ (fun _ => PR.not rfl) ?_
                  refine Dh.JB.pv rfl ⟨_, rfl, rfl⟩ (fun _ => PR.move rfl) ?_
                  refine Dh.JB.pv rfl ⟨_, rfl, rfl⟩ (fun _ => PR.fieldAddr rfl tfl24_0) ?_
                  refine Dh.JB.rd [.blk _ _ _] rfl ⟨_, rfl, rfl⟩ (by repeat (first | exact Take.nil | apply Take.cons (by repeat (first | exact Del.here | apply Del.there)))) (fun _ => PR.load1 rfl tsh22 Has.here (by rfl)) ?_
                  refine Dh.JB.pv rfl ⟨_, rfl, rfl⟩ (fun _ => PR.move rfl) ?_
                  refine Dh.JB.pv rfl ⟨_, rfl, rfl⟩ (fun _ => PR.idx j rfl rfl tsl22 (by repeat (first | exact Mem.here | apply Mem.there)) (bxsV_len _) (by omega) rfl hjl) ?_
                  refine Dh.JB.pv rfl ⟨_, rfl, rfl⟩ (fun _ => PR.fieldAddrR rfl tfl36_0 (by repeat (first | exact Mem.here | apply Mem.there)) (by omega)) ?_
                  refine Dh.JB.pv rfl ⟨_, rfl, rfl⟩ (fun _ => PR.loadR rfl tsh3 (by repeat (first | exact Mem.here | apply Mem.there)) (bxs_f hjl 0 rfl)) ?_
                  refine Dh.JB.pv rfl ⟨_, rfl, rfl⟩ (fun _ => PR.move rfl) ?_
                  refine Dh.JB.pv rfl ⟨_, rfl, rfl⟩ (fun _ => PR.move rfl) ?_
                  refine Dh.JB.pv rfl ⟨_, rfl, rfl⟩ (fun _ => PR.idx k rfl rfl tsl27 (by repeat (first | exact Mem.here | apply Mem.there)) (evsV_len _) (by omega) rfl hlt) ?_
                  refine Dh.JB.pv rfl ⟨_, rfl, rfl⟩ (fun _ => PR.fieldAddrR rfl tfl26_1 (by repeat (first | exact Mem.here | apply Mem.there)) (by omega)) ?_
                  refine Dh.JB.pv rfl ⟨_, rfl, rfl⟩ (fun _ => PR.loadR rfl tsh3 (by repeat (first | exact Mem.here | apply Mem.there)) hea) ?_
                  refine Dh.JB.pv rfl ⟨_, rfl, rfl⟩ (fun _ => PR.neq false rfl rfl (by simp [q9.2])) ?_
                  refine Dh.JB.pv rfl ⟨_, rfl, rfl⟩ (fun _ => PR.pickF rfl rfl) ?_
                  refine Dh.JB.pv rfl trivial (fun _ => PR.pickT rfl rfl) ?_
                  refine Dh.JB.nil ?_
                  refine Dh.JL.nil ?_
                  refine Jq.thenN ?_
                  refine Jc.condF rfl ?_
                  refine Jc.skip ?_
                  refine Jq.blkN ?_
                  refine Jq.thenN ?_
                  refine Jc.region ?_
                  refine Jl.pv (PR.move rfl) ?_
                  refine Jl.pv (PR.add ((j + 1 : Nat) : Int) rfl rfl (by rw [w64 (by omega) (by omega)]; rfl)) ?_
                  refine Jl.pv (PR.assign rfl) ?_
                  refine Jl.nil ?_
                  exact Jq.againT ⟨j + 1, hjl⟩ (by simp only; omega) (by repeat (first | exact trivial | refine And.intro rfl ?_)) (by repeat (first | exact Take.nil | apply Take.cons (by repeat (first | exact Del.here | apply Del.there)))) (by repeat (first | exact trivial | refine And.intro (by repeat (first | exact Mem.here | apply Mem.there)) ?_))
                · try replace g132 := of_decide_eq_false g132
                  refine Dh.JB.off rfl ⟨_, rfl, .inr rfl⟩ ?_
                  refine Dh.JB.off rfl ⟨_, rfl, .inr rfl⟩ ?_
                  refine Dh.JB.off rfl ⟨_, rfl, .inr rfl⟩ ?_
                  refine Dh.JB.off rfl ⟨_, rfl, .inl rfl⟩ ?_
                  refine Dh.JB.off rfl ⟨_, rfl, .inl rfl⟩ ?_
                  refine Dh.JB.off rfl ⟨_, rfl, .inl rfl⟩ ?_
                  refine Dh.JB.off rfl ⟨_, rfl, .inl rfl⟩ ?_
                  refine Dh.JB.off rfl ⟨_, rfl, .inl rfl⟩ ?_
                  refine Dh.JB.off rfl ⟨_, rfl, .inl rfl⟩ ?_
                  refine Dh.JB.off rfl ⟨_, rfl, .inl rfl⟩ ?_
                  refine Dh.JB.off rfl ⟨_, rfl, .inl rfl⟩ ?_
                  refine Dh.JB.off rfl ⟨_, rfl, .inl rfl⟩ ?_
                  refine Dh.JB.off rfl ⟨_, rfl, .inl rfl⟩ ?_
                  refine Dh.JB.off rfl ⟨_, rfl, .inl rfl⟩ ?_
                  refine Dh.JB.off rfl ⟨_, rfl, .inl rfl⟩ ?_
                  refine Dh.JB.off rfl ⟨_, rfl, .inr rfl⟩ ?_
                  refine Dh.JB.pv rfl trivial (fun _ => PR.pickF rfl rfl) ?_
                  refine Dh.JB.nil ?_
                  refine Dh.JL.nil ?_
                  refine Jq.thenN ?_
                  refine Jc.condF rfl ?_
                  refine Jc.skip ?_
                  refine Jq.blkN ?_
                  refine Jq.thenN ?_
                  refine Jc.region ?_
                  refine Jl.pv (PR.move rfl) ?_
                  refine Jl.pv (PR.add ((j + 1 : Nat) : Int) rfl rfl (by rw [w64 (by omega) (by omega)]; rfl)) ?_
                  refine Jl.pv (PR.assign rfl) ?_
                  refine Jl.nil ?_
                  exact Jq.againT ⟨j + 1, hjl⟩ (by simp only; omega) (by repeat (first | exact trivial | refine And.intro rfl ?_)) (by repeat (first | exact Take.nil | apply Take.cons (by repeat (first | exact Del.here | apply Del.there)))) (by repeat (first | exact trivial | refine And.intro (by repeat (first | exact Mem.here | apply Mem.there)) ?_))
              · try replace g124 := of_decide_eq_false g124
                refine Dh.JB.off rfl ⟨_, rfl, .inr rfl⟩ ?_
                refine Dh.JB.off rfl ⟨_, rfl, .inr rfl⟩ ?_
                refine Dh.JB.off rfl ⟨_, rfl, .inr rfl⟩ ?_
                refine Dh.JB.off rfl ⟨_, rfl, .inr rfl⟩ ?_
                refine Dh.JB.off rfl ⟨_, rfl, .inr rfl⟩ ?_
                refine Dh.JB.off rfl ⟨_, rfl, .inr rfl⟩ ?_
                refine Dh.JB.pv rfl trivial (fun _ => PR.pickF rfl rfl) ?_
                refine Dh.JB.pv rfl trivial (fun _ => PR.move rfl) ?_
                refine Dh.JB.off rfl ⟨_, rfl, .inr rfl⟩ ?_
                refine Dh.JB.off rfl ⟨_, rfl, .inr rfl⟩ ?_
                refine Dh.JB.off rfl ⟨_, rfl, .inr rfl⟩ ?_
                refine Dh.JB.off rfl ⟨_, rfl, .inl rfl⟩ ?_
                refine Dh.JB.off rfl ⟨_, rfl, .inl rfl⟩ ?_
                refine Dh.JB.off rfl ⟨_, rfl, .inl rfl⟩ ?_
                refine Dh.JB.off rfl ⟨_, rfl, .inl rfl⟩ ?_
                refine Dh.JB.off rfl ⟨_, rfl, .inl rfl⟩ ?_
                refine Dh.JB.off rfl ⟨_, rfl, .inl rfl⟩ ?_
                refine Dh.JB.off rfl ⟨_, rfl, .inl rfl⟩ ?_
                refine Dh.JB.off rfl ⟨_, rfl, .inl rfl⟩ ?_
                refine Dh.JB.off rfl ⟨_, rfl, .inl rfl⟩ ?_
                refine Dh.JB.off rfl ⟨_, rfl, .inl rfl⟩ ?_
                refine Dh.JB.off rfl ⟨_, rfl, .inl rfl⟩ ?_
                refine Dh.JB.off rfl ⟨_, rfl, .inl rfl⟩ ?_
                refine Dh.JB.off rfl ⟨_, rfl, .inr rfl⟩ ?_
                refine Dh.JB.pv rfl trivial (fun _ => PR.pickF rfl rfl) ?_
                refine Dh.JB.nil ?_
                refine Dh.JL.nil ?_
                refine Jq.thenN ?_
                refine Jc.condF rfl ?_
                refine Jc.skip ?_
                refine Jq.blkN ?_
                refine Jq.thenN ?_
                refine Jc.region ?_
                refine Jl.pv (PR.move rfl) ?_
                refine Jl.pv (PR.add ((j + 1 : Nat) : Int) rfl rfl (by rw [w64 (by omega) (by omega)]; rfl)) ?_
                refine Jl.pv (PR.assign rfl) ?_
                refine Jl.nil ?_
                exact Jq.againT ⟨j + 1, hjl⟩ (by simp only; omega) (by repeat (first | exact trivial | refine And.intro rfl ?_)) (by repeat (first | exact Take.nil | apply Take.cons (by repeat (first | exact Del.here | apply Del.there)))) (by repeat (first | exact trivial | refine And.intro (by repeat (first | exact Mem.here | apply Mem.there)) ?_))
            · try replace g105 := of_decide_eq_false g105
              refine Jl.on rfl rfl ?_
              refine Jl.pv (PR.move rfl) ?_
              refine Jl.on rfl rfl ?_
              refine Jl.pv (PR.move rfl) ?_
              refine Jl.on rfl rfl ?_
              refine Jl.pv (PR.idx k rfl rfl tsl27 (by repeat (first | exact Mem.here | apply Mem.there)) (evsV_len _) (by omega) rfl hlt) ?_
              refine Jl.on rfl rfl ?_
              refine Jl.pv (PR.fieldAddrR rfl tfl26_0 (by repeat (first | exact Mem.here | apply Mem.there)) (by omega)) ?_
              refine Jl.on rfl rfl ?_
              refine Jl.pv (PR.loadR rfl tsh5 (by repeat (first | exact Mem.here | apply Mem.there)) hev) ?_
              refine Jl.on rfl rfl ?_
              refine Jl.pv (PR.eql (decide (e.k = 2)) rfl rfl (hek 2)) ?_
              refine Jl.pv (PR.pickF rfl rfl) ?_
              refine Jl.pv (PR.assign rfl) ?_
              refine Jl.nil ?_
              refine Jq.thenN ?_
              refine Jc.seq ?_
              refine Jc.drawn [0, 1, 0, 7, 15, 0, 32, 0, 224, 480, 1023, 2047, 4095, 4095, 16383, 32767, 65535, 131071, 262143, 524287, 1048575, 2097151, 4194303, 8388607, 16777215, 8388607, 67108863, 134217727, 268435455, 8388607, 8388607, 1619001343, 3766484991, 8061452287, 17179869183, 34359738367, 68719476735] ([(0, false), (1, false), (2, false), (3, false), (4, false), (5, false), (6, false), (7, false), (8, false), (9, false), (10, false), (11, false), (12, false), (13, false), (14, false), (15, false), (16, false), (17, false), (18, false), (19, false), (20, false), (21, false), (22, false), (23, false), (24, false), (25, false), (26, false), (27, false), (28, false), (29, false), (30, false), (31, false), (32, false), (33, false), (34, false), (35, false), (36, false)], []) [] tmx (by kernel_rfl) ?_
              refine Dh.JH.nil ?_
              refine Dh.JB.pv rfl trivial (fun _ => PR.fieldAddr rfl tfl24_0) ?_
              refine Dh.JB.rd [.blk _ _ _] rfl trivial (by repeat (first | exact Take.nil | apply Take.cons (by repeat (first | exact Del.here | apply Del.there)))) (fun _ => PR.load1 rfl tsh22 Has.here (by rfl)) ?_
              refine Dh.JB.pv rfl trivial (fun _ => PR.move rfl) ?_
              refine Dh.JB.pv rfl trivial (fun _ => PR.idx j rfl rfl tsl22 (by repeat (first | exact Mem.here | apply Mem.there)) (bxsV_len _) (by omega) rfl hjl) ?_
              refine Dh.JB.pv rfl trivial (fun _ => PR.loadRA rfl tsh36 (by repeat (first | exact Mem.here | apply Mem.there)) (by decide) (bxs_at hjl)) ?_
              refine Dh.JB.pv rfl trivial (fun _ => PR.fieldAddr rfl tfl24_0) ?_
              refine Dh.JB.rd [.blk _ _ _] rfl trivial (by repeat (first | exact Take.nil | apply Take.cons (by repeat (first | exact Del.here | apply Del.there)))) (fun _ => PR.load1 rfl tsh22 Has.here (by rfl)) ?_
              refine Dh.JB.pv rfl trivial (fun _ => PR.move rfl) ?_
              refine Dh.JB.pv rfl trivial (fun _ => PR.idx j rfl rfl tsl22 (by repeat (first | exact Mem.here | apply Mem.there)) (bxsV_len _) (by omega) rfl hjl') ?_
              refine Dh.JB.pv rfl trivial (fun _ => PR.loadRA rfl tsh36 (by repeat (first | exact Mem.here | apply Mem.there)) (by decide) (bxs_at hjl')) ?_
              refine Dh.JB.pv rfl trivial (fun _ => PR.neqA (xs := d.bs[j].cs) (ys := d'.bs[j].cs) (decide (d.bs[j] ≠ d'.bs[j])) rfl rfl teq36 (by rfl) (by rw [decide_eq_true_eq, ne_eq, ne_eq, Bx.cs_inj])) ?_
              refine Dh.JB.pv rfl trivial (fun _ => PR.move rfl) ?_
              refine Dh.JB.bsplit (fun g124 => ?_) (fun g124 => ?_)
              · try replace g124 := of_decide_eq_true g124
                have q8 := q7 (fun h => g124 h.symm)
                refine Dh.JB.pv rfl ⟨_, rfl, rfl⟩ (fun _ => PR.move rfl) ?_
                refine Dh.JB.pv rfl ⟨_, rfl, rfl⟩ (fun _ => PR.move rfl) ?_
                refine Dh.JB.pv rfl ⟨_, rfl, rfl⟩ (fun _ => PR.idx k rfl rfl tsl27 (by repeat (first | exact Mem.here | apply Mem.there)) (evsV_len _) (by omega) rfl hlt) ?_
                refine Dh.JB.pv rfl ⟨_, rfl, rfl⟩ (fun _ => PR.fieldAddrR rfl tfl26_0 (by repeat (first | exact Mem.here | apply Mem.there)) (by omega)) ?_
                refine Dh.JB.pv rfl ⟨_, rfl, rfl⟩ (fun _ => PR.loadR rfl tsh5 (by repeat (first | exact Mem.here | apply Mem.there)) hev) ?_
                refine Dh.JB.pv rfl ⟨_, rfl, rfl⟩ (fun _ => PR.neq _ rfl rfl rfl) ?_
                refine Dh.JB.pv rfl trivial (fun _ => PR.pickT rfl rfl) ?_
                refine Dh.JB.pv rfl trivial (fun _ => PR.move rfl) ?_
                refine Dh.JB.bsplit (fun g132 => ?_) (fun g132 => ?_)
                · try replace g132 := of_decide_eq_true g132
                  have q9 := q8.resolve_left (fun h => g132 (by rw [h]; rfl))
                  refine Dh.JB.pv rfl ⟨_, rfl, rfl⟩ (fun _ => PR.move rfl) ?_
                  refine Dh.JB.as (.bool true) (congrArg Value.bool (by simp; exact q9.1.resolve_left g105)) ?_
                  refine Dh.JB.pv rfl ⟨_, rfl, rfl⟩ (fun _ => PR.not rfl) ?_
                  refine Dh.JB.pv rfl ⟨_, rfl, rfl⟩ (fun _ => PR.move rfl) ?_
                  refine Dh.JB.pv rfl ⟨_, rfl, rfl⟩ (fun _ => PR.fieldAddr rfl tfl24_0) ?_
                  refine Dh.JB.rd [.blk _ _ _] rfl ⟨_, rfl, rfl⟩ (by repeat (first | exact Take.nil | apply Take.cons (by repeat (first | exact Del.here | apply Del.there)))) (fun _ => PR.load1 rfl tsh22 Has.here (by rfl)) ?_
                  refine Dh.JB.pv rfl ⟨_, rfl, rfl⟩ (fun _ => PR.move rfl) ?_
                  refine Dh.JB.pv rfl ⟨_, rfl, rfl⟩ (fun _ => PR.idx j rfl rfl tsl22 (by repeat (first | exact Mem.here | apply Mem.there)) (bxsV_len _) (by omega) rfl hjl) ?_
                  refine Dh.JB.pv rfl ⟨_, rfl, rfl⟩ (fun _ => PR.fieldAddrR rfl tfl36_0 (by repeat (first | exact Mem.here | apply Mem.there)) (by omega)) ?_
                  refine Dh.JB.pv rfl ⟨_, rfl, rfl⟩ (fun _ => PR.loadR rfl tsh3 (by repeat (first | exact Mem.here | apply Mem.there)) (bxs_f hjl 0 rfl)) ?_
                  refine Dh.JB.pv rfl ⟨_, rfl, rfl⟩ (fun _ => PR.move rfl) ?_
                  refine Dh.JB.pv rfl ⟨_, rfl, rfl⟩ (fun _ => PR.move rfl) ?_
                  refine Dh.JB.pv rfl ⟨_, rfl, rfl⟩ (fun _ => PR.idx k rfl rfl tsl27 (by repeat (first | exact Mem.here | apply Mem.there)) (evsV_len _) (by omega) rfl hlt) ?_
                  refine Dh.JB.pv rfl ⟨_, rfl, rfl⟩ (fun _ => PR.fieldAddrR rfl tfl26_1 (by repeat (first | exact Mem.here | apply Mem.there)) (by omega)) ?_
                  refine Dh.JB.pv rfl ⟨_, rfl, rfl⟩ (fun _ => PR.loadR rfl tsh3 (by repeat (first | exact Mem.here | apply Mem.there)) hea) ?_
                  refine Dh.JB.pv rfl ⟨_, rfl, rfl⟩ (fun _ => PR.neq false rfl rfl (by simp [q9.2])) ?_
                  refine Dh.JB.pv rfl ⟨_, rfl, rfl⟩ (fun _ => PR.pickF rfl rfl) ?_
                  refine Dh.JB.pv rfl trivial (fun _ => PR.pickT rfl rfl) ?_
                  refine Dh.JB.nil ?_
                  refine Dh.JL.nil ?_
                  refine Jq.thenN ?_
                  refine Jc.condF rfl ?_
                  refine Jc.skip ?_
                  refine Jq.blkN ?_
                  refine Jq.thenN ?_
                  refine Jc.region ?_
                  refine Jl.pv (PR.move rfl) ?_
                  refine Jl.pv (PR.add ((j + 1 : Nat) : Int) rfl rfl (by rw [w64 (by omega) (by omega)]; rfl)) ?_
                  refine Jl.pv (PR.assign rfl) ?_
                  refine Jl.nil ?_
                  exact Jq.againT ⟨j + 1, hjl⟩ (by simp only; omega) (by repeat (first | exact trivial | refine And.intro rfl ?_)) (by repeat (first | exact Take.nil | apply Take.cons (by repeat (first | exact Del.here | apply Del.there)))) (by repeat (first | exact trivial | refine And.intro (by repeat (first | exact Mem.here | apply Mem.there)) ?_))
                · try replace g132 := of_decide_eq_false g132
                  refine Dh.JB.off rfl ⟨_, rfl, .inr rfl⟩ ?_
                  refine Dh.JB.off rfl ⟨_, rfl, .inr rfl⟩ ?_
                  refine Dh.JB.off rfl ⟨_, rfl, .inr rfl⟩ ?_
                  refine Dh.JB.off rfl ⟨_, rfl, .inl rfl⟩ ?_
                  refine Dh.JB.off rfl ⟨_, rfl, .inl rfl⟩ ?_
                  refine Dh.JB.off rfl ⟨_, rfl, .inl rfl⟩ ?_
                  refine Dh.JB.off rfl ⟨_, rfl, .inl rfl⟩ ?_
                  refine Dh.JB.off rfl ⟨_, rfl, .inl rfl⟩ ?_
                  refine Dh.JB.off rfl ⟨_, rfl, .inl rfl⟩ ?_
                  refine Dh.JB.off rfl ⟨_, rfl, .inl rfl⟩ ?_
                  refine Dh.JB.off rfl ⟨_, rfl, .inl rfl⟩ ?_
                  refine Dh.JB.off rfl ⟨_, rfl, .inl rfl⟩ ?_
                  refine Dh.JB.off rfl ⟨_, rfl, .inl rfl⟩ ?_
                  refine Dh.JB.off rfl ⟨_, rfl, .inl rfl⟩ ?_
                  refine Dh.JB.off rfl ⟨_, rfl, .inl rfl⟩ ?_
                  refine Dh.JB.off rfl ⟨_, rfl, .inr rfl⟩ ?_
                  refine Dh.JB.pv rfl trivial (fun _ => PR.pickF rfl rfl) ?_
                  refine Dh.JB.nil ?_
                  refine Dh.JL.nil ?_
                  refine Jq.thenN ?_
                  refine Jc.condF rfl ?_
                  refine Jc.skip ?_
                  refine Jq.blkN ?_
                  refine Jq.thenN ?_
                  refine Jc.region ?_
                  refine Jl.pv (PR.move rfl) ?_
                  refine Jl.pv (PR.add ((j + 1 : Nat) : Int) rfl rfl (by rw [w64 (by omega) (by omega)]; rfl)) ?_
                  refine Jl.pv (PR.assign rfl) ?_
                  refine Jl.nil ?_
                  exact Jq.againT ⟨j + 1, hjl⟩ (by simp only; omega) (by repeat (first | exact trivial | refine And.intro rfl ?_)) (by repeat (first | exact Take.nil | apply Take.cons (by repeat (first | exact Del.here | apply Del.there)))) (by repeat (first | exact trivial | refine And.intro (by repeat (first | exact Mem.here | apply Mem.there)) ?_))
              · try replace g124 := of_decide_eq_false g124
                refine Dh.JB.off rfl ⟨_, rfl, .inr rfl⟩ ?_
                refine Dh.JB.off rfl ⟨_, rfl, .inr rfl⟩ ?_
                refine Dh.JB.off rfl ⟨_, rfl, .inr rfl⟩ ?_
                refine Dh.JB.off rfl ⟨_, rfl, .inr rfl⟩ ?_
                refine Dh.JB.off rfl ⟨_, rfl, .inr rfl⟩ ?_
                refine Dh.JB.off rfl ⟨_, rfl, .inr rfl⟩ ?_
                refine Dh.JB.pv rfl trivial (fun _ => PR.pickF rfl rfl) ?_
                refine Dh.JB.pv rfl trivial (fun _ => PR.move rfl) ?_
                refine Dh.JB.off rfl ⟨_, rfl, .inr rfl⟩ ?_
                refine Dh.JB.off rfl ⟨_, rfl, .inr rfl⟩ ?_
                refine Dh.JB.off rfl ⟨_, rfl, .inr rfl⟩ ?_
                refine Dh.JB.off rfl ⟨_, rfl, .inl rfl⟩ ?_
                refine Dh.JB.off rfl ⟨_, rfl, .inl rfl⟩ ?_
                refine Dh.JB.off rfl ⟨_, rfl, .inl rfl⟩ ?_
                refine Dh.JB.off rfl ⟨_, rfl, .inl rfl⟩ ?_
                refine Dh.JB.off rfl ⟨_, rfl, .inl rfl⟩ ?_
                refine Dh.JB.off rfl ⟨_, rfl, .inl rfl⟩ ?_
                refine Dh.JB.off rfl ⟨_, rfl, .inl rfl⟩ ?_
                refine Dh.JB.off rfl ⟨_, rfl, .inl rfl⟩ ?_
                refine Dh.JB.off rfl ⟨_, rfl, .inl rfl⟩ ?_
                refine Dh.JB.off rfl ⟨_, rfl, .inl rfl⟩ ?_
                refine Dh.JB.off rfl ⟨_, rfl, .inl rfl⟩ ?_
                refine Dh.JB.off rfl ⟨_, rfl, .inl rfl⟩ ?_
                refine Dh.JB.off rfl ⟨_, rfl, .inr rfl⟩ ?_
                refine Dh.JB.pv rfl trivial (fun _ => PR.pickF rfl rfl) ?_
                refine Dh.JB.nil ?_
                refine Dh.JL.nil ?_
                refine Jq.thenN ?_
                refine Jc.condF rfl ?_
                refine Jc.skip ?_
                refine Jq.blkN ?_
                refine Jq.thenN ?_
                refine Jc.region ?_
                refine Jl.pv (PR.move rfl) ?_
                refine Jl.pv (PR.add ((j + 1 : Nat) : Int) rfl rfl (by rw [w64 (by omega) (by omega)]; rfl)) ?_
                refine Jl.pv (PR.assign rfl) ?_
                refine Jl.nil ?_
                exact Jq.againT ⟨j + 1, hjl⟩ (by simp only; omega) (by repeat (first | exact trivial | refine And.intro rfl ?_)) (by repeat (first | exact Take.nil | apply Take.cons (by repeat (first | exact Del.here | apply Del.there)))) (by repeat (first | exact trivial | refine And.intro (by repeat (first | exact Mem.here | apply Mem.there)) ?_))
          · try replace h2 := of_decide_eq_false h2
            refine Jc.exit ?_
            refine Jq.thenX ?_
            refine Jq.thenX ?_
            refine Jq.blkX ?_
            refine Jq.thenN ?_
            refine Jc.region ?_
            refine Jl.pv (PR.loadW rfl tsh24 (by repeat (first | exact Has.here | apply Has.there)) (by rfl)) ?_
            refine Jl.storeW rfl tsh24 rfl (by rfl) (by first | exact Cl.cs_one _ _ | simp [Value.oneCell', Bx.cs]) (by repeat (first | exact Swap.here | apply Swap.there)) (by rfl) ?_
            refine Jl.nil ?_
            refine Jq.blkN ?_
            refine Jq.thenN ?_
            refine Jc.region ?_
            refine Jl.pv (PR.move rfl) ?_
            refine Jl.pv (PR.add ((k + 1 : Nat) : Int) rfl rfl (by rw [w64 (by omega) (by omega)]; rfl)) ?_
            refine Jl.pv (PR.assign rfl) ?_
            refine Jl.nil ?_
            exact Jq.againT ⟨(k + 1, d', (A33, c33)), hlt, hdo', hnx⟩ (by simp only; omega) (by repeat (first | exact trivial | refine And.intro rfl ?_)) (by repeat (first | exact Take.nil | apply Take.cons (by repeat (first | exact Del.here | apply Del.there)))) (by repeat (first | exact trivial | refine And.intro (by repeat (first | exact Mem.here | apply Mem.there)) ?_))
      · try replace h1 := of_decide_eq_false h1
        have hkl : l.length ≤ k := by have : ¬ (k : Int) < l.length := h1; omega
        have hdk' : allE c (l.take k) = d := hdk
        rw [List.take_of_length_le hkl] at hdk'
        subst hdk'
        refine Jc.exit ?_
        refine Jq.thenX ?_
        refine Jq.thenX ?_
        refine Jq.blkX ?_
        refine Jq.thenN ?_
        refine Jc.seq ?_
        refine Jc.region ?_
        refine Jl.pv (PR.loadW rfl tsh24 (by repeat (first | exact Has.here | apply Has.there)) (by rfl)) ?_
        refine Jl.pv (PR.loadW rfl tsh24 (by repeat (first | exact Has.here | apply Has.there)) (by rfl)) ?_
        refine Jl.call (rsame_eq (allE c l) (A21, c21) y hWo.n) en9 (by rfl) (by repeat (first | exact Take.nil | apply Take.cons (by repeat (first | exact Del.here | apply Del.there)))) (by repeat (first | exact trivial | refine And.intro (by repeat (first | exact Mem.here | apply Mem.there)) ?_)) ?_
        rintro ⟨⟩
        refine Jl.as (.bool true) (congrArg Value.bool rfl) ?_
        refine Jl.pv (PR.move rfl) ?_
        refine Jl.on rfl rfl ?_
        refine Jl.call (evwakes_ct bm) en8 (by rfl) (by repeat (first | exact Take.nil | apply Take.cons (by repeat (first | exact Del.here | apply Del.there)))) (by repeat (first | exact trivial | refine And.intro (by repeat (first | exact Mem.here | apply Mem.there)) ?_)) ?_
        rintro ⟨⟩
        refine Jl.pv (PR.pickT rfl rfl) ?_
        refine Jl.pv (PR.assign rfl) ?_
        refine Jl.nil ?_
        refine Jq.thenN ?_
        refine Jc.ret ?_
        exact Jq.fin () (.inl rfl) rfl (RetVs.tmp rfl RetVs.nil) rfl (by repeat (first | exact Take.nil | apply Take.cons (by repeat (first | exact Del.here | apply Del.there)))) (by repeat (first | exact trivial | refine And.intro (by repeat (first | exact Mem.here | apply Mem.there)) ?_))
end Go.Proofs.YtakkoandmkomdaaDoor
