/-
Contracts of herd/event: what events do.
-/
import Derived.Test.YtakkoandmkomdaaDoorClB
import Derived.Test.YtakkoandmkomdaaDoorEvP
import Derived.Test.YtakkoandmkomdaaDoorJt
namespace Go.Proofs.YtakkoandmkomdaaDoor
set_option linter.unusedVariables false
open Go.RowKit
attribute [local irreducible] Res.blk Res.row Fact.rd Res.mapI
theorem Ct.map {P : Program} {f : FuncId} {args : List Value} {Rin : List Res} {pre : List Fact} {α β : Type} {res : α → Value} {Rout : α → List Res} {post : α → List Fact} {res' : β → Value} {Rout' : β → List Res} {post' : β → List Fact} (h : Ct P f args Rin pre res Rout post) (g : α → β)
    (h1 : ∀ x, res x = res' (g x)) (h2 : ∀ x, Rout x = Rout' (g x)) (h3 : ∀ x, post x = post' (g x)) : Ct P f args Rin pre res' Rout' post' := fun X W hX hs hp => by
  refine Calls.mono (h X W hX hs hp) ?_
  rintro e W' ⟨x, q1, q2, q3, q4, q5⟩
  refine ⟨g x, by rw [q1, h1], q2, ?_, fun b hb => q4 b (by rw [h2]; exact hb), fun φ hφ => ?_⟩
  · rw [← h2]; exact q3
  · rw [← h2]; exact q5 φ (by rw [h3]; exact hφ)
theorem bxs_set2 {l : List Bx} {k : Nat} (h : k < l.length) (b : Bx) (f : Nat) (hf : f < 11) (v : Value) (b' : Bx) (hb : b.cs.set f v = b'.cs) : (bxsV (l.set k b)).set (k * 11 + f) v = bxsV (l.set k b') := by
  rw [bxs_set (l := l.set k b) (by simpa using h) f hf v b' (by simpa using hb), List.set_set]
theorem onB_none {c : Cl} {id : Int} {f : Bx → Bx} (h : fnd c.bs id = none) : onB c id f = c := by unfold onB; rw [h]
theorem onB_some {c : Cl} {id : Int} {f : Bx → Bx} {i : Nat} (h : fnd c.bs id = some i) (hi : i < c.bs.length) : onB c id f = { c with bs := c.bs.set i (f c.bs[i]) } := by
  unfold onB; rw [h]
  show { c with bs := c.bs.set i (f (c.bs.getD i Bx.zero)) } = _
  rw [getD_at hi]
theorem enumber_ct (n : Int) : Ct Tryd.prog 53 [.int .i64 n] [] [] (fun _ : Unit => .bool (okN n)) (fun _ => []) (fun _ => []) := by
  refine Ct.of _ Tryd.func53 Tryd.ntmps53 rfl rfl (fun X W => ?_)
  refine Jc.seq ?_
  refine Jc.region ?_
  refine Jl.pv (PR.assign rfl) ?_
  refine Jl.nil ?_
  refine Jq.thenN ?_
  refine Jc.seq ?_
  refine Jc.region ?_
  refine Jl.pv (PR.move rfl) ?_
  refine Jl.pv (PR.geq _ rfl rfl rfl) ?_
  refine Jl.pv (PR.move rfl) ?_
  refine Jl.bsplit (fun g5 => ?_) (fun g5 => ?_)
  · try replace g5 := of_decide_eq_true g5
    refine Jl.on rfl rfl ?_
    refine Jl.pv (PR.move rfl) ?_
    refine Jl.on rfl rfl ?_
    refine Jl.pv (PR.leq _ rfl rfl rfl) ?_
    refine Jl.pv (PR.pickT rfl rfl) ?_
    refine Jl.pv (PR.assign rfl) ?_
    refine Jl.nil ?_
    refine Jq.thenN ?_
    refine Jc.ret ?_
    exact Jq.fin () (.inl rfl) rfl (RetVs.tmp rfl RetVs.nil) (congrArg Value.bool (by rw [Bool.eq_iff_iff]; simp [okN]; omega)) (by repeat (first | exact Take.nil | apply Take.cons (by repeat (first | exact Del.here | apply Del.there)))) (by repeat (first | exact trivial | refine And.intro (by repeat (first | exact Mem.here | apply Mem.there)) ?_))
  · try replace g5 := of_decide_eq_false g5
    refine Jl.offS rfl rfl rfl ?_
    refine Jl.offS rfl rfl rfl ?_
    refine Jl.pv (PR.pickF rfl rfl) ?_
    refine Jl.pv (PR.assign rfl) ?_
    refine Jl.nil ?_
    refine Jq.thenN ?_
    refine Jc.ret ?_
    exact Jq.fin () (.inl rfl) rfl (RetVs.tmp rfl RetVs.nil) (congrArg Value.bool (by rw [Bool.eq_iff_iff]; simp [okN]; omega)) (by repeat (first | exact Take.nil | apply Take.cons (by repeat (first | exact Del.here | apply Del.there)))) (by repeat (first | exact trivial | refine And.intro (by repeat (first | exact Mem.here | apply Mem.there)) ?_))
theorem found_ct (bc : Nat) (id : Int) : Ct Tryd.prog 50 [.pointer (some ⟨bc, 0, none⟩), .int .i64 id] [] [] (fun b : Nat × Nat => .func (.func 57) #[] #[.pointer (some ⟨b.1, 0, none⟩), .pointer (some ⟨b.2, 0, none⟩)]) (fun b => [.blk b.1 46 [.pointer (some ⟨bc, 0, none⟩)], .blk b.2 3 [.int .i64 id]]) (fun _ => []) := by
  refine Ct.of _ Tryd.func50 Tryd.ntmps50 rfl rfl (fun X W => ?_)
  refine Jc.seq ?_
  refine Jc.region ?_
  refine Jl.box rfl (by rfl) ?_
  intro b2
  refine Jl.box rfl (by rfl) ?_
  intro b3
  refine Jl.pv (PR.assign rfl) ?_
  refine Jl.nil ?_
  refine Jq.thenN ?_
  refine Jc.seq ?_
  refine Jc.region ?_
  refine Jl.pv (PR.makeFunc rfl rfl) ?_
  refine Jl.pv (PR.assign rfl) ?_
  refine Jl.nil ?_
  refine Jq.thenN ?_
  refine Jc.ret ?_
  exact Jq.fin (b2, b3) (.inl rfl) rfl (RetVs.tmp rfl RetVs.nil) rfl (by repeat (first | exact Take.nil | apply Take.cons (by repeat (first | exact Del.here | apply Del.there)))) (by repeat (first | exact trivial | refine And.intro (by repeat (first | exact Mem.here | apply Mem.there)) ?_))
theorem found1_some (c : Cl) (x : AdC) (bc p q i : Nat) (id : Int) (hn : c.bs.length ≤ 1000000) (hf : fnd c.bs id = some i) :
    ItL Tryd.prog 57 [.pointer (some ⟨p, 0, none⟩), .pointer (some ⟨q, 0, none⟩)] [.blk p 46 [.pointer (some ⟨bc, 0, none⟩)], .blk q 3 [.int .i64 id]] [] [.rd (some ⟨bc, 0, none⟩) (c.cs x), .rd x.1 (bxsV c.bs)] 1 (fun _ => [.pointer (x.1.map (·.add (i * 11)))]) := by
  obtain ⟨A, cA⟩ := x
  obtain ⟨hi, _, _⟩ := fnd_some hf
  have hfind := find_ct c (A, cA) id hn
  rw [show fndI c.bs id = (i : Int) by rw [fndI, hf]] at hfind
  refine ItL.of _ Tryd.func57 Tryd.ntmps57 rfl rfl (by rfl) (by simp) (by simp only [List.mem_cons, List.not_mem_nil, or_false]; rintro φ (rfl | rfl) <;> exact Fact.rd_old _ _) (fun W l cl clx hy => ?_)
  refine Jc.seq ?_
  refine Jc.drawn [0, 1, 3, 0, 15, 31] ([(5, false)], []) [⟨[(0, false), (1, false), (2, false), (3, false)], [], 4⟩] tmx (by kernel_rfl) ?_
  refine Dh.JH.cons ?_
  refine Dh.JB.rd [.blk _ _ _] rfl trivial (by repeat (first | exact Take.nil | apply Take.cons (by repeat (first | exact Del.here | apply Del.there)))) (fun _ => PR.load1 rfl tsh46 Has.here (by rfl)) ?_
  refine Dh.JB.pv rfl trivial (fun _ => PR.nilCheck rfl) ?_
  refine Dh.JB.pv rfl trivial (fun _ => PR.loadRA (A := some ⟨bc, 0, none⟩) (k := 0) rfl tsh24 (by repeat (first | exact Mem.here | apply Mem.there)) (by decide) (by rfl)) ?_
  refine Dh.JB.rd [.blk _ _ _] rfl trivial (by repeat (first | exact Take.nil | apply Take.cons (by repeat (first | exact Del.here | apply Del.there)))) (fun _ => PR.load1 rfl tsh3 Has.here (by rfl)) ?_
  refine Dh.JB.nil ?_
  refine Dh.JL.nil ?_
  refine Dh.JE.mk rfl (fun _ h => by cases h) (fun C0_4 => ?_)
  refine Jl.call hfind en58 (by rfl) (by repeat (first | exact Take.nil | apply Take.cons (by repeat (first | exact Del.here | apply Del.there)))) (by repeat (first | exact trivial | refine And.intro (by repeat (first | exact Mem.here | apply Mem.there)) ?_)) ?_
  rintro ⟨⟩
  refine Jl.nil ?_
  refine Dh.Jq.segV (by repeat (first | exact Dh.FExt.refl | apply Dh.FExt.cons | apply Dh.FExt.app)) ?_ (by repeat (first | exact Dh.KeepL.nil | apply Dh.KeepL.anc (by rfl) | apply Dh.KeepL.keep (by repeat (first | exact Take.nil | apply Take.cons (by repeat (first | exact Del.here | apply Del.there))))))
  refine Dh.JH.nil ?_
  refine Dh.JB.pv rfl trivial (fun _ => PR.assign rfl) ?_
  refine Dh.JB.nil ?_
  refine Dh.JL.nil ?_
  refine Jq.thenN ?_
  refine Jc.seq ?_
  refine Jc.region ?_
  refine Jl.pv (PR.move rfl) ?_
  refine Jl.pv (PR.geq true rfl rfl (by simp)) ?_
  refine Jl.nil ?_
  refine Jq.thenN ?_
  refine Jc.condT rfl ?_
  refine Jc.region ?_
  refine Jl.pv (PR.move rfl) ?_
  refine Jl.pv (PR.load1 rfl tsh46 (by repeat (first | exact Has.here | apply Has.there)) (by rfl)) ?_
  refine Jl.pv (PR.nilCheck rfl) ?_
  refine Jl.pv (PR.fieldAddrR (A := some ⟨bc, 0, none⟩) (k := 0) rfl tfl24_0 (by repeat (first | exact Mem.here | apply Mem.there)) (by simp [Cl.cs])) ?_
  refine Jl.pv (PR.loadR (A := some ⟨bc, 0, none⟩) (j := 0) rfl tsh22 (by repeat (first | exact Mem.here | apply Mem.there)) (by rfl)) ?_
  refine Jl.pv (PR.move rfl) ?_
  refine Jl.pv (PR.idx i rfl rfl tsl22 (by repeat (first | exact Mem.here | apply Mem.there)) (bxsV_len _) (by omega) rfl hi) ?_
  refine hy _ _ _ _ _ _ _ _ _ _ _ _ _ _ 0 (by decide) rfl rfl (by repeat (first | exact Mem.here | apply Mem.there)) rfl ?_ ?_
  · refine Jl.nil ?_
    exact Jq.itDone (.inr rfl) (by repeat (first | exact Mem.here | apply Mem.there))
  · refine Jl.nil ?_
    exact Jq.itStop (k := 0) (.inr rfl) (by decide) (by repeat (first | exact Mem.here | apply Mem.there))
theorem found1_none (c : Cl) (x : AdC) (bc p q : Nat) (id : Int) (hn : c.bs.length ≤ 1000000) (hf : fnd c.bs id = none) :
    ItL Tryd.prog 57 [.pointer (some ⟨p, 0, none⟩), .pointer (some ⟨q, 0, none⟩)] [.blk p 46 [.pointer (some ⟨bc, 0, none⟩)], .blk q 3 [.int .i64 id]] [] [.rd (some ⟨bc, 0, none⟩) (c.cs x), .rd x.1 (bxsV c.bs)] 0 (fun _ => [.bool false]) := by
  obtain ⟨A, cA⟩ := x
  have hfind := find_ct c (A, cA) id hn
  rw [show fndI c.bs id = -1 by rw [fndI, hf]] at hfind
  refine ItL.of _ Tryd.func57 Tryd.ntmps57 rfl rfl (by rfl) (by simp) (by simp only [List.mem_cons, List.not_mem_nil, or_false]; rintro φ (rfl | rfl) <;> exact Fact.rd_old _ _) (fun W l cl clx hy => ?_)
  refine Jc.seq ?_
  refine Jc.drawn [0, 1, 3, 0, 15, 31] ([(5, false)], []) [⟨[(0, false), (1, false), (2, false), (3, false)], [], 4⟩] tmx (by kernel_rfl) ?_
  refine Dh.JH.cons ?_
  refine Dh.JB.rd [.blk _ _ _] rfl trivial (by repeat (first | exact Take.nil | apply Take.cons (by repeat (first | exact Del.here | apply Del.there)))) (fun _ => PR.load1 rfl tsh46 Has.here (by rfl)) ?_
  refine Dh.JB.pv rfl trivial (fun _ => PR.nilCheck rfl) ?_
  refine Dh.JB.pv rfl trivial (fun _ => PR.loadRA (A := some ⟨bc, 0, none⟩) (k := 0) rfl tsh24 (by repeat (first | exact Mem.here | apply Mem.there)) (by decide) (by rfl)) ?_
  refine Dh.JB.rd [.blk _ _ _] rfl trivial (by repeat (first | exact Take.nil | apply Take.cons (by repeat (first | exact Del.here | apply Del.there)))) (fun _ => PR.load1 rfl tsh3 Has.here (by rfl)) ?_
  refine Dh.JB.nil ?_
  refine Dh.JL.nil ?_
  refine Dh.JE.mk rfl (fun _ h => by cases h) (fun C0_4 => ?_)
  refine Jl.call hfind en58 (by rfl) (by repeat (first | exact Take.nil | apply Take.cons (by repeat (first | exact Del.here | apply Del.there)))) (by repeat (first | exact trivial | refine And.intro (by repeat (first | exact Mem.here | apply Mem.there)) ?_)) ?_
  rintro ⟨⟩
  refine Jl.nil ?_
  refine Dh.Jq.segV (by repeat (first | exact Dh.FExt.refl | apply Dh.FExt.cons | apply Dh.FExt.app)) ?_ (by repeat (first | exact Dh.KeepL.nil | apply Dh.KeepL.anc (by rfl) | apply Dh.KeepL.keep (by repeat (first | exact Take.nil | apply Take.cons (by repeat (first | exact Del.here | apply Del.there))))))
  refine Dh.JH.nil ?_
  refine Dh.JB.pv rfl trivial (fun _ => PR.assign rfl) ?_
  refine Dh.JB.nil ?_
  refine Dh.JL.nil ?_
  refine Jq.thenN ?_
  refine Jc.seq ?_
  refine Jc.region ?_
  refine Jl.pv (PR.move rfl) ?_
  refine Jl.pv (PR.geq false rfl rfl (by decide)) ?_
  refine Jl.nil ?_
  refine Jq.thenN ?_
  refine Jc.condF rfl ?_
  refine Jc.skip ?_
  exact Jq.itDone (.inr rfl) (by repeat (first | exact Mem.here | apply Mem.there))
/-- What an event's function does. -/
def HapCt (g : FuncId) (e : Ev) : Prop := ∀ (bc : Nat) (x : AdC) (c : Cl), c.bs.length ≤ 1000000 → Ct Tryd.prog g [.pointer (some ⟨bc, 0, none⟩), e.v] [.blk bc 24 (c.cs x), c.row x] [] (fun _ : AdC => .tuple #[]) (fun y => [.blk bc 24 ((happ c e).cs y), (happ c e).row y]) (fun _ => [])
theorem hap1_ct (e : Ev) (hk : e.k = 1) : HapCt 49 e := fun bc x c hn => by
  have he : happ c e = onB c e.a Bx.die := if_pos hk
  rw [he]
  cases hf : fnd c.bs e.a with
  | none =>
    rw [onB_none hf]
    refine Ct.of _ Tryd.func49 Tryd.ntmps49 rfl rfl (fun X W => ?_)
    refine Jc.seq ?_
    refine Jc.region ?_
    refine Jl.box rfl (by rfl) ?_
    intro b3
    refine Jl.nil ?_
    refine Jq.thenN ?_
    refine Jc.seq ?_
    refine Jc.region ?_
    refine Jl.pv (PR.move rfl) ?_
    refine Jl.pv (PR.fieldAddr rfl tfl26_1) ?_
    refine Jl.pv (PR.load1 rfl tsh3 (by repeat (first | exact Has.here | apply Has.there)) (by rfl)) ?_
    refine Jl.call (found_ct bc e.a) en50 (by rfl) (by repeat (first | exact Take.nil | apply Take.cons (by repeat (first | exact Del.here | apply Del.there)))) (by repeat (first | exact trivial | refine And.intro (by repeat (first | exact Mem.here | apply Mem.there)) ?_)) ?_
    rintro ⟨b8, f8⟩
    refine Jl.nil ?_
    refine Jq.thenN ?_
    refine Jc.block ?_
    refine Jc.rangeL (ls := [.blk bc 24 (c.cs x), c.row x]) (σ := Unit) (τ := Empty) (Inv := fun _ _ => True) (Rs := fun _ => [.blk b3 26 e.cs, .blk bc 24 (c.cs x), c.row x]) (Φs := fun _ => []) (InvX := fun _ _ _ => False) (RsX := fun _ => []) (ΦsX := fun _ => []) (vals := fun _ => [.bool false]) rfl en57 (found1_none c x bc b8 f8 e.a hn hf) (by repeat (first | exact Take.nil | apply Take.cons (by repeat (first | exact Del.here | apply Del.there)))) (by repeat (first | exact trivial | refine And.intro (by repeat (first | exact Mem.here | apply Mem.there)) ?_)) (by repeat (first | exact Take.nil | apply Take.cons (by repeat (first | exact Del.here | apply Del.there)))) (by repeat (first | exact Lends.nil | apply Lends.row | apply Lends.blk)) (fun _ => rfl) rfl () trivial rfl (by repeat (first | exact trivial | refine And.intro (by repeat (first | exact Mem.here | apply Mem.there)) ?_)) ?_ ?_ ?_
    · rintro k ⟨⟩ hk hI l C1
      exact absurd hk (Nat.not_lt_zero _)
    · rintro ⟨⟩ D0 hI
      refine Jq.blkN ?_
      exact Jq.finM (Ds := [D0]) x (.inr rfl) rfl (by repeat (first | exact Take.nil | apply Take.cons (by repeat (first | exact Del.here | apply Del.there)))) RetVs.nil rfl (by repeat (first | exact Take.nil | apply Take.cons (by repeat (first | exact Del.here | apply Del.there)))) (by repeat (first | exact trivial | refine And.intro (by repeat (first | exact Mem.here | apply Mem.there)) ?_))
    · exact fun _ _ t => t.elim
  | some i =>
    obtain ⟨hi, _, _⟩ := fnd_some hf
    rw [onB_some hf hi]
    refine Ct.map (res := fun _ : Unit => .tuple #[]) (Rout := fun _ => [.blk bc 24 (c.cs x), .row 36 11 (.slice x.1 c.bs.length x.2) c.bs.length (bxsV (c.bs.set i c.bs[i].die))]) (post := fun _ => []) ?_ (fun _ => x) (fun _ => rfl) (fun _ => by simp [Cl.cs, Cl.row]) (fun _ => rfl)
    refine Ct.of _ Tryd.func49 Tryd.ntmps49 rfl rfl (fun X W => ?_)
    refine Jc.seq ?_
    refine Jc.region ?_
    refine Jl.box rfl (by rfl) ?_
    intro b3
    refine Jl.nil ?_
    refine Jq.thenN ?_
    refine Jc.seq ?_
    refine Jc.region ?_
    refine Jl.pv (PR.move rfl) ?_
    refine Jl.pv (PR.fieldAddr rfl tfl26_1) ?_
    refine Jl.pv (PR.load1 rfl tsh3 (by repeat (first | exact Has.here | apply Has.there)) (by rfl)) ?_
    refine Jl.call (found_ct bc e.a) en50 (by rfl) (by repeat (first | exact Take.nil | apply Take.cons (by repeat (first | exact Del.here | apply Del.there)))) (by repeat (first | exact trivial | refine And.intro (by repeat (first | exact Mem.here | apply Mem.there)) ?_)) ?_
    rintro ⟨b8, f8⟩
    refine Jl.nil ?_
    refine Jq.thenN ?_
    refine Jc.block ?_
    refine Jc.rangeL (ls := [.blk bc 24 (c.cs x), c.row x]) (σ := List Bx) (τ := Empty) (Inv := fun k s => (k = 0 ∧ s = c.bs) ∨ (k = 1 ∧ s = c.bs.set i c.bs[i].die)) (Rs := fun s => [.blk b3 26 e.cs, .blk bc 24 (c.cs x), .row 36 11 (.slice x.1 c.bs.length x.2) c.bs.length (bxsV s)]) (Φs := fun _ => []) (InvX := fun _ _ _ => False) (RsX := fun _ => []) (ΦsX := fun _ => []) (vals := fun _ => [.pointer (x.1.map (·.add (i * 11)))]) rfl en57 (found1_some c x bc b8 f8 i e.a hn hf) (by repeat (first | exact Take.nil | apply Take.cons (by repeat (first | exact Del.here | apply Del.there)))) (by repeat (first | exact trivial | refine And.intro (by repeat (first | exact Mem.here | apply Mem.there)) ?_)) (by repeat (first | exact Take.nil | apply Take.cons (by repeat (first | exact Del.here | apply Del.there)))) (by repeat (first | exact Lends.nil | apply Lends.row | apply Lends.blk)) (fun _ => rfl) rfl c.bs (.inl ⟨rfl, rfl⟩) rfl (by repeat (first | exact trivial | refine And.intro (by repeat (first | exact Mem.here | apply Mem.there)) ?_)) ?_ ?_ ?_
    · rintro k s hk hI l C1
      obtain rfl : k = 0 := by omega
      obtain rfl : s = c.bs := hI.elim (fun h => h.2) (fun h => absurd h.1 (by decide))
      show Jc _ _ _ _ _ _ (psetL [9] [.pointer (x.1.map (·.add (i * 11)))] _) [.blk b3 26 e.cs, .blk bc 24 (c.cs x), .row 36 11 (.slice x.1 c.bs.length x.2) c.bs.length (bxsV c.bs)] []
      refine Jc.region ?_
      refine Jl.pv (PR.assign rfl) ?_
      refine Jl.nil ?_
      refine Jq.assigned (fun C2 => ?_)
      refine Jc.block ?_
      refine Jc.region ?_
      refine Jl.pv (PR.move rfl) ?_
      refine Jl.pv (PR.move rfl) ?_
      refine Jl.pv (PR.move rfl) ?_
      refine Jl.pv (PR.nilCheckO rfl (by repeat (first | exact Del.here | apply Del.there)) (by rw [bxsV_len]; omega)) ?_
      refine Jl.pv (PR.fieldAddrO rfl tfl36_6 (by repeat (first | exact Del.here | apply Del.there)) (by rw [bxsV_len]; omega)) ?_
      refine Jl.storeO rfl tsh4 rfl (by rfl) (by repeat (first | exact Swap.here | apply Swap.there)) (by rw [bxsV_len]; omega) (bxs_set hi 6 (by omega) _ { c.bs[i] with gone := true } rfl) ?_
      refine Jl.pv (PR.nilCheckO rfl (by repeat (first | exact Del.here | apply Del.there)) (by rw [bxsV_len, List.length_set]; omega)) ?_
      refine Jl.pv (PR.fieldAddrO rfl tfl36_5 (by repeat (first | exact Del.here | apply Del.there)) (by rw [bxsV_len, List.length_set]; omega)) ?_
      refine Jl.storeO rfl tsh4 rfl (by rfl) (by repeat (first | exact Swap.here | apply Swap.there)) (by rw [bxsV_len, List.length_set]; omega) (bxs_set2 hi { c.bs[i] with gone := true } 5 (by omega) _ { c.bs[i] with gone := true, on := false } rfl) ?_
      refine Jl.pv (PR.nilCheckO rfl (by repeat (first | exact Del.here | apply Del.there)) (by rw [bxsV_len, List.length_set]; omega)) ?_
      refine Jl.pv (PR.fieldAddrO rfl tfl36_8 (by repeat (first | exact Del.here | apply Del.there)) (by rw [bxsV_len, List.length_set]; omega)) ?_
      refine Jl.storeO rfl tsh5 rfl (by rfl) (by repeat (first | exact Swap.here | apply Swap.there)) (by rw [bxsV_len, List.length_set]; omega) (bxs_set2 hi { c.bs[i] with gone := true, on := false } 8 (by omega) _ c.bs[i].die rfl) ?_
      refine Jl.nil ?_
      refine Jq.blkN ?_
      exact Jq.next (c.bs.set i c.bs[i].die) (.inr ⟨rfl, rfl⟩) rfl (by repeat (first | exact trivial | refine And.intro (by repeat (first | exact Mem.here | apply Mem.there)) ?_))
    · rintro s D0 hI
      obtain rfl : s = c.bs.set i c.bs[i].die := hI.elim (fun h => absurd h.1 (by decide)) (fun h => h.2)
      refine Jq.blkN ?_
      exact Jq.finM (Ds := [D0]) () (.inr rfl) rfl (by repeat (first | exact Take.nil | apply Take.cons (by repeat (first | exact Del.here | apply Del.there)))) RetVs.nil rfl (by repeat (first | exact Take.nil | apply Take.cons (by repeat (first | exact Del.here | apply Del.there)))) (by repeat (first | exact trivial | refine And.intro (by repeat (first | exact Mem.here | apply Mem.there)) ?_))
    · exact fun _ _ t => t.elim
theorem hap2_ct (e : Ev) (hk : e.k = 2) : HapCt 51 e := fun bc x c hn => by
  have he : happ c e = onB c e.a Bx.flip := by rw [happ, hk]; rfl
  rw [he]
  cases hf : fnd c.bs e.a with
  | none =>
    rw [onB_none hf]
    refine Ct.of _ Tryd.func51 Tryd.ntmps51 rfl rfl (fun X W => ?_)
    refine Jc.seq ?_
    refine Jc.region ?_
    refine Jl.box rfl (by rfl) ?_
    intro b3
    refine Jl.nil ?_
    refine Jq.thenN ?_
    refine Jc.seq ?_
    refine Jc.region ?_
    refine Jl.pv (PR.move rfl) ?_
    refine Jl.pv (PR.fieldAddr rfl tfl26_1) ?_
    refine Jl.pv (PR.load1 rfl tsh3 (by repeat (first | exact Has.here | apply Has.there)) (by rfl)) ?_
    refine Jl.call (found_ct bc e.a) en50 (by rfl) (by repeat (first | exact Take.nil | apply Take.cons (by repeat (first | exact Del.here | apply Del.there)))) (by repeat (first | exact trivial | refine And.intro (by repeat (first | exact Mem.here | apply Mem.there)) ?_)) ?_
    rintro ⟨b8, f8⟩
    refine Jl.nil ?_
    refine Jq.thenN ?_
    refine Jc.block ?_
    refine Jc.rangeL (ls := [.blk bc 24 (c.cs x), c.row x]) (σ := Unit) (τ := Empty) (Inv := fun _ _ => True) (Rs := fun _ => [.blk b3 26 e.cs, .blk bc 24 (c.cs x), c.row x]) (Φs := fun _ => []) (InvX := fun _ _ _ => False) (RsX := fun _ => []) (ΦsX := fun _ => []) (vals := fun _ => [.bool false]) rfl en57 (found1_none c x bc b8 f8 e.a hn hf) (by repeat (first | exact Take.nil | apply Take.cons (by repeat (first | exact Del.here | apply Del.there)))) (by repeat (first | exact trivial | refine And.intro (by repeat (first | exact Mem.here | apply Mem.there)) ?_)) (by repeat (first | exact Take.nil | apply Take.cons (by repeat (first | exact Del.here | apply Del.there)))) (by repeat (first | exact Lends.nil | apply Lends.row | apply Lends.blk)) (fun _ => rfl) rfl () trivial rfl (by repeat (first | exact trivial | refine And.intro (by repeat (first | exact Mem.here | apply Mem.there)) ?_)) ?_ ?_ ?_
    · rintro k ⟨⟩ hk hI l C1
      exact absurd hk (Nat.not_lt_zero _)
    · rintro ⟨⟩ D0 hI
      refine Jq.blkN ?_
      exact Jq.finM (Ds := [D0]) x (.inr rfl) rfl (by repeat (first | exact Take.nil | apply Take.cons (by repeat (first | exact Del.here | apply Del.there)))) RetVs.nil rfl (by repeat (first | exact Take.nil | apply Take.cons (by repeat (first | exact Del.here | apply Del.there)))) (by repeat (first | exact trivial | refine And.intro (by repeat (first | exact Mem.here | apply Mem.there)) ?_))
    · exact fun _ _ t => t.elim
  | some i =>
    obtain ⟨hi, _, _⟩ := fnd_some hf
    rw [onB_some hf hi]
    refine Ct.map (res := fun _ : Unit => .tuple #[]) (Rout := fun _ => [.blk bc 24 (c.cs x), .row 36 11 (.slice x.1 c.bs.length x.2) c.bs.length (bxsV (c.bs.set i c.bs[i].flip))]) (post := fun _ => []) ?_ (fun _ => x) (fun _ => rfl) (fun _ => by simp [Cl.cs, Cl.row]) (fun _ => rfl)
    refine Ct.of _ Tryd.func51 Tryd.ntmps51 rfl rfl (fun X W => ?_)
    refine Jc.seq ?_
    refine Jc.region ?_
    refine Jl.box rfl (by rfl) ?_
    intro b3
    refine Jl.nil ?_
    refine Jq.thenN ?_
    refine Jc.seq ?_
    refine Jc.region ?_
    refine Jl.pv (PR.move rfl) ?_
    refine Jl.pv (PR.fieldAddr rfl tfl26_1) ?_
    refine Jl.pv (PR.load1 rfl tsh3 (by repeat (first | exact Has.here | apply Has.there)) (by rfl)) ?_
    refine Jl.call (found_ct bc e.a) en50 (by rfl) (by repeat (first | exact Take.nil | apply Take.cons (by repeat (first | exact Del.here | apply Del.there)))) (by repeat (first | exact trivial | refine And.intro (by repeat (first | exact Mem.here | apply Mem.there)) ?_)) ?_
    rintro ⟨b8, f8⟩
    refine Jl.nil ?_
    refine Jq.thenN ?_
    refine Jc.block ?_
    refine Jc.rangeL (ls := [.blk bc 24 (c.cs x), c.row x]) (σ := List Bx) (τ := Empty) (Inv := fun k s => (k = 0 ∧ s = c.bs) ∨ (k = 1 ∧ s = c.bs.set i c.bs[i].flip)) (Rs := fun s => [.blk b3 26 e.cs, .blk bc 24 (c.cs x), .row 36 11 (.slice x.1 c.bs.length x.2) c.bs.length (bxsV s)]) (Φs := fun _ => []) (InvX := fun _ _ _ => False) (RsX := fun _ => []) (ΦsX := fun _ => []) (vals := fun _ => [.pointer (x.1.map (·.add (i * 11)))]) rfl en57 (found1_some c x bc b8 f8 i e.a hn hf) (by repeat (first | exact Take.nil | apply Take.cons (by repeat (first | exact Del.here | apply Del.there)))) (by repeat (first | exact trivial | refine And.intro (by repeat (first | exact Mem.here | apply Mem.there)) ?_)) (by repeat (first | exact Take.nil | apply Take.cons (by repeat (first | exact Del.here | apply Del.there)))) (by repeat (first | exact Lends.nil | apply Lends.row | apply Lends.blk)) (fun _ => rfl) rfl c.bs (.inl ⟨rfl, rfl⟩) rfl (by repeat (first | exact trivial | refine And.intro (by repeat (first | exact Mem.here | apply Mem.there)) ?_)) ?_ ?_ ?_
    · rintro k s hk hI l C1
      obtain rfl : k = 0 := by omega
      obtain rfl : s = c.bs := hI.elim (fun h => h.2) (fun h => absurd h.1 (by decide))
      show Jc _ _ _ _ _ _ (psetL [9] [.pointer (x.1.map (·.add (i * 11)))] _) [.blk b3 26 e.cs, .blk bc 24 (c.cs x), .row 36 11 (.slice x.1 c.bs.length x.2) c.bs.length (bxsV c.bs)] []
      refine Jc.region ?_
      refine Jl.pv (PR.assign rfl) ?_
      refine Jl.nil ?_
      refine Jq.assigned (fun C2 => ?_)
      refine Jc.block ?_
      refine Jc.region ?_
      refine Jl.pv (PR.move rfl) ?_
      refine Jl.pv (PR.move rfl) ?_
      refine Jl.pv (PR.nilCheckO rfl (by repeat (first | exact Del.here | apply Del.there)) (by rw [bxsV_len]; omega)) ?_
      refine Jl.pv (PR.fieldAddrO rfl tfl36_7 (by repeat (first | exact Del.here | apply Del.there)) (by rw [bxsV_len]; omega)) ?_
      refine Jl.pv (PR.loadO rfl tsh4 (by repeat (first | exact Del.here | apply Del.there)) (bxs_f hi 7 rfl)) ?_
      refine Jl.pv (PR.not rfl) ?_
      refine Jl.pv (PR.nilCheckO rfl (by repeat (first | exact Del.here | apply Del.there)) (by rw [bxsV_len]; omega)) ?_
      refine Jl.pv (PR.fieldAddrO rfl tfl36_7 (by repeat (first | exact Del.here | apply Del.there)) (by rw [bxsV_len]; omega)) ?_
      refine Jl.storeO rfl tsh4 rfl (by rfl) (by repeat (first | exact Swap.here | apply Swap.there)) (by rw [bxsV_len]; omega) (bxs_set hi 7 (by omega) _ c.bs[i].flip rfl) ?_
      refine Jl.nil ?_
      refine Jq.blkN ?_
      exact Jq.next (c.bs.set i c.bs[i].flip) (.inr ⟨rfl, rfl⟩) rfl (by repeat (first | exact trivial | refine And.intro (by repeat (first | exact Mem.here | apply Mem.there)) ?_))
    · rintro s D0 hI
      obtain rfl : s = c.bs.set i c.bs[i].flip := hI.elim (fun h => absurd h.1 (by decide)) (fun h => h.2)
      refine Jq.blkN ?_
      exact Jq.finM (Ds := [D0]) () (.inr rfl) rfl (by repeat (first | exact Take.nil | apply Take.cons (by repeat (first | exact Del.here | apply Del.there)))) RetVs.nil rfl (by repeat (first | exact Take.nil | apply Take.cons (by repeat (first | exact Del.here | apply Del.there)))) (by repeat (first | exact trivial | refine And.intro (by repeat (first | exact Mem.here | apply Mem.there)) ?_))
    · exact fun _ _ t => t.elim
end Go.Proofs.YtakkoandmkomdaaDoor
