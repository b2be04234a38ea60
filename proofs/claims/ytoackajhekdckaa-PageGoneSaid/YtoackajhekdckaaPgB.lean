/-
Contracts of pages: a page, all, an answer, the same.
-/
import Derived.Test.YtoackajhekdckaaPgA
namespace Go.Proofs.Ytoackajhekdckaa
set_option linter.unusedVariables false
open Go.RowKit
attribute [local irreducible] Res.blk Res.row Fact.rd Res.mapI
section
variable {P : Program} {r : Option Nat} {C : Cx} {n : Nat × List Nat} {Q : Exit → Act → World → Prop} {code : Code} {env : List (Nat × Value)} {R : List Res} {Φ : List Fact}
theorem Jc.shown (c : Cl) (x : AdC) (be : Int) (hm : Mem (.rd x.1 (bxsV c.bs)) Φ) (k : ∀ (d : Cl) (y : AdC), shCs c x = d.cs y → (d.bs.filter (Bx.sh be)).map Bx.seen = shw c be → d.bs.length ≤ 60 → Jc P r C n Q code env R (.rd y.1 (bxsV d.bs) :: Φ)) : Jc P r C n Q code env R Φ := by
  cases hok : c.ok with
  | false => exact Jc.fact0 (.rd none (bxsV [])) (fun X W => Fact.rd_nil none X W) (k { c with bs := [] } (none, 0) (shCs_no hok x) (by rw [shw_no hok]; rfl) (by simp))
  | true => exact Jc.fact (.rd x.1 (bxsV c.bs)) hm (fun X W h => h) (k c x (shCs_ok hok x) (shw_ok hok be).symm (Cl.ok_iff.1 hok).len)
end
theorem shown_at {c d : Cl} {x y : AdC} (be : Int) (hw : c.Wf) (hd : shCs c x = d.cs y) : Ct Try.prog 19 [c.v x, .int .i64 be] [] [.rd x.1 (bxsV c.bs)] (fun b : Nat × Nat => .func (.func 22) #[] #[.pointer (some ⟨b.1, 0, none⟩), .pointer (some ⟨b.2, 0, none⟩)]) (fun b => [.blk b.1 24 (d.cs y), .blk b.2 3 [.int .i64 be]]) (fun _ => []) := by
  have h0 := shown_ct c x be hw
  rwa [hd] at h0
theorem shown1_at {d : Cl} {y : AdC} {be : Int} {l : List Sn} (hl : (d.bs.filter (Bx.sh be)).map Bx.seen = l) (hn : d.bs.length ≤ 60) (bc bi : Nat) : It Try.prog 22 [.pointer (some ⟨bc, 0, none⟩), .pointer (some ⟨bi, 0, none⟩)] [.blk bc 24 (d.cs y), .blk bi 3 [.int .i64 be]] [.rd y.1 (bxsV d.bs)] l.length (snY l) := by
  have h0 := shown1_it be d y bc bi (by omega)
  rwa [hl, List.countP_eq_length_filter, ← List.length_map (f := Bx.seen), hl] at h0
theorem of_ct (c : Cl) (x : AdC) (be : Int) (hw : c.Wf) : Ct Try.prog 10 [c.v x, .int .i64 be] [] [.rd x.1 (bxsV c.bs)] (fun x : AdC => .tuple #[.slice x.1 ((shw c be).take 3).length x.2, .bool (decide (3 < (shw c be).length))]) (fun x => [.row 35 7 (.slice x.1 ((shw c be).take 3).length x.2) ((shw c be).take 3).length (snsV ((shw c be).take 3))]) (fun _ => []) := by
  have hl60 := shw_len c be
  refine Ct.of _ Try.func10 Try.ntmps10 rfl rfl (fun X W => ?_)
  refine Jc.shown c x be (by repeat (first | exact Mem.here | apply Mem.there)) fun d y hd hl hdn => ?_
  generalize shw c be = l at hl hl60 ⊢
  refine Jc.seq ?_
  refine Jc.region ?_
  refine Jl.box rfl (by rfl) ?_
  intro b2
  refine Jl.alloc tze28 ?_
  intro b4
  refine Jl.alloc tze4 ?_
  intro b5
  refine Jl.nil ?_
  refine Jq.thenN ?_
  refine Jc.seq ?_
  refine Jc.seq ?_
  refine Jc.region ?_
  refine Jl.pv (PR.loadW rfl tsh24 (by repeat (first | exact Has.here | apply Has.there)) (by rfl)) ?_
  refine Jl.pv (PR.move rfl) ?_
  refine Jl.call (shown_at be hw hd) en19 (by rfl) (by repeat (first | exact Take.nil | apply Take.cons (by repeat (first | exact Del.here | apply Del.there)))) (by repeat (first | exact trivial | refine And.intro (by repeat (first | exact Mem.here | apply Mem.there)) ?_)) ?_
  rintro ⟨b9, f9⟩
  refine Jl.nil ?_
  refine Jq.thenN ?_
  refine Jc.block ?_
  refine Jc.nilRow 35 7 ?_
  refine Jc.range (σ := (k : Nat) × AdC) (τ := AdC) (Inv := fun k s => s.1 = k ∧ k ≤ 3) (Rs := fun s => [.row 35 7 (.slice s.2.1 (l.take s.1).length s.2.2) (l.take s.1).length (snsV (l.take s.1)), .blk b5 4 [.bool false], .blk b4 28 [.slice s.2.1 (l.take s.1).length s.2.2], .blk b2 24 (c.cs x)]) (Φs := fun _ => []) (InvX := fun e k _ => e = .ret ∧ k = 3) (RsX := fun s => [.row 35 7 (.slice s.1 (l.take 3).length s.2) (l.take 3).length (snsV (l.take 3)), .blk b5 4 [.bool true], .blk b4 28 [.slice s.1 (l.take 3).length s.2], .blk b2 24 (c.cs x)]) (ΦsX := fun _ => []) (vals := snY l) rfl en22 (shown1_at hl hdn b9 f9) (by repeat (first | exact Take.nil | apply Take.cons (by repeat (first | exact Del.here | apply Del.there)))) (by repeat (first | exact trivial | refine And.intro (by repeat (first | exact Mem.here | apply Mem.there)) ?_)) (fun _ => rfl) rfl ⟨0, none, 0⟩ ⟨rfl, by omega⟩ rfl (by repeat (first | exact trivial | refine And.intro (by repeat (first | exact Mem.here | apply Mem.there)) ?_)) ?_ ?_ ?_
  · rintro k ⟨j, A', c'⟩ hk ⟨hj, h3⟩ l' C1
    obtain rfl : k = j := hj.symm
    have hlk : (l.take k).length = k := by simp; omega
    have hlk1 : (l.take (k + 1)).length = k + 1 := by simp; omega
    have hst : snsV (l.take (k + 1)) = snsV (l.take k) ++ l[k].cs := by rw [List.take_succ_eq_append_getElem hk, snsV_app]; simp [snsV]
    rw [snY_at hk]
    show Jc _ _ _ _ _ _ (psetL [10] [l[k].v] _) [.row 35 7 (.slice A' (l.take k).length c') (l.take k).length (snsV (l.take k)), .blk b5 4 [.bool false], .blk b4 28 [.slice A' (l.take k).length c'], .blk b2 24 (c.cs x)] []
    refine Jc.region ?_
    refine Jl.alloc tze35 ?_
    intro b6
    refine Jl.storeW rfl tsh35 rfl (by rfl) (by first | exact Cl.cs_one _ _ | simp [Value.oneCell', Sn.cs]) (by repeat (first | exact Swap.here | apply Swap.there)) (by rfl) ?_
    refine Jl.nil ?_
    refine Jq.assigned (fun C2 => ?_)
    refine Jc.block ?_
    refine Jc.seq ?_
    refine Jc.seq ?_
    refine Jc.region ?_
    refine Jl.pv (PR.load1 rfl tsh28 (by repeat (first | exact Has.here | apply Has.there)) (by rfl)) ?_
    refine Jl.pv (PR.len rfl tsl28) ?_
    refine Jl.pv (PR.eql _ rfl rfl rfl) ?_
    refine Jl.nil ?_
    refine Jq.thenN ?_
    refine Jc.cond rfl (fun h0 => ?_) (fun h0 => ?_)
    · try replace h0 := of_decide_eq_true h0
      obtain rfl : k = 3 := by omega
      refine Jc.seq ?_
      refine Jc.region ?_
      refine Jl.pv (PR.load1 rfl tsh28 (by repeat (first | exact Has.here | apply Has.there)) (by rfl)) ?_
      refine Jl.store1 rfl tsh28 rfl (by rfl) (by repeat (first | exact Swap.here | apply Swap.there)) (by rfl) ?_
      refine Jl.store1 rfl tsh4 rfl (by rfl) (by repeat (first | exact Swap.here | apply Swap.there)) (by rfl) ?_
      refine Jl.nil ?_
      refine Jq.thenN ?_
      refine Jc.ret ?_
      refine Jq.thenR ?_
      refine Jq.blkR ?_
      refine Jq.lessR (rs := [.row 35 7 (.slice A' (l.take 3).length c') (l.take 3).length (snsV (l.take 3)), .blk b5 4 [.bool true], .blk b4 28 [.slice A' (l.take 3).length c'], .blk b2 24 (c.cs x)]) (by repeat (first | exact Take.nil | apply Take.cons (by repeat (first | exact Del.here | apply Del.there)))) ?_
      exact Jq.nextR (A', c') ⟨rfl, rfl⟩ rfl (by repeat (first | exact trivial | refine And.intro (by repeat (first | exact Mem.here | apply Mem.there)) ?_))
    · try replace h0 := of_decide_eq_false h0
      refine Jc.skip ?_
      refine Jq.thenN ?_
      refine Jc.region ?_
      refine Jl.pv (PR.load1 rfl tsh28 (by repeat (first | exact Has.here | apply Has.there)) (by rfl)) ?_
      refine Jl.pv (PR.loadW rfl tsh35 (by repeat (first | exact Has.here | apply Has.there)) (by rfl)) ?_
      refine Jl.buildSlice (by rfl) tsl28 tzr28_1 (by rfl) (by rfl) ?_
      intro b17
      refine Jl.seal (by repeat (first | exact Del.here | apply Del.there)) ?_
      refine Jl.append (l.take (k + 1)).length (snsV (l.take (k + 1))) rfl rfl rfl tsl28 tze35 (by rfl) (by decide) tby35 (fun _ _ => (by repeat (first | exact Swap.here | apply Swap.there))) (by repeat (first | exact Mem.here | apply Mem.there)) (by simp only [hlk, hlk1]) hst.symm rfl (by simp [Value.oneCell', Sn.cs]) (by omega) (by decide) ?_
      intro A18 c18
      refine Jl.store1 rfl tsh28 rfl (by rfl) (by repeat (first | exact Swap.here | apply Swap.there)) (by rfl) ?_
      refine Jl.nil ?_
      refine Jq.blkN ?_
      refine Jq.lessR (rs := [.row 35 7 (.slice A18 (l.take (k + 1)).length c18) (l.take (k + 1)).length (snsV (l.take (k + 1))), .blk b5 4 [.bool false], .blk b4 28 [.slice A18 (l.take (k + 1)).length c18], .blk b2 24 (c.cs x)]) (by repeat (first | exact Take.nil | apply Take.cons (by repeat (first | exact Del.here | apply Del.there)))) ?_
      exact Jq.next ⟨k + 1, A18, c18⟩ ⟨rfl, by omega⟩ rfl (by repeat (first | exact trivial | refine And.intro (by repeat (first | exact Mem.here | apply Mem.there)) ?_))
  · rintro ⟨j, A', c'⟩ D0 ⟨hj, h3⟩
    obtain rfl : j = l.length := hj
    show Jq _ _ _ .normal _ [.mark D0, .row 35 7 (.slice A' (l.take l.length).length c') (l.take l.length).length (snsV (l.take l.length)), .blk b5 4 [.bool false], .blk b4 28 [.slice A' (l.take l.length).length c'], .blk b2 24 (c.cs x)] []
    have e3 : l.take 3 = l.take l.length := by rw [List.take_of_length_le h3, List.take_length]
    rw [e3, decide_eq_false (show ¬ 3 < l.length by omega)]
    refine Jq.blkN ?_
    refine Jq.thenN ?_
    refine Jc.seq ?_
    refine Jc.region ?_
    refine Jl.pv (PR.load1 rfl tsh28 (by repeat (first | exact Has.here | apply Has.there)) (by rfl)) ?_
    refine Jl.store1 rfl tsh28 rfl (by rfl) (by repeat (first | exact Swap.here | apply Swap.there)) (by rfl) ?_
    refine Jl.store1 rfl tsh4 rfl (by rfl) (by repeat (first | exact Swap.here | apply Swap.there)) (by rfl) ?_
    refine Jl.nil ?_
    refine Jq.thenN ?_
    refine Jc.ret ?_
    exact Jq.finM (Ds := [D0]) (A', c') (.inl rfl) rfl (by repeat (first | exact Take.nil | apply Take.cons (by repeat (first | exact Del.here | apply Del.there)))) (RetVs.cell1 rfl (by repeat (first | exact Has.here | apply Has.there)) tsh28 (by rfl) (RetVs.cell1 rfl (by repeat (first | exact Has.here | apply Has.there)) tsh4 (by rfl) RetVs.nil)) rfl (by repeat (first | exact Take.nil | apply Take.cons (by repeat (first | exact Del.here | apply Del.there)))) (by repeat (first | exact trivial | refine And.intro (by repeat (first | exact Mem.here | apply Mem.there)) ?_))
  · rintro e k ⟨A', c'⟩ D0 hk ⟨rfl, rfl⟩
    skip
    refine Jc.ret ?_
    refine Jq.blkR ?_
    refine Jq.thenR ?_
    exact Jq.finM (Ds := [D0]) (A', c') (.inl rfl) rfl (by repeat (first | exact Take.nil | apply Take.cons (by repeat (first | exact Del.here | apply Del.there)))) (RetVs.cell1 rfl (by repeat (first | exact Has.here | apply Has.there)) tsh28 (by rfl) (RetVs.cell1 rfl (by repeat (first | exact Has.here | apply Has.there)) tsh4 (by rfl) RetVs.nil)) (by rw [decide_eq_true hk]; rfl) (by repeat (first | exact Take.nil | apply Take.cons (by repeat (first | exact Del.here | apply Del.there)))) (by repeat (first | exact trivial | refine And.intro (by repeat (first | exact Mem.here | apply Mem.there)) ?_))
structure AllP (c : Cl) where
  be : Int
  x : AdC
  l : List Sn
  hl : l ++ shw c be = shw c 0
theorem all_ct (c : Cl) (x : AdC) (hw : c.Wf) : Ct Try.prog 14 [c.v x] [] [.rd x.1 (bxsV c.bs)] (fun x : AdC => .slice x.1 (shw c 0).length x.2) (fun x => [.row 35 7 (.slice x.1 (shw c 0).length x.2) (shw c 0).length (snsV (shw c 0))]) (fun _ => []) := by
  have hl60 := shw_len c 0
  refine Ct.of _ Try.func14 Try.ntmps14 rfl rfl (fun X W => ?_)
  refine Jc.seq ?_
  refine Jc.region ?_
  refine Jl.box rfl (by rfl) ?_
  intro b1
  refine Jl.pv (PR.assign rfl) ?_
  refine Jl.nil ?_
  refine Jq.thenN ?_
  refine Jc.scope (σ := AllP c) (fun s => [(1, .pointer (some ⟨b1, 0, none⟩)), (2, .slice s.x.1 s.l.length s.x.2), (3, .int .i64 s.be)]) (fun s => [.row 35 7 (.slice s.x.1 s.l.length s.x.2) s.l.length (snsV s.l), .blk b1 24 (c.cs x)]) (fun s => [.rd x.1 (bxsV c.bs)]) (fun s => (shw c s.be).length) (l := 0) rfl ?_ ?_
  · rintro ⟨be, ⟨B, cB⟩, l, hl⟩
    show Jc _ _ _ _ _ _ [(1, Value.pointer (some ⟨b1, 0, none⟩)), (2, .slice B l.length cB), (3, .int .i64 be)] [.row 35 7 (.slice B l.length cB) l.length (snsV l), .blk b1 24 (c.cs x)] [.rd x.1 (bxsV c.bs)]
    have hll : l.length + (shw c be).length = (shw c 0).length := by rw [← hl, List.length_append]
    refine Jc.seq ?_
    refine Jc.region ?_
    refine Jl.pv (PR.loadW rfl tsh24 (by repeat (first | exact Has.here | apply Has.there)) (by rfl)) ?_
    refine Jl.pv (PR.move rfl) ?_
    refine Jl.call (of_ct c x be hw) en10 (by rfl) (by repeat (first | exact Take.nil | apply Take.cons (by repeat (first | exact Del.here | apply Del.there)))) (by repeat (first | exact trivial | refine And.intro (by repeat (first | exact Mem.here | apply Mem.there)) ?_)) ?_
    rintro ⟨A9, c9⟩
    refine Jl.sealR (by repeat (first | exact Del.here | apply Del.there)) ?_
    refine Jl.pv (PR.move rfl) ?_
    refine Jl.pv (PR.extract rfl (by rfl)) ?_
    refine Jl.pv (PR.extract rfl (by rfl)) ?_
    refine Jl.pv (PR.assign rfl) ?_
    refine Jl.pv (PR.assign rfl) ?_
    refine Jl.nil ?_
    refine Jq.thenN ?_
    refine Jc.seq ?_
    refine Jc.region ?_
    refine Jl.pv (PR.move rfl) ?_
    refine Jl.pv (PR.move rfl) ?_
    refine Jl.append (l ++ (shw c be).take 3).length (snsV (l ++ (shw c be).take 3)) rfl rfl rfl tsl28 tze35 (by rfl) (by decide) tby35 (fun _ _ => (by repeat (first | exact Swap.here | apply Swap.there))) (by repeat (first | exact Mem.here | apply Mem.there)) (by rw [List.length_append]) (snsV_app _ _).symm (snsV_len _) (sns_one _) (by simp only [List.length_append, List.length_take]; omega) (by decide) ?_
    intro A14 c14
    refine Jl.pv (PR.assign rfl) ?_
    refine Jl.nil ?_
    refine Jq.thenN ?_
    refine Jc.seq ?_
    refine Jc.seq ?_
    refine Jc.region ?_
    refine Jl.pv (PR.move rfl) ?_
    refine Jl.pv (PR.move rfl) ?_
    refine Jl.call (next_ct A9 c9 ((shw c be).take 3) be (by simp only [List.length_take]; omega)) en11 (by rfl) (by repeat (first | exact Take.nil | apply Take.cons (by repeat (first | exact Del.here | apply Del.there)))) (by repeat (first | exact trivial | refine And.intro (by repeat (first | exact Mem.here | apply Mem.there)) ?_)) ?_
    rintro ⟨⟩
    refine Jl.pv (PR.assign rfl) ?_
    refine Jl.nil ?_
    refine Jq.thenN ?_
    refine Jc.seq ?_
    refine Jc.region ?_
    refine Jl.pv (PR.move rfl) ?_
    refine Jl.nil ?_
    refine Jq.thenN ?_
    refine Jc.cond rfl (fun h0 => ?_) (fun h0 => ?_)
    · try replace h0 := of_decide_eq_true h0
      refine Jc.goto ?_
      refine Jq.thenG ?_
      refine Jq.lessR (rs := [.row 35 7 (.slice A14 (l ++ (shw c be).take 3).length c14) (l ++ (shw c be).take 3).length (snsV (l ++ (shw c be).take 3)), .blk b1 24 (c.cs x)]) (by repeat (first | exact Take.nil | apply Take.cons (by repeat (first | exact Del.here | apply Del.there)))) ?_
      exact Jq.jmpB ⟨nxt ((shw c be).take 3) be, (A14, c14), l ++ (shw c be).take 3, by rw [shw_next, List.append_assoc, List.take_append_drop, hl]⟩ (by simp only [shw_next, List.length_drop]; omega) (by repeat (first | exact trivial | refine And.intro rfl ?_)) rfl (by repeat (first | exact trivial | refine And.intro (by repeat (first | exact Mem.here | apply Mem.there)) ?_))
    · try replace h0 := of_decide_eq_false h0
      refine Jc.skip ?_
      refine Jq.thenN ?_
      refine Jc.seq ?_
      refine Jc.region ?_
      refine Jl.pv (PR.move rfl) ?_
      refine Jl.pv (PR.assign rfl) ?_
      refine Jl.nil ?_
      refine Jq.thenN ?_
      refine Jc.ret ?_
      refine Jq.jmpR ?_
      have e3 : shw c 0 = l ++ (shw c be).take 3 := by rw [List.take_of_length_le (by omega), hl]
      rw [e3]
      exact Jq.fin (A14, c14) (.inl rfl) rfl (RetVs.tmp rfl RetVs.nil) rfl (by repeat (first | exact Take.nil | apply Take.cons (by repeat (first | exact Del.here | apply Del.there)))) (by repeat (first | exact trivial | refine And.intro (by repeat (first | exact Mem.here | apply Mem.there)) ?_))
  · intro hfirst0
    refine Jc.seq ?_
    refine Jc.region ?_
    refine Jl.pv (PR.assign rfl) ?_
    refine Jl.nil ?_
    refine Jq.thenN ?_
    refine Jc.seq ?_
    refine Jc.label ?_
    refine Jq.thenN ?_
    refine Jc.nilRow 35 7 ?_
    exact Jc.at_ hfirst0 ⟨0, (none, 0), [], rfl⟩ (by repeat (first | exact trivial | refine And.intro rfl ?_)) rfl (by repeat (first | exact trivial | refine And.intro (by repeat (first | exact Mem.here | apply Mem.there)) ?_))
  -- hint not used: one
theorem answer_ct (c : Cl) (x : AdC) (call be : Int) (hw : c.Wf) : Ct Try.prog 16 [c.v x, .agg #[.int .u8 7, .int .i64 call, .int .i64 be, .int .i64 0, .int .i64 0, .int .i64 0]] [] [.rd x.1 (bxsV c.bs)] (fun x : AdC => .agg #[.int .i64 call, .int .u8 7, .int .u8 1, .int .i64 be, .slice x.1 ((shw c be).take 3).length x.2, .bool (decide (3 < (shw c be).length))]) (fun x => [.row 35 7 (.slice x.1 ((shw c be).take 3).length x.2) ((shw c be).take 3).length (snsV ((shw c be).take 3))]) (fun _ => []) := by
  refine Ct.of _ Try.func16 Try.ntmps16 rfl rfl (fun X W => ?_)
  refine Jc.seq ?_
  refine Jc.region ?_
  refine Jl.box rfl (by rfl) ?_
  intro b2
  refine Jl.box rfl (by rfl) ?_
  intro b3
  refine Jl.alloc tze43 ?_
  intro b4
  refine Jl.nil ?_
  refine Jq.thenN ?_
  refine Jc.seq ?_
  refine Jc.region ?_
  refine Jl.pv (PR.fieldAddr rfl tfl46_1) ?_
  refine Jl.pv (PR.load1 rfl tsh3 (by repeat (first | exact Has.here | apply Has.there)) (by rfl)) ?_
  refine Jl.pv (PR.fieldAddr rfl tfl46_0) ?_
  refine Jl.pv (PR.load1 rfl tsh5 (by repeat (first | exact Has.here | apply Has.there)) (by rfl)) ?_
  refine Jl.pv (PR.fieldAddr rfl tfl46_2) ?_
  refine Jl.pv (PR.load1 rfl tsh3 (by repeat (first | exact Has.here | apply Has.there)) (by rfl)) ?_
  refine Jl.pv (PR.build (by rfl) tze43 tpl43_0_1_2_3 (by rfl)) ?_
  refine Jl.alloc tze43 ?_
  intro b5
  refine Jl.storeW rfl tsh43 rfl (by rfl) (by first | exact Cl.cs_one _ _ | simp [Value.oneCell']) (by repeat (first | exact Swap.here | apply Swap.there)) (by rfl) ?_
  refine Jl.nil ?_
  refine Jq.thenN ?_
  refine Jc.seq ?_
  refine Jc.seq ?_
  refine Jc.region ?_
  refine Jl.pv (PR.fieldAddr rfl tfl46_0) ?_
  refine Jl.pv (PR.load1 rfl tsh5 (by repeat (first | exact Has.here | apply Has.there)) (by rfl)) ?_
  refine Jl.pv (PR.eql true rfl rfl (by decide)) ?_
  refine Jl.nil ?_
  refine Jq.thenN ?_
  refine Jc.condT rfl ?_
  refine Jc.seq ?_
  refine Jc.region ?_
  refine Jl.pv (PR.fieldAddr rfl tfl43_2) ?_
  refine Jl.store1 rfl tsh5 rfl (by rfl) (by repeat (first | exact Swap.here | apply Swap.there)) (by rfl) ?_
  refine Jl.nil ?_
  refine Jq.thenN ?_
  refine Jc.region ?_
  refine Jl.pv (PR.loadW rfl tsh24 (by repeat (first | exact Has.here | apply Has.there)) (by rfl)) ?_
  refine Jl.pv (PR.fieldAddr rfl tfl46_2) ?_
  refine Jl.pv (PR.load1 rfl tsh3 (by repeat (first | exact Has.here | apply Has.there)) (by rfl)) ?_
  refine Jl.call (of_ct c x be hw) en10 (by rfl) (by repeat (first | exact Take.nil | apply Take.cons (by repeat (first | exact Del.here | apply Del.there)))) (by repeat (first | exact trivial | refine And.intro (by repeat (first | exact Mem.here | apply Mem.there)) ?_)) ?_
  rintro ⟨A21, c21⟩
  refine Jl.pv (PR.move rfl) ?_
  refine Jl.pv (PR.extract rfl (by rfl)) ?_
  refine Jl.pv (PR.extract rfl (by rfl)) ?_
  refine Jl.pv (PR.fieldAddr rfl tfl43_4) ?_
  refine Jl.store1 rfl tsh28 rfl (by rfl) (by repeat (first | exact Swap.here | apply Swap.there)) (by rfl) ?_
  refine Jl.pv (PR.fieldAddr rfl tfl43_5) ?_
  refine Jl.store1 rfl tsh4 rfl (by rfl) (by repeat (first | exact Swap.here | apply Swap.there)) (by rfl) ?_
  refine Jl.nil ?_
  refine Jq.thenN ?_
  refine Jc.seq ?_
  refine Jc.region ?_
  refine Jl.pv (PR.loadW rfl tsh43 (by repeat (first | exact Has.here | apply Has.there)) (by rfl)) ?_
  refine Jl.storeW rfl tsh43 rfl (by rfl) (by first | exact Cl.cs_one _ _ | simp [Value.oneCell']) (by repeat (first | exact Swap.here | apply Swap.there)) (by rfl) ?_
  refine Jl.nil ?_
  refine Jq.thenN ?_
  refine Jc.ret ?_
  exact Jq.fin (A21, c21) (.inl rfl) rfl (RetVs.cellA rfl (by repeat (first | exact Has.here | apply Has.there)) tsh43 (by rfl) RetVs.nil) rfl (by repeat (first | exact Take.nil | apply Take.cons (by repeat (first | exact Del.here | apply Del.there)))) (by repeat (first | exact trivial | refine And.intro (by repeat (first | exact Mem.here | apply Mem.there)) ?_))
def sameS (a b : List Sn) : Bool := decide (a = b)
theorem sameS_yes {a b : List Sn} (h : a = b) : sameS a b = true := by subst h; simp [sameS]
theorem sameS_no {a b : List Sn} (h : a ≠ b) : sameS a b = false := by simp [sameS, h]
theorem psame_ct (x y : AdC) (a b : List Sn) (hn : a.length ≤ 1000000) : Ct Try.prog 13 [.slice x.1 a.length x.2, .slice y.1 b.length y.2] [] [.rd x.1 (snsV a), .rd y.1 (snsV b)] (fun _ : Unit => .bool (sameS a b)) (fun _ => []) (fun _ => []) := by
  obtain ⟨A, cA⟩ := x
  obtain ⟨B, cB⟩ := y
  refine Ct.of _ Try.func13 Try.ntmps13 rfl rfl (fun X W => ?_)
  refine Jc.seq ?_
  refine Jc.region ?_
  refine Jl.pv (PR.assign rfl) ?_
  refine Jl.nil ?_
  refine Jq.thenN ?_
  refine Jc.seq ?_
  refine Jc.seq ?_
  refine Jc.region ?_
  refine Jl.pv (PR.move rfl) ?_
  refine Jl.pv (PR.len rfl tsl28) ?_
  refine Jl.pv (PR.move rfl) ?_
  refine Jl.pv (PR.len rfl tsl28) ?_
  refine Jl.pv (PR.neq _ rfl rfl rfl) ?_
  refine Jl.nil ?_
  refine Jq.thenN ?_
  refine Jc.cond rfl (fun h0 => ?_) (fun h0 => ?_)
  · try replace h0 := of_decide_eq_true h0
    refine Jc.seq ?_
    refine Jc.region ?_
    refine Jl.pv (PR.assign rfl) ?_
    refine Jl.nil ?_
    refine Jq.thenN ?_
    refine Jc.ret ?_
    refine Jq.thenR ?_
    exact Jq.fin () (.inl rfl) rfl (RetVs.tmp rfl RetVs.nil) (by rw [sameS_no (fun h => by subst h; simp_all)]; rfl) (by repeat (first | exact Take.nil | apply Take.cons (by repeat (first | exact Del.here | apply Del.there)))) (by repeat (first | exact trivial | refine And.intro (by repeat (first | exact Mem.here | apply Mem.there)) ?_))
  · try replace h0 := of_decide_eq_false h0
    have hll : a.length = b.length := by omega
    refine Jc.skip ?_
    refine Jq.thenN ?_
    refine Jc.seq ?_
    refine Jc.seq ?_
    refine Jc.region ?_
    refine Jl.pv (PR.assign rfl) ?_
    refine Jl.nil ?_
    refine Jq.thenN ?_
    refine Jc.block ?_
    refine Jc.loop (σ := { k : Nat // k ≤ a.length ∧ ∀ j, j < k → a[j]? = b[j]? }) (fun s => [(5, .int .i64 (s.1 : Int)), (0, .slice A a.length cA), (1, .slice B b.length cB)]) (fun _ => []) (fun _ => [.rd A (snsV a), .rd B (snsV b)]) (fun s => a.length - s.1) ⟨0, Nat.zero_le _, fun _ h => by omega⟩ (by repeat (first | exact trivial | refine And.intro rfl ?_)) rfl (by repeat (first | exact trivial | refine And.intro (by repeat (first | exact Mem.here | apply Mem.there)) ?_)) ?_
    rintro ⟨k, hk, hq⟩
    show Jc _ _ _ _ _ _ [(5, Value.int .i64 (k : Int)), (0, .slice A a.length cA), (1, .slice B b.length cB)] [] [.rd A (snsV a), .rd B (snsV b)]
    refine Jc.seq ?_
    refine Jc.seq ?_
    refine Jc.region ?_
    refine Jl.pv (PR.move rfl) ?_
    refine Jl.pv (PR.move rfl) ?_
    refine Jl.pv (PR.len rfl tsl28) ?_
    refine Jl.pv (PR.lss _ rfl rfl rfl) ?_
    refine Jl.nil ?_
    refine Jq.thenN ?_
    refine Jc.cond rfl (fun h1 => ?_) (fun h1 => ?_)
    · try replace h1 := of_decide_eq_true h1
      have hlt : k < a.length := by omega
      have hlt2 : k < b.length := by omega
      refine Jc.skip ?_
      refine Jq.thenN ?_
      refine Jc.seq ?_
      refine Jc.block ?_
      refine Jc.seq ?_
      refine Jc.drawn [0, 0, 3, 7, 0, 0, 48, 112, 255] ([(0, false), (1, false), (2, false), (3, false), (4, false), (5, false), (6, false), (7, false), (8, false)], []) [] tmx (by kernel_rfl) ?_
      refine Dh.JH.nil ?_
      refine Dh.JB.pv rfl trivial (fun _ => PR.move rfl) ?_
      refine Dh.JB.pv rfl trivial (fun _ => PR.move rfl) ?_
      refine Dh.JB.pv rfl trivial (fun _ => PR.idx k rfl rfl tsl28 (by repeat (first | exact Mem.here | apply Mem.there)) (snsV_len _) (by omega) rfl hlt) ?_
      refine Dh.JB.pv rfl trivial (fun _ => PR.loadRA rfl tsh35 (by repeat (first | exact Mem.here | apply Mem.there)) (by decide) (sns_at hlt)) ?_
      refine Dh.JB.pv rfl trivial (fun _ => PR.move rfl) ?_
      refine Dh.JB.pv rfl trivial (fun _ => PR.move rfl) ?_
      refine Dh.JB.pv rfl trivial (fun _ => PR.idx k rfl rfl tsl28 (by repeat (first | exact Mem.here | apply Mem.there)) (snsV_len _) (by omega) rfl hlt2) ?_
      refine Dh.JB.pv rfl trivial (fun _ => PR.loadRA rfl tsh35 (by repeat (first | exact Mem.here | apply Mem.there)) (by decide) (sns_at hlt2)) ?_
      refine Dh.JB.pv rfl trivial (fun _ => PR.neqA (xs := a[k].cs) (ys := b[k].cs) (decide (a[k] ≠ b[k])) rfl rfl teq35 (by rfl) (by rw [decide_eq_true_eq, ne_eq, ne_eq, Sn.cs_inj])) ?_
      refine Dh.JB.nil ?_
      refine Dh.JL.nil ?_
      refine Jq.thenN ?_
      refine Jc.cond rfl (fun h2 => ?_) (fun h2 => ?_)
      · try replace h2 := of_decide_eq_true h2
        refine Jc.seq ?_
        refine Jc.region ?_
        refine Jl.pv (PR.assign rfl) ?_
        refine Jl.nil ?_
        refine Jq.thenN ?_
        refine Jc.ret ?_
        refine Jq.blkR ?_
        refine Jq.thenR ?_
        refine Jq.thenR ?_
        refine Jq.blkR ?_
        refine Jq.thenR ?_
        exact Jq.fin () (.inl rfl) rfl (RetVs.tmp rfl RetVs.nil) (by rw [sameS_no (fun h => h2 (by subst h; rfl))]; rfl) (by repeat (first | exact Take.nil | apply Take.cons (by repeat (first | exact Del.here | apply Del.there)))) (by repeat (first | exact trivial | refine And.intro (by repeat (first | exact Mem.here | apply Mem.there)) ?_))
      · try replace h2 := of_decide_eq_false h2
        refine Jc.skip ?_
        refine Jq.blkN ?_
        refine Jq.thenN ?_
        refine Jc.region ?_
        refine Jl.pv (PR.move rfl) ?_
        refine Jl.pv (PR.add ((k + 1 : Nat) : Int) rfl rfl (by rw [w64 (by omega) (by omega)]; rfl)) ?_
        refine Jl.pv (PR.assign rfl) ?_
        refine Jl.nil ?_
        refine Jq.again ⟨k + 1, hlt, fun j h => (Nat.lt_succ_iff_lt_or_eq.1 h).elim (hq j) (fun e => by subst e; rw [List.getElem?_eq_getElem hlt, List.getElem?_eq_getElem hlt2, Decidable.of_not_not h2])⟩ (by simp only; omega) (by repeat (first | exact trivial | refine And.intro rfl ?_)) rfl (by repeat (first | exact trivial | refine And.intro (by repeat (first | exact Mem.here | apply Mem.there)) ?_))
    · try replace h1 := of_decide_eq_false h1
      refine Jc.exit ?_
      refine Jq.thenX ?_
      refine Jq.thenX ?_
      refine Jq.blkX ?_
      refine Jq.thenN ?_
      refine Jc.seq ?_
      refine Jc.region ?_
      refine Jl.pv (PR.assign rfl) ?_
      refine Jl.nil ?_
      refine Jq.thenN ?_
      refine Jc.ret ?_
      have hbs : a = b := List.ext_getElem? fun j => by
        rcases Nat.lt_or_ge j k with h1 | h1
        · exact hq j h1
        · rw [List.getElem?_eq_none (by omega), List.getElem?_eq_none (by omega)]
      exact Jq.fin () (.inl rfl) rfl (RetVs.tmp rfl RetVs.nil) (by rw [sameS_yes hbs]; rfl) (by repeat (first | exact Take.nil | apply Take.cons (by repeat (first | exact Del.here | apply Del.there)))) (by repeat (first | exact trivial | refine And.intro (by repeat (first | exact Mem.here | apply Mem.there)) ?_))
end Go.Proofs.Ytoackajhekdckaa
