/-
The laws of pages: PageWhole.
-/
import Derived.Test.YtoackajhekdckaaPgE
namespace Go.Proofs.Ytoackajhekdckaa
set_option linter.unusedVariables false
open Go.RowKit
attribute [local irreducible] Res.blk Res.row Fact.rd Res.mapI
section
variable {P : Program} {r : Option Nat} {C : Cx} {n : Nat × List Nat} {Q : Exit → Act → World → Prop} {env : List (Nat × Value)} {R R' : List Res} {Φ : List Fact} {ops : Array Oper} {rest : List Oper}
theorem Jl.slApp {zs : List Slc} (z : Slc) (hm : Mem (.rd z.1.1 z.2.2) Φ) (hz : Mem (.sls zs) Φ) (k : Jl P r C n ops Q rest env R (.sls (zs ++ [z]) :: Φ)) : Jl P r C n ops Q rest env R Φ := fun a W h1 h2 => k a W h1 (h2.add (φ := .sls (zs ++ [z])) fun y hy => by
  rcases List.mem_append.1 hy with hy | hy
  · exact h2.fact hz y hy
  · obtain rfl : y = z := by simpa using hy
    exact h2.fact hm)
end
theorem flatP_app (ps : List Pg) (p : Pg) : flatP (ps ++ [p]) = flatP ps ++ p.2 := by simp [flatP]
theorem pgS_app (ps : List Pg) (p : Pg) : pgS (ps ++ [p]) = pgS ps ++ [(p.1, p.2.length, snsV p.2)] := by simp [pgS]
theorem slsV_app (a b : List Slc) : slsV (a ++ b) = slsV a ++ slsV b := List.map_append
theorem flatP_three {ps : List Pg} (h : ∀ p ∈ ps, p.2.length = 3) : (flatP ps).length = 3 * ps.length := by
  induction ps with
  | nil => simp [flatP]
  | cons p ps ih =>
    have h1 := ih fun q hq => h q (List.mem_cons_of_mem _ hq)
    have h2 := h p (List.mem_cons_self ..)
    simp only [flatP, List.flatMap_cons, List.length_append, List.length_cons] at h1 ⊢
    omega
theorem shw_cnt {c : Cl} (h : c.Ok) (be : Int) : (shw c be).length = c.bs.countP (Bx.sh be) := by rw [shw_ok (Cl.ok_iff.2 h), List.length_map, List.countP_eq_length_filter]
theorem shw_at {c : Cl} (h : c.Ok) (be : Int) {k : Nat} (hk : k < c.bs.length) (hq : Bx.sh be c.bs[k] = true) : (shw c be)[(c.bs.take k).countP (Bx.sh be)]? = some c.bs[k].seen := by
  rw [shw_ok (Cl.ok_iff.2 h), List.getElem?_map, fil_at _ hk hq]; rfl
theorem pgs_last {c : Cl} {ps : List Pg} {be : Int} (y : AdC) (h3 : ∀ p ∈ ps, p.2.length = 3) (hl : flatP ps ++ shw c be = shw c 0) (hm : ¬ 3 < (shw c be).length) : Pgs (ps ++ [(y, (shw c be).take 3)]) ∧ flatP (ps ++ [(y, (shw c be).take 3)]) = shw c 0 := by
  have e : flatP (ps ++ [(y, (shw c be).take 3)]) = shw c 0 := by rw [flatP_app, List.take_of_length_le (by omega), hl]
  have h1 := flatP_three h3
  have h2 := shw_len c 0
  rw [← hl, List.length_append] at h2
  refine ⟨⟨by rw [List.length_append]; simp only [List.length_cons, List.length_nil]; omega, fun p hp => ?_, fun i hi => ?_, by rw [e]; exact shw_rise c 0⟩, e⟩
  · rcases List.mem_append.1 hp with hp | hp
    · have := h3 p hp; omega
    · obtain rfl : p = _ := by simpa using hp
      simp only [List.length_take]; omega
  · have hi' : i < ps.length := by simpa using hi
    rw [List.getElem_append_left hi']
    intro h
    have h4 := h3 _ (List.getElem_mem hi')
    rw [h] at h4; cases h4
theorem pageWhole_ct (c : Cl) (x : AdC) (hw : c.Wf) : Ct Try.prog 3 [c.v x] [] [.rd x.1 (bxsV c.bs)] (fun _ : Unit => .bool true) (fun _ => []) (fun _ => []) := by
  have hl60 := shw_len c 0
  have hlb : ∀ b : Bx, decide (((b.lb.toNat : Nat) : Int) = 1) = decide (b.lb = 1) := fun b => decide_eq_decide.2 ⟨fun h => UInt8.toNat_inj.1 (show b.lb.toNat = 1 by omega), fun h => by rw [h]; rfl⟩
  refine Ct.of _ Try.func3 Try.ntmps3 rfl rfl (fun X W => ?_)
  refine Jc.seq ?_
  refine Jc.region ?_
  refine Jl.box rfl (by rfl) ?_
  intro b1
  refine Jl.pv (PR.assign rfl) ?_
  refine Jl.nil ?_
  refine Jq.thenN ?_
  refine Jc.seq ?_
  refine Jc.seq ?_
  refine Jc.region ?_
  refine Jl.pv (PR.loadW rfl tsh24 (by repeat (first | exact Has.here | apply Has.there)) (by rfl)) ?_
  refine Jl.call (great_ct c x) en7 (by rfl) (by repeat (first | exact Take.nil | apply Take.cons (by repeat (first | exact Del.here | apply Del.there)))) (by repeat (first | exact trivial | refine And.intro (by repeat (first | exact Mem.here | apply Mem.there)) ?_)) ?_
  rintro ⟨⟩
  refine Jl.pv (PR.move rfl) ?_
  refine Jl.bsplit (fun g14 => ?_) (fun g14 => ?_)
  · try replace g14 := of_decide_eq_true g14
    refine Jl.offS rfl rfl rfl ?_
    refine Jl.offS rfl rfl rfl ?_
    refine Jl.offS rfl rfl rfl ?_
    refine Jl.pv (PR.pickT rfl rfl) ?_
    refine Jl.nil ?_
    refine Jq.thenN ?_
    refine Jc.condT rfl ?_
    refine Jc.seq ?_
    refine Jc.region ?_
    refine Jl.call pgwakes_ct en9 (by rfl) (by repeat (first | exact Take.nil | apply Take.cons (by repeat (first | exact Del.here | apply Del.there)))) (by repeat (first | exact trivial | refine And.intro (by repeat (first | exact Mem.here | apply Mem.there)) ?_)) ?_
    rintro ⟨⟩
    refine Jl.pv (PR.assign rfl) ?_
    refine Jl.nil ?_
    refine Jq.thenN ?_
    refine Jc.ret ?_
    refine Jq.thenR ?_
    exact Jq.fin () (.inl rfl) rfl (RetVs.tmp rfl RetVs.nil) rfl (by repeat (first | exact Take.nil | apply Take.cons (by repeat (first | exact Del.here | apply Del.there)))) (by repeat (first | exact trivial | refine And.intro (by repeat (first | exact Mem.here | apply Mem.there)) ?_))
  · try replace g14 := of_decide_eq_false g14
    refine Jl.on rfl rfl ?_
    refine Jl.pv (PR.loadW rfl tsh24 (by repeat (first | exact Has.here | apply Has.there)) (by rfl)) ?_
    refine Jl.on rfl rfl ?_
    refine Jl.call (rright'_ct c x) en8 (by rfl) (by repeat (first | exact Take.nil | apply Take.cons (by repeat (first | exact Del.here | apply Del.there)))) (by repeat (first | exact trivial | refine And.intro (by repeat (first | exact Mem.here | apply Mem.there)) ?_)) ?_
    rintro ⟨⟩
    refine Jl.on rfl rfl ?_
    refine Jl.pv (PR.not rfl) ?_
    refine Jl.pv (PR.pickF rfl rfl) ?_
    refine Jl.nil ?_
    refine Jq.thenN ?_
    refine Jc.cond rfl (fun h0 => ?_) (fun h0 => ?_)
    · try replace h0 := of_decide_eq_true h0
      refine Jc.seq ?_
      refine Jc.region ?_
      refine Jl.call pgwakes_ct en9 (by rfl) (by repeat (first | exact Take.nil | apply Take.cons (by repeat (first | exact Del.here | apply Del.there)))) (by repeat (first | exact trivial | refine And.intro (by repeat (first | exact Mem.here | apply Mem.there)) ?_)) ?_
      rintro ⟨⟩
      refine Jl.pv (PR.assign rfl) ?_
      refine Jl.nil ?_
      refine Jq.thenN ?_
      refine Jc.ret ?_
      refine Jq.thenR ?_
      exact Jq.fin () (.inl rfl) rfl (RetVs.tmp rfl RetVs.nil) rfl (by repeat (first | exact Take.nil | apply Take.cons (by repeat (first | exact Del.here | apply Del.there)))) (by repeat (first | exact trivial | refine And.intro (by repeat (first | exact Mem.here | apply Mem.there)) ?_))
    · try replace h0 := of_decide_eq_false h0
      have hok : c.Ok := Cl.ok_iff.1 (not_false h0)
      have hlen := hok.len
      refine Jc.skip ?_
      refine Jq.thenN ?_
      refine Jc.seq ?_
      refine Jc.region ?_
      refine Jl.pv (PR.assign rfl) ?_
      refine Jl.nil ?_
      refine Jq.thenN ?_
      refine Jc.seq ?_
      refine Jc.region ?_
      refine Jl.pv (PR.assign rfl) ?_
      refine Jl.nil ?_
      refine Jq.thenN ?_
      refine Jc.seq ?_
      refine Jc.region ?_
      refine Jl.pv (PR.assign rfl) ?_
      refine Jl.nil ?_
      refine Jq.thenN ?_
      refine Jc.mid (σ := { ps : List Pg // Pgs ps ∧ flatP ps = shw c 0 } × AdC × AdC) (fun z => [(4, .slice z.2.1.1 (flatP z.1.1).length z.2.1.2), (3, .slice z.2.2.1 z.1.1.length z.2.2.2), (1, .pointer (some ⟨b1, 0, none⟩))]) (fun z => [.row 35 7 (.slice z.2.1.1 (flatP z.1.1).length z.2.1.2) (flatP z.1.1).length (snsV (flatP z.1.1)), .row 28 1 (.slice z.2.2.1 z.1.1.length z.2.2.2) z.1.1.length (slsV (pgS z.1.1)), .blk b1 24 (c.cs x)]) (fun z => [.sls (pgS z.1.1), .rd x.1 (bxsV c.bs)]) ?_ ?_
      · refine Jc.seq ?_
        refine Jc.region ?_
        refine Jl.pv (PR.assign rfl) ?_
        refine Jl.nil ?_
        refine Jq.thenN ?_
        refine Jc.block ?_
        refine Jc.nilRow 28 1 ?_
        refine Jc.nilRow 35 7 ?_
        refine Jc.slNil ?_
        refine Jc.loop (σ := { z : List Pg × Int // (∀ p ∈ z.1, p.2.length = 3) ∧ flatP z.1 ++ shw c z.2 = shw c 0 } × AdC × AdC) (fun z => [(6, .int .i64 (z.1.1.1.length : Int)), (5, .int .i64 z.1.1.2), (4, .slice z.2.1.1 (flatP z.1.1.1).length z.2.1.2), (3, .slice z.2.2.1 z.1.1.1.length z.2.2.2), (1, .pointer (some ⟨b1, 0, none⟩))]) (fun z => [.row 35 7 (.slice z.2.1.1 (flatP z.1.1.1).length z.2.1.2) (flatP z.1.1.1).length (snsV (flatP z.1.1.1)), .row 28 1 (.slice z.2.2.1 z.1.1.1.length z.2.2.2) z.1.1.1.length (slsV (pgS z.1.1.1)), .blk b1 24 (c.cs x)]) (fun z => [.sls (pgS z.1.1.1), .rd x.1 (bxsV c.bs)]) (fun z => (shw c z.1.1.2).length) ⟨⟨([], 0), fun _ h => by simp at h, rfl⟩, (none, 0), none, 0⟩ (by repeat (first | exact trivial | refine And.intro rfl ?_)) rfl (by repeat (first | exact trivial | refine And.intro (by repeat (first | exact Mem.here | apply Mem.there)) ?_)) ?_
        rintro ⟨⟨⟨ps, be⟩, h3, hl⟩, ⟨B, cB⟩, ⟨D, cD⟩⟩
        show Jc _ _ _ _ _ _ [(6, Value.int .i64 (ps.length : Int)), (5, .int .i64 be), (4, .slice B (flatP ps).length cB), (3, .slice D ps.length cD), (1, .pointer (some ⟨b1, 0, none⟩))] [.row 35 7 (.slice B (flatP ps).length cB) (flatP ps).length (snsV (flatP ps)), .row 28 1 (.slice D ps.length cD) ps.length (slsV (pgS ps)), .blk b1 24 (c.cs x)] [.sls (pgS ps), .rd x.1 (bxsV c.bs)]
        replace h3 : ∀ p ∈ ps, p.2.length = 3 := h3
        replace hl : flatP ps ++ shw c be = shw c 0 := hl
        have hf3 := flatP_three h3
        have hll : (flatP ps).length + (shw c be).length = (shw c 0).length := by rw [← hl, List.length_append]
        refine Jc.seq ?_
        refine Jc.seq ?_
        refine Jc.region ?_
        refine Jl.pv (PR.move rfl) ?_
        refine Jl.pv (PR.leq _ rfl rfl rfl) ?_
        refine Jl.nil ?_
        refine Jq.thenN ?_
        refine Jc.cond rfl (fun h1 => ?_) (fun h1 => ?_)
        · try replace h1 := of_decide_eq_true h1
          refine Jc.skip ?_
          refine Jq.thenN ?_
          refine Jc.seq ?_
          refine Jc.block ?_
          refine Jc.seq ?_
          refine Jc.region ?_
          refine Jl.pv (PR.loadW rfl tsh24 (by repeat (first | exact Has.here | apply Has.there)) (by rfl)) ?_
          refine Jl.pv (PR.move rfl) ?_
          refine Jl.call (of_ct c x be hw) en10 (by rfl) (by repeat (first | exact Take.nil | apply Take.cons (by repeat (first | exact Del.here | apply Del.there)))) (by repeat (first | exact trivial | refine And.intro (by repeat (first | exact Mem.here | apply Mem.there)) ?_)) ?_
          rintro ⟨A27, c27⟩
          refine Jl.sealR (by repeat (first | exact Del.here | apply Del.there)) ?_
          have hpl : (ps ++ [((A27, c27), (shw c be).take 3)]).length = ps.length + 1 := by simp
          have hpf := flatP_app ps ((A27, c27), (shw c be).take 3)
          have hps := pgS_app ps ((A27, c27), (shw c be).take 3)
          refine Jl.pv (PR.move rfl) ?_
          refine Jl.pv (PR.extract rfl (by rfl)) ?_
          refine Jl.pv (PR.extract rfl (by rfl)) ?_
          refine Jl.pv (PR.assign rfl) ?_
          refine Jl.pv (PR.assign rfl) ?_
          refine Jl.nil ?_
          refine Jq.thenN ?_
          refine Jc.seq ?_
          refine Jc.region ?_
          refine Jl.pv (PR.move rfl) ?_
          refine Jl.pv (PR.move rfl) ?_
          refine Jl.buildSlice (by rfl) tsl27 tzr27_1 (by rfl) (by rfl) ?_
          intro b32
          refine Jl.seal (by repeat (first | exact Del.here | apply Del.there)) ?_
          refine Jl.append (ps ++ [((A27, c27), (shw c be).take 3)]).length (slsV (pgS (ps ++ [((A27, c27), (shw c be).take 3)]))) rfl rfl rfl tsl27 tze28 (by rfl) (by decide) tby28 (fun _ _ => (by repeat (first | exact Swap.here | apply Swap.there))) (by repeat (first | exact Mem.here | apply Mem.there)) hpl.symm (by rw [hps, slsV_app]; rfl) rfl (by simp [Value.oneCell']) (by omega) (by decide) ?_
          intro A33 c33
          refine Jl.slApp ((A27, c27), ((shw c be).take 3).length, snsV ((shw c be).take 3)) (by repeat (first | exact Mem.here | apply Mem.there)) (by repeat (first | exact Mem.here | apply Mem.there)) ?_
          rw [← hps]
          refine Jl.pv (PR.assign rfl) ?_
          refine Jl.nil ?_
          refine Jq.thenN ?_
          refine Jc.seq ?_
          refine Jc.region ?_
          refine Jl.pv (PR.move rfl) ?_
          refine Jl.pv (PR.move rfl) ?_
          refine Jl.append (flatP (ps ++ [((A27, c27), (shw c be).take 3)])).length (snsV (flatP (ps ++ [((A27, c27), (shw c be).take 3)]))) rfl rfl rfl tsl28 tze35 (by rfl) (by decide) tby35 (fun _ _ => (by repeat (first | exact Swap.here | apply Swap.there))) (by repeat (first | exact Mem.here | apply Mem.there)) (by rw [hpf, List.length_append]) (by rw [hpf, snsV_app]) (snsV_len _) (sns_one _) (by simp only [List.length_take]; omega) (by decide) ?_
          intro A36 c36
          refine Jl.pv (PR.assign rfl) ?_
          refine Jl.nil ?_
          refine Jq.thenN ?_
          refine Jc.seq ?_
          refine Jc.seq ?_
          refine Jc.region ?_
          refine Jl.pv (PR.move rfl) ?_
          refine Jl.pv (PR.len rfl tsl28) ?_
          refine Jl.pv (PR.gtr false rfl rfl (by simp [List.length_take]; omega)) ?_
          refine Jl.pv (PR.move rfl) ?_
          refine Jl.on rfl rfl ?_
          refine Jl.pv (PR.move rfl) ?_
          refine Jl.on rfl rfl ?_
          refine Jl.pv (PR.move rfl) ?_
          refine Jl.bsplit (fun g42 => ?_) (fun g42 => ?_)
          · try replace g42 := of_decide_eq_true g42
            refine Jl.on rfl rfl ?_
            refine Jl.pv (PR.move rfl) ?_
            refine Jl.on rfl rfl ?_
            refine Jl.pv (PR.len rfl tsl28) ?_
            refine Jl.on rfl rfl ?_
            refine Jl.pv (PR.neq false rfl rfl (by simp [List.length_take]; omega)) ?_
            refine Jl.on rfl rfl ?_
            refine Jl.pv (PR.pickT rfl rfl) ?_
            refine Jl.pv (PR.pickF rfl rfl) ?_
            refine Jl.nil ?_
            refine Jq.thenN ?_
            refine Jc.condF rfl ?_
            refine Jc.skip ?_
            refine Jq.thenN ?_
            refine Jc.seq ?_
            refine Jc.region ?_
            refine Jl.pv (PR.move rfl) ?_
            refine Jl.pv (PR.move rfl) ?_
            refine Jl.call (next_ct A27 c27 ((shw c be).take 3) be (by simp only [List.length_take]; omega)) en11 (by rfl) (by repeat (first | exact Take.nil | apply Take.cons (by repeat (first | exact Del.here | apply Del.there)))) (by repeat (first | exact trivial | refine And.intro (by repeat (first | exact Mem.here | apply Mem.there)) ?_)) ?_
            rintro ⟨⟩
            refine Jl.pv (PR.assign rfl) ?_
            refine Jl.nil ?_
            refine Jq.thenN ?_
            refine Jc.seq ?_
            refine Jc.region ?_
            refine Jl.pv (PR.move rfl) ?_
            refine Jl.pv (PR.not rfl) ?_
            refine Jl.nil ?_
            refine Jq.thenN ?_
            refine Jc.cond rfl (fun h2 => ?_) (fun h2 => ?_)
            · try replace h2 := of_decide_eq_true h2
              exact absurd g42 (by simpa using h2)
            · try replace h2 := of_decide_eq_false h2
              refine Jc.skip ?_
              refine Jq.blkN ?_
              refine Jq.thenN ?_
              refine Jc.region ?_
              refine Jl.pv (PR.move rfl) ?_
              refine Jl.pv (PR.add ((ps ++ [((A27, c27), (shw c be).take 3)]).length : Int) rfl rfl (by rw [w64 (by omega) (by omega), hpl]; rfl)) ?_
              refine Jl.pv (PR.assign rfl) ?_
              refine Jl.nil ?_
              exact Jq.againT ⟨⟨(ps ++ [((A27, c27), (shw c be).take 3)], nxt ((shw c be).take 3) be), fun p hp => (List.mem_append.1 hp).elim (h3 p) (fun hp => by rw [List.mem_singleton.1 hp]; exact List.length_take.trans (by omega)), by rw [hpf, shw_next, List.append_assoc, List.take_append_drop, hl]⟩, (A36, c36), (A33, c33)⟩ (by simp only [shw_next, List.length_drop]; omega) (by repeat (first | exact trivial | refine And.intro rfl ?_)) (by repeat (first | exact Take.nil | apply Take.cons (by repeat (first | exact Del.here | apply Del.there)))) (by repeat (first | exact trivial | refine And.intro (by repeat (first | exact Mem.here | apply Mem.there)) ?_))
          · try replace g42 := of_decide_eq_false g42
            refine Jl.offS rfl rfl rfl ?_
            refine Jl.offS rfl rfl rfl ?_
            refine Jl.offS rfl rfl rfl ?_
            refine Jl.on rfl rfl ?_
            refine Jl.pv (PR.pickF rfl rfl) ?_
            refine Jl.pv (PR.pickF rfl rfl) ?_
            refine Jl.nil ?_
            refine Jq.thenN ?_
            refine Jc.condF rfl ?_
            refine Jc.skip ?_
            refine Jq.thenN ?_
            refine Jc.seq ?_
            refine Jc.region ?_
            refine Jl.pv (PR.move rfl) ?_
            refine Jl.pv (PR.move rfl) ?_
            refine Jl.call (next_ct A27 c27 ((shw c be).take 3) be (by simp only [List.length_take]; omega)) en11 (by rfl) (by repeat (first | exact Take.nil | apply Take.cons (by repeat (first | exact Del.here | apply Del.there)))) (by repeat (first | exact trivial | refine And.intro (by repeat (first | exact Mem.here | apply Mem.there)) ?_)) ?_
            rintro ⟨⟩
            refine Jl.pv (PR.assign rfl) ?_
            refine Jl.nil ?_
            refine Jq.thenN ?_
            refine Jc.seq ?_
            refine Jc.region ?_
            refine Jl.pv (PR.move rfl) ?_
            refine Jl.pv (PR.not rfl) ?_
            refine Jl.nil ?_
            refine Jq.thenN ?_
            refine Jc.cond rfl (fun h3' => ?_) (fun h3' => ?_)
            · try replace h3' := of_decide_eq_true h3'
              refine Jc.exit ?_
              refine Jq.blkY rfl ?_
              refine Jq.thenX ?_
              refine Jq.thenX ?_
              refine Jq.blkX ?_
              exact Jq.midT ⟨⟨_, pgs_last (A27, c27) h3 hl g42⟩, (A36, c36), (A33, c33)⟩ (by repeat (first | exact trivial | refine And.intro rfl ?_)) (by repeat (first | exact Take.nil | apply Take.cons (by repeat (first | exact Del.here | apply Del.there)))) (by repeat (first | exact trivial | refine And.intro (by repeat (first | exact Mem.here | apply Mem.there)) ?_))
            · try replace h3' := of_decide_eq_false h3'
              exact absurd (by simpa using h3') g42
        · try replace h1 := of_decide_eq_false h1
          omega
      · rintro ⟨⟨ps, hP, hf⟩, ⟨B, cB⟩, ⟨D, cD⟩⟩
        show Jc _ _ _ _ _ _ [(4, .slice B (flatP ps).length cB), (3, .slice D ps.length cD), (1, .pointer (some ⟨b1, 0, none⟩))] [.row 35 7 (.slice B (flatP ps).length cB) (flatP ps).length (snsV (flatP ps)), .row 28 1 (.slice D ps.length cD) ps.length (slsV (pgS ps)), .blk b1 24 (c.cs x)] [.sls (pgS ps), .rd x.1 (bxsV c.bs)]
        refine Jc.sealR (by repeat (first | exact Del.here | apply Del.there)) ?_
        refine Jc.sealR (by repeat (first | exact Del.here | apply Del.there)) ?_
        have hcn := shw_cnt hok 0
        have hat : ∀ {k : Nat} (hk : k < c.bs.length) (hq : Bx.sh 0 c.bs[k] = true), (shw c 0)[(c.bs.take k).countP (Bx.sh 0)]? = some c.bs[k].seen := fun hk hq => shw_at hok 0 hk hq
        rw [← hf] at hcn hat hl60
        refine Jc.seq ?_
        refine Jc.region ?_
        refine Jl.pv (PR.assign rfl) ?_
        refine Jl.nil ?_
        refine Jq.thenN ?_
        refine Jc.seq ?_
        refine Jc.seq ?_
        refine Jc.region ?_
        refine Jl.pv (PR.assign rfl) ?_
        refine Jl.nil ?_
        refine Jq.thenN ?_
        refine Jc.block ?_
        refine Jc.loop (σ := { k : Nat // k ≤ c.bs.length }) (fun z => [(10, .int .i64 (z.1 : Int)), (9, .int .i64 (((c.bs.take z.1).countP (Bx.sh 0) : Nat) : Int)), (4, .slice B (flatP ps).length cB), (3, .slice D ps.length cD), (1, .pointer (some ⟨b1, 0, none⟩))]) (fun _ => [.blk b1 24 (c.cs x)]) (fun _ => [.rd D (slsV (pgS ps)), .rd B (snsV (flatP ps)), .sls (pgS ps), .rd x.1 (bxsV c.bs)]) (fun z => c.bs.length - z.1) ⟨0, Nat.zero_le _⟩ (by repeat (first | exact trivial | refine And.intro rfl ?_)) rfl (by repeat (first | exact trivial | refine And.intro (by repeat (first | exact Mem.here | apply Mem.there)) ?_)) ?_
        rintro ⟨k, hk⟩
        show Jc _ _ _ _ _ _ [(10, Value.int .i64 (k : Int)), (9, .int .i64 (((c.bs.take k).countP (Bx.sh 0) : Nat) : Int)), (4, .slice B (flatP ps).length cB), (3, .slice D ps.length cD), (1, .pointer (some ⟨b1, 0, none⟩))] [.blk b1 24 (c.cs x)] [.rd D (slsV (pgS ps)), .rd B (snsV (flatP ps)), .sls (pgS ps), .rd x.1 (bxsV c.bs)]
        refine Jc.seq ?_
        refine Jc.seq ?_
        refine Jc.region ?_
        refine Jl.pv (PR.move rfl) ?_
        refine Jl.pv (PR.fieldAddr rfl tfl24_0) ?_
        refine Jl.pv (PR.load1 rfl tsh22 (by repeat (first | exact Has.here | apply Has.there)) (by rfl)) ?_
        refine Jl.pv (PR.len rfl tsl22) ?_
        refine Jl.pv (PR.lss _ rfl rfl rfl) ?_
        refine Jl.nil ?_
        refine Jq.thenN ?_
        refine Jc.cond rfl (fun h4 => ?_) (fun h4 => ?_)
        · try replace h4 := of_decide_eq_true h4
          have hlt : k < c.bs.length := by omega
          refine Jc.skip ?_
          refine Jq.thenN ?_
          refine Jc.seq ?_
          refine Jc.block ?_
          refine Jc.seq ?_
          refine Jc.region ?_
          refine Jl.pv (PR.fieldAddr rfl tfl24_0) ?_
          refine Jl.pv (PR.load1 rfl tsh22 (by repeat (first | exact Has.here | apply Has.there)) (by rfl)) ?_
          refine Jl.pv (PR.move rfl) ?_
          refine Jl.pv (PR.idx k rfl rfl tsl22 (by repeat (first | exact Mem.here | apply Mem.there)) (bxsV_len _) (by omega) rfl hlt) ?_
          refine Jl.pv (PR.loadRA rfl tsh33 (by repeat (first | exact Mem.here | apply Mem.there)) (by decide) (bxs_at hlt)) ?_
          refine Jl.alloc tze33 ?_
          intro b11
          refine Jl.storeW rfl tsh33 rfl (by rfl) (by first | exact Cl.cs_one _ _ | simp [Value.oneCell', Bx.cs]) (by repeat (first | exact Swap.here | apply Swap.there)) (by rfl) ?_
          refine Jl.nil ?_
          refine Jq.thenN ?_
          refine Jc.seq ?_
          refine Jc.seq ?_
          refine Jc.region ?_
          refine Jl.pv (PR.fieldAddr rfl tfl33_4) ?_
          refine Jl.pv (PR.load1 rfl tsh4 (by repeat (first | exact Has.here | apply Has.there)) (by rfl)) ?_
          refine Jl.pv (PR.not rfl) ?_
          refine Jl.pv (PR.move rfl) ?_
          refine Jl.bsplit (fun g68 => ?_) (fun g68 => ?_)
          · try replace g68 := of_decide_eq_true g68
            have hcq := take_no (q := Bx.sh 0) hlt (by simp_all [Bx.sh])
            refine Jl.offS rfl rfl rfl ?_
            refine Jl.offS rfl rfl rfl ?_
            refine Jl.pv (PR.pickT rfl rfl) ?_
            refine Jl.nil ?_
            refine Jq.thenN ?_
            refine Jc.condT rfl ?_
            refine Jc.exit ?_
            refine Jq.thenX ?_
            refine Jq.blkX ?_
            refine Jq.thenN ?_
            refine Jc.region ?_
            refine Jl.pv (PR.move rfl) ?_
            refine Jl.pv (PR.add ((k + 1 : Nat) : Int) rfl rfl (by rw [w64 (by omega) (by omega)]; rfl)) ?_
            refine Jl.pv (PR.assign rfl) ?_
            refine Jl.nil ?_
            rw [← hcq]
            exact Jq.againT ⟨k + 1, hlt⟩ (by simp only; omega) (by repeat (first | exact trivial | refine And.intro rfl ?_)) (by repeat (first | exact Take.nil | apply Take.cons (by repeat (first | exact Del.here | apply Del.there)))) (by repeat (first | exact trivial | refine And.intro (by repeat (first | exact Mem.here | apply Mem.there)) ?_))
          · try replace g68 := of_decide_eq_false g68
            refine Jl.on rfl rfl ?_
            refine Jl.pv (PR.fieldAddr rfl tfl33_6) ?_
            refine Jl.on rfl rfl ?_
            refine Jl.pv (PR.load1 rfl tsh4 (by repeat (first | exact Has.here | apply Has.there)) (by rfl)) ?_
            refine Jl.pv (PR.pickF rfl rfl) ?_
            refine Jl.nil ?_
            refine Jq.thenN ?_
            refine Jc.cond rfl (fun h5 => ?_) (fun h5 => ?_)
            · try replace h5 := of_decide_eq_true h5
              have hcq := take_no (q := Bx.sh 0) hlt (by simp_all [Bx.sh])
              refine Jc.exit ?_
              refine Jq.thenX ?_
              refine Jq.blkX ?_
              refine Jq.thenN ?_
              refine Jc.region ?_
              refine Jl.pv (PR.move rfl) ?_
              refine Jl.pv (PR.add ((k + 1 : Nat) : Int) rfl rfl (by rw [w64 (by omega) (by omega)]; rfl)) ?_
              refine Jl.pv (PR.assign rfl) ?_
              refine Jl.nil ?_
              rw [← hcq]
              exact Jq.againT ⟨k + 1, hlt⟩ (by simp only; omega) (by repeat (first | exact trivial | refine And.intro rfl ?_)) (by repeat (first | exact Take.nil | apply Take.cons (by repeat (first | exact Del.here | apply Del.there)))) (by repeat (first | exact trivial | refine And.intro (by repeat (first | exact Mem.here | apply Mem.there)) ?_))
            · try replace h5 := of_decide_eq_false h5
              have hid := (hok.bs k hlt).1.1
              have hq : Bx.sh 0 c.bs[k] = true := by simp [Bx.sh, not_false g68, h5, show (0 : Int) < c.bs[k].id by omega]
              have hcq := take_yes hlt hq
              have hnl := take_lt _ hlt hq
              rw [← hcn] at hnl
              have hgt := hat hlt hq
              rw [List.getElem?_eq_getElem hnl, Option.some_inj] at hgt
              refine Jc.skip ?_
              refine Jq.thenN ?_
              refine Jc.seq ?_
              refine Jc.seq ?_
              refine Jc.drawn [0, 0, 2, 7, 15, 31, 31, 127, 255, 31, 543, 31, 2079, 31, 8223, 31, 32799, 31, 131103, 31, 524319, 31, 2097183, 6291487, 16776735, 33554431, 67108863] ([(0, false), (1, false), (2, false), (3, false), (4, false), (5, false), (6, false), (7, false), (8, false), (9, false), (10, false), (11, false), (12, false), (13, false), (14, false), (15, false), (16, false), (17, false), (18, false), (19, false), (20, false), (21, false), (22, false), (23, false), (24, false), (25, false), (26, false)], []) [] tmx (by kernel_rfl) ?_
              refine Dh.JH.nil ?_
              refine Dh.JB.pv rfl trivial (fun _ => PR.move rfl) ?_
              refine Dh.JB.pv rfl trivial (fun _ => PR.move rfl) ?_
              refine Dh.JB.pv rfl trivial (fun _ => PR.len rfl tsl28) ?_
              refine Dh.JB.pv rfl trivial (fun _ => PR.geq false rfl rfl (by simp; omega)) ?_
              refine Dh.JB.pv rfl trivial (fun _ => PR.move rfl) ?_
              refine Dh.JB.pv rfl ⟨_, rfl, rfl⟩ (fun _ => PR.move rfl) ?_
              refine Dh.JB.pv rfl ⟨_, rfl, rfl⟩ (fun _ => PR.move rfl) ?_
              refine Dh.JB.pv rfl ⟨_, rfl, rfl⟩ (fun _ => PR.idx ((c.bs.take k).countP (Bx.sh 0)) rfl rfl tsl28 (by repeat (first | exact Mem.here | apply Mem.there)) (snsV_len _) (by omega) rfl hnl) ?_
              refine Dh.JB.pv rfl ⟨_, rfl, rfl⟩ (fun _ => PR.loadRA rfl tsh35 (by repeat (first | exact Mem.here | apply Mem.there)) (by decide) (sns_at hnl)) ?_
              refine Dh.JB.pv rfl ⟨_, rfl, rfl⟩ (fun _ => PR.fieldAddr rfl tfl33_0) ?_
              refine Dh.JB.rd [.blk _ _ _] rfl ⟨_, rfl, rfl⟩ (by repeat (first | exact Take.nil | apply Take.cons (by repeat (first | exact Del.here | apply Del.there)))) (fun _ => PR.load1 rfl tsh3 Has.here (by rfl)) ?_
              refine Dh.JB.pv rfl ⟨_, rfl, rfl⟩ (fun _ => PR.fieldAddr rfl tfl33_1) ?_
              refine Dh.JB.rd [.blk _ _ _] rfl ⟨_, rfl, rfl⟩ (by repeat (first | exact Take.nil | apply Take.cons (by repeat (first | exact Del.here | apply Del.there)))) (fun _ => PR.load1 rfl tsh3 Has.here (by rfl)) ?_
              refine Dh.JB.pv rfl ⟨_, rfl, rfl⟩ (fun _ => PR.fieldAddr rfl tfl33_2) ?_
              refine Dh.JB.rd [.blk _ _ _] rfl ⟨_, rfl, rfl⟩ (by repeat (first | exact Take.nil | apply Take.cons (by repeat (first | exact Del.here | apply Del.there)))) (fun _ => PR.load1 rfl tsh3 Has.here (by rfl)) ?_
              refine Dh.JB.pv rfl ⟨_, rfl, rfl⟩ (fun _ => PR.fieldAddr rfl tfl33_3) ?_
              refine Dh.JB.rd [.blk _ _ _] rfl ⟨_, rfl, rfl⟩ (by repeat (first | exact Take.nil | apply Take.cons (by repeat (first | exact Del.here | apply Del.there)))) (fun _ => PR.load1 rfl tsh3 Has.here (by rfl)) ?_
              refine Dh.JB.pv rfl ⟨_, rfl, rfl⟩ (fun _ => PR.fieldAddr rfl tfl33_5) ?_
              refine Dh.JB.rd [.blk _ _ _] rfl ⟨_, rfl, rfl⟩ (by repeat (first | exact Take.nil | apply Take.cons (by repeat (first | exact Del.here | apply Del.there)))) (fun _ => PR.load1 rfl tsh4 Has.here (by rfl)) ?_
              refine Dh.JB.pv rfl ⟨_, rfl, rfl⟩ (fun _ => PR.fieldAddr rfl tfl33_7) ?_
              refine Dh.JB.rd [.blk _ _ _] rfl ⟨_, rfl, rfl⟩ (by repeat (first | exact Take.nil | apply Take.cons (by repeat (first | exact Del.here | apply Del.there)))) (fun _ => PR.load1 rfl tsh4 Has.here (by rfl)) ?_
              refine Dh.JB.pv rfl ⟨_, rfl, rfl⟩ (fun _ => PR.fieldAddr rfl tfl33_8) ?_
              refine Dh.JB.rd [.blk _ _ _] rfl ⟨_, rfl, rfl⟩ (by repeat (first | exact Take.nil | apply Take.cons (by repeat (first | exact Del.here | apply Del.there)))) (fun _ => PR.load1 rfl tsh5 Has.here (by rfl)) ?_
              refine Dh.JB.pv rfl ⟨_, rfl, rfl⟩ (fun _ => PR.eql (decide (c.bs[k].lb = 1)) rfl rfl (hlb _)) ?_
              refine Dh.JB.pv rfl ⟨_, rfl, rfl⟩ (fun _ => PR.build (by rfl) tze35 tpl35_0_1_2_3_4_5_6 (by rfl)) ?_
              refine Dh.JB.pv rfl ⟨_, rfl, rfl⟩ (fun _ => PR.neqA (xs := ((flatP ps)[(c.bs.take k).countP (Bx.sh 0)]).cs) (ys := c.bs[k].seen.cs) false rfl rfl teq35 (by rfl) (by rw [hgt]; simp)) ?_
              refine Dh.JB.pv rfl trivial (fun _ => PR.pickF rfl rfl) ?_
              refine Dh.JB.nil ?_
              refine Dh.JL.nil ?_
              refine Jq.thenN ?_
              refine Jc.condF rfl ?_
              refine Jc.skip ?_
              refine Jq.thenN ?_
              refine Jc.region ?_
              refine Jl.pv (PR.move rfl) ?_
              refine Jl.pv (PR.add (((c.bs.take (k + 1)).countP (Bx.sh 0) : Nat) : Int) rfl rfl (by rw [hcq, w64 (by omega) (by omega)]; rfl)) ?_
              refine Jl.pv (PR.assign rfl) ?_
              refine Jl.nil ?_
              refine Jq.blkN ?_
              refine Jq.thenN ?_
              refine Jc.region ?_
              refine Jl.pv (PR.move rfl) ?_
              refine Jl.pv (PR.add ((k + 1 : Nat) : Int) rfl rfl (by rw [w64 (by omega) (by omega)]; rfl)) ?_
              refine Jl.pv (PR.assign rfl) ?_
              refine Jl.nil ?_
              exact Jq.againT ⟨k + 1, hlt⟩ (by simp only; omega) (by repeat (first | exact trivial | refine And.intro rfl ?_)) (by repeat (first | exact Take.nil | apply Take.cons (by repeat (first | exact Del.here | apply Del.there)))) (by repeat (first | exact trivial | refine And.intro (by repeat (first | exact Mem.here | apply Mem.there)) ?_))
        · try replace h4 := of_decide_eq_false h4
          obtain rfl : k = c.bs.length := by omega
          rw [List.take_length, ← hcn]
          refine Jc.exit ?_
          refine Jq.thenX ?_
          refine Jq.thenX ?_
          refine Jq.blkX ?_
          refine Jq.thenN ?_
          refine Jc.seq ?_
          refine Jc.region ?_
          refine Jl.pv (PR.move rfl) ?_
          refine Jl.pv (PR.move rfl) ?_
          refine Jl.pv (PR.len rfl tsl28) ?_
          refine Jl.pv (PR.eql true rfl rfl (by simp)) ?_
          refine Jl.pv (PR.move rfl) ?_
          refine Jl.on rfl rfl ?_
          refine Jl.pv (PR.move rfl) ?_
          refine Jl.on rfl rfl ?_
          refine Jl.call (whole_ct D cD ps hP) en12 (by rfl) (by repeat (first | exact Take.nil | apply Take.cons (by repeat (first | exact Del.here | apply Del.there)))) (by repeat (first | exact trivial | refine And.intro (by repeat (first | exact Mem.here | apply Mem.there)) ?_)) ?_
          rintro ⟨⟩
          refine Jl.as (.bool true) (congrArg Value.bool rfl) ?_
          refine Jl.pv (PR.pickT rfl rfl) ?_
          refine Jl.pv (PR.move rfl) ?_
          refine Jl.on rfl rfl ?_
          refine Jl.pv (PR.loadW rfl tsh24 (by repeat (first | exact Has.here | apply Has.there)) (by rfl)) ?_
          refine Jl.on rfl rfl ?_
          refine Jl.call (all_at hw hf.symm rfl) en14 (by rfl) (by repeat (first | exact Take.nil | apply Take.cons (by repeat (first | exact Del.here | apply Del.there)))) (by repeat (first | exact trivial | refine And.intro (by repeat (first | exact Mem.here | apply Mem.there)) ?_)) ?_
          rintro ⟨A111, c111⟩
          refine Jl.sealR (by repeat (first | exact Del.here | apply Del.there)) ?_
          refine Jl.on rfl rfl ?_
          refine Jl.pv (PR.move rfl) ?_
          refine Jl.on rfl rfl ?_
          refine Jl.call (psame_eq (a := flatP ps) (b := flatP ps) (x := (A111, c111)) (y := (B, cB)) rfl rfl rfl (by omega)) en13 (by rfl) (by repeat (first | exact Take.nil | apply Take.cons (by repeat (first | exact Del.here | apply Del.there)))) (by repeat (first | exact trivial | refine And.intro (by repeat (first | exact Mem.here | apply Mem.there)) ?_)) ?_
          rintro ⟨⟩
          refine Jl.as (.bool true) (congrArg Value.bool rfl) ?_
          refine Jl.pv (PR.pickT rfl rfl) ?_
          refine Jl.pv (PR.move rfl) ?_
          refine Jl.on rfl rfl ?_
          refine Jl.call pgwakes_ct en9 (by rfl) (by repeat (first | exact Take.nil | apply Take.cons (by repeat (first | exact Del.here | apply Del.there)))) (by repeat (first | exact trivial | refine And.intro (by repeat (first | exact Mem.here | apply Mem.there)) ?_)) ?_
          rintro ⟨⟩
          refine Jl.pv (PR.pickT rfl rfl) ?_
          refine Jl.pv (PR.assign rfl) ?_
          refine Jl.nil ?_
          refine Jq.thenN ?_
          refine Jc.ret ?_
          exact Jq.fin () (.inl rfl) rfl (RetVs.tmp rfl RetVs.nil) rfl (by repeat (first | exact Take.nil | apply Take.cons (by repeat (first | exact Del.here | apply Del.there)))) (by repeat (first | exact trivial | refine And.intro (by repeat (first | exact Mem.here | apply Mem.there)) ?_))
end Go.Proofs.Ytoackajhekdckaa
