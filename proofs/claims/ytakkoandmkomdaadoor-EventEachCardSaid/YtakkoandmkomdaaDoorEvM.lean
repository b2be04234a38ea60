/-
The laws of events: EventTicks.
-/
import Derived.Test.YtakkoandmkomdaaDoorEvL
namespace Go.Proofs.YtakkoandmkomdaaDoor
set_option linter.unusedVariables false
open Go.RowKit
attribute [local irreducible] Res.blk Res.row Fact.rd Res.mapI
/-- Behind so many ticks. -/
def tkN (c : Cl) (i : Nat) : Cl := { c with now := c.now + i, bs := if i = 0 then c.bs else c.bs.map (Bx.tick (c.now + i)) }
theorem tick_tick {t t' : Int} (h : t ≤ t') (b : Bx) : (b.tick t).tick t' = b.tick t' := by
  by_cases h1 : b.lb = 2 ∧ b.unt ≤ t
  · rw [show b.tick t = { b with lb := 0 } from if_pos h1, show b.tick t' = { b with lb := 0 } from if_pos ⟨h1.1, by omega⟩]
    exact if_neg (by simp)
  · rw [show b.tick t = b from if_neg h1]
theorem tkN_len (c : Cl) (i : Nat) : (tkN c i).bs.length = c.bs.length := by unfold tkN; simp only; split <;> simp
theorem tkN_next {c : Cl} {i : Nat} (h : (tkN c i).Ok) (hn : c.now + i < 1099511627776) : doE (tkN c i) ⟨5, 0, 0⟩ = tkN c (i + 1) := by
  rw [doE_ok h, show happ (tkN c i) ⟨5, 0, 0⟩ = tickC (tkN c i) from rfl, tickC, if_neg (by show ¬ (1099511627776 ≤ c.now + i); omega)]
  unfold tkN
  simp only [Nat.add_eq_zero_iff, Nat.one_ne_zero, and_false, if_false]
  have e : c.now + (i : Int) + 1 = c.now + ((i + 1 : Nat) : Int) := by omega
  rw [e]
  congr 1
  split
  · rfl
  · rw [List.map_map]
    refine List.map_congr_left fun b _ => ?_
    show (b.tick (c.now + i)).tick (c.now + ((i + 1 : Nat) : Int)) = _
    exact tick_tick (by omega) b
theorem tkN_ok {c : Cl} (h : c.Ok) (i : Nat) (hn : c.now + i ≤ 1099511627776) : (tkN c i).Ok := by
  induction i with
  | zero => exact ⟨h.len, h.fl, h.dr, by simpa [tkN] using h.now, h.bs⟩
  | succ i ih =>
    have h1 := ih (by omega)
    rw [← tkN_next h1 (by omega)]
    exact doE_Ok h1 _
theorem tkN_zero (c : Cl) : tkN c 0 = c := by cases c; simp [tkN]
theorem tkN_get (c : Cl) (i k : Nat) (h : k < c.bs.length) : (tkN c i).bs[k]'(by rw [tkN_len]; exact h) = if i = 0 then c.bs[k] else c.bs[k].tick (c.now + i) := by
  unfold tkN; simp only
  split
  · rfl
  · rw [List.getElem_map]
theorem eventTicks_ct (c : Cl) (x : AdC) (many : Int) (bm : Nat) : Ct Tryd.prog 5 [c.v x, .int .i64 many] [] [.rd x.1 (bxsV c.bs), .happens bm] (fun _ : Unit => .bool true) (fun _ => []) (fun _ => []) := by
  obtain ⟨A, cA⟩ := x
  refine Ct.of _ Tryd.func5 Tryd.ntmps5 rfl rfl (fun X W => ?_)
  refine Jc.seq ?_
  refine Jc.region ?_
  refine Jl.box rfl (by rfl) ?_
  intro b2
  refine Jl.pv (PR.assign rfl) ?_
  refine Jl.nil ?_
  refine Jq.thenN ?_
  refine Jc.seq ?_
  refine Jc.seq ?_
  refine Jc.region ?_
  refine Jl.pv (PR.move rfl) ?_
  refine Jl.pv (PR.lss _ rfl rfl rfl) ?_
  refine Jl.pv (PR.move rfl) ?_
  refine Jl.bsplit (fun g11 => ?_) (fun g11 => ?_)
  · try replace g11 := of_decide_eq_true g11
    refine Jl.offS rfl rfl rfl ?_
    refine Jl.offS rfl rfl rfl ?_
    refine Jl.pv (PR.pickT rfl rfl) ?_
    refine Jl.pv (PR.move rfl) ?_
    refine Jl.offS rfl rfl rfl ?_
    refine Jl.offS rfl rfl rfl ?_
    refine Jl.offS rfl rfl rfl ?_
    refine Jl.pv (PR.pickT rfl rfl) ?_
    refine Jl.pv (PR.move rfl) ?_
    refine Jl.offS rfl rfl rfl ?_
    refine Jl.offS rfl rfl rfl ?_
    refine Jl.offS rfl rfl rfl ?_
    refine Jl.pv (PR.pickT rfl rfl) ?_
    refine Jl.nil ?_
    refine Jq.thenN ?_
    refine Jc.condT rfl ?_
    refine Jc.seq ?_
    refine Jc.region ?_
    refine Jl.call (evwakes_ct bm) en8 (by rfl) (by repeat (first | exact Take.nil | apply Take.cons (by repeat (first | exact Del.here | apply Del.there)))) (by repeat (first | exact trivial | refine And.intro (by repeat (first | exact Mem.here | apply Mem.there)) ?_)) ?_
    rintro ⟨⟩
    refine Jl.pv (PR.assign rfl) ?_
    refine Jl.nil ?_
    refine Jq.thenN ?_
    refine Jc.ret ?_
    refine Jq.thenR ?_
    exact Jq.fin () (.inl rfl) rfl (RetVs.tmp rfl RetVs.nil) rfl (by repeat (first | exact Take.nil | apply Take.cons (by repeat (first | exact Del.here | apply Del.there)))) (by repeat (first | exact trivial | refine And.intro (by repeat (first | exact Mem.here | apply Mem.there)) ?_))
  · try replace g11 := of_decide_eq_false g11
    refine Jl.on rfl rfl ?_
    refine Jl.pv (PR.move rfl) ?_
    refine Jl.on rfl rfl ?_
    refine Jl.pv (PR.gtr _ rfl rfl rfl) ?_
    refine Jl.pv (PR.pickF rfl rfl) ?_
    refine Jl.pv (PR.move rfl) ?_
    refine Jl.bsplit (fun g15 => ?_) (fun g15 => ?_)
    · try replace g15 := of_decide_eq_true g15
      refine Jl.offS rfl rfl rfl ?_
      refine Jl.offS rfl rfl rfl ?_
      refine Jl.offS rfl rfl rfl ?_
      refine Jl.pv (PR.pickT rfl rfl) ?_
      refine Jl.pv (PR.move rfl) ?_
      refine Jl.offS rfl rfl rfl ?_
      refine Jl.offS rfl rfl rfl ?_
      refine Jl.offS rfl rfl rfl ?_
      refine Jl.pv (PR.pickT rfl rfl) ?_
      refine Jl.nil ?_
      refine Jq.thenN ?_
      refine Jc.condT rfl ?_
      refine Jc.seq ?_
      refine Jc.region ?_
      refine Jl.call (evwakes_ct bm) en8 (by rfl) (by repeat (first | exact Take.nil | apply Take.cons (by repeat (first | exact Del.here | apply Del.there)))) (by repeat (first | exact trivial | refine And.intro (by repeat (first | exact Mem.here | apply Mem.there)) ?_)) ?_
      rintro ⟨⟩
      refine Jl.pv (PR.assign rfl) ?_
      refine Jl.nil ?_
      refine Jq.thenN ?_
      refine Jc.ret ?_
      refine Jq.thenR ?_
      exact Jq.fin () (.inl rfl) rfl (RetVs.tmp rfl RetVs.nil) rfl (by repeat (first | exact Take.nil | apply Take.cons (by repeat (first | exact Del.here | apply Del.there)))) (by repeat (first | exact trivial | refine And.intro (by repeat (first | exact Mem.here | apply Mem.there)) ?_))
    · try replace g15 := of_decide_eq_false g15
      refine Jl.on rfl rfl ?_
      refine Jl.pv (PR.loadW rfl tsh24 (by repeat (first | exact Has.here | apply Has.there)) (by rfl)) ?_
      refine Jl.on rfl rfl ?_
      refine Jl.call (rright'_ct c (A, cA)) en16 (by rfl) (by repeat (first | exact Take.nil | apply Take.cons (by repeat (first | exact Del.here | apply Del.there)))) (by repeat (first | exact trivial | refine And.intro (by repeat (first | exact Mem.here | apply Mem.there)) ?_)) ?_
      rintro ⟨⟩
      refine Jl.on rfl rfl ?_
      refine Jl.pv (PR.not rfl) ?_
      refine Jl.pv (PR.pickF rfl rfl) ?_
      refine Jl.pv (PR.move rfl) ?_
      refine Jl.bsplit (fun g20 => ?_) (fun g20 => ?_)
      · try replace g20 := of_decide_eq_true g20
        refine Jl.offS rfl rfl rfl ?_
        refine Jl.offS rfl rfl rfl ?_
        refine Jl.offS rfl rfl rfl ?_
        refine Jl.pv (PR.pickT rfl rfl) ?_
        refine Jl.nil ?_
        refine Jq.thenN ?_
        refine Jc.condT rfl ?_
        refine Jc.seq ?_
        refine Jc.region ?_
        refine Jl.call (evwakes_ct bm) en8 (by rfl) (by repeat (first | exact Take.nil | apply Take.cons (by repeat (first | exact Del.here | apply Del.there)))) (by repeat (first | exact trivial | refine And.intro (by repeat (first | exact Mem.here | apply Mem.there)) ?_)) ?_
        rintro ⟨⟩
        refine Jl.pv (PR.assign rfl) ?_
        refine Jl.nil ?_
        refine Jq.thenN ?_
        refine Jc.ret ?_
        refine Jq.thenR ?_
        exact Jq.fin () (.inl rfl) rfl (RetVs.tmp rfl RetVs.nil) rfl (by repeat (first | exact Take.nil | apply Take.cons (by repeat (first | exact Del.here | apply Del.there)))) (by repeat (first | exact trivial | refine And.intro (by repeat (first | exact Mem.here | apply Mem.there)) ?_))
      · try replace g20 := of_decide_eq_false g20
        refine Jl.on rfl rfl ?_
        refine Jl.pv (PR.fieldAddr rfl tfl24_3) ?_
        refine Jl.on rfl rfl ?_
        refine Jl.pv (PR.load1 rfl tsh3 (by repeat (first | exact Has.here | apply Has.there)) (by rfl)) ?_
        refine Jl.on rfl rfl ?_
        refine Jl.pv (PR.gtr _ rfl rfl rfl) ?_
        refine Jl.pv (PR.pickF rfl rfl) ?_
        refine Jl.nil ?_
        refine Jq.thenN ?_
        refine Jc.cond rfl (fun h0 => ?_) (fun h0 => ?_)
        · try replace h0 := of_decide_eq_true h0
          refine Jc.seq ?_
          refine Jc.region ?_
          refine Jl.call (evwakes_ct bm) en8 (by rfl) (by repeat (first | exact Take.nil | apply Take.cons (by repeat (first | exact Del.here | apply Del.there)))) (by repeat (first | exact trivial | refine And.intro (by repeat (first | exact Mem.here | apply Mem.there)) ?_)) ?_
          rintro ⟨⟩
          refine Jl.pv (PR.assign rfl) ?_
          refine Jl.nil ?_
          refine Jq.thenN ?_
          refine Jc.ret ?_
          refine Jq.thenR ?_
          exact Jq.fin () (.inl rfl) rfl (RetVs.tmp rfl RetVs.nil) rfl (by repeat (first | exact Take.nil | apply Take.cons (by repeat (first | exact Del.here | apply Del.there)))) (by repeat (first | exact trivial | refine And.intro (by repeat (first | exact Mem.here | apply Mem.there)) ?_))
        · try replace h0 := of_decide_eq_false h0
          have hok : c.Ok := Cl.ok_iff.1 (not_false g20)
          obtain ⟨m, rfl⟩ : ∃ m : Nat, many = m := ⟨many.toNat, by omega⟩
          have hnw := okN_iff.1 hok.now
          have hlen := hok.len
          have htk : ∀ i : Nat, i ≤ m → (tkN c i).Ok := fun i hi => tkN_ok hok i (by omega)
          refine Jc.skip ?_
          refine Jq.thenN ?_
          refine Jc.seq ?_
          refine Jc.region ?_
          refine Jl.pv (PR.loadW rfl tsh24 (by repeat (first | exact Has.here | apply Has.there)) (by rfl)) ?_
          refine Jl.call (rown_ct c (A, cA) hok.n) en18 (by rfl) (by repeat (first | exact Take.nil | apply Take.cons (by repeat (first | exact Del.here | apply Del.there)))) (by repeat (first | exact trivial | refine And.intro (by repeat (first | exact Mem.here | apply Mem.there)) ?_)) ?_
          rintro ⟨A27, c27⟩
          refine Jl.sealR (by repeat (first | exact Del.here | apply Del.there)) ?_
          refine Jl.alloc tze24 ?_
          intro b5
          refine Jl.storeW rfl tsh24 rfl (by rfl) (by first | exact Cl.cs_one _ _ | simp [Value.oneCell', Bx.cs]) (by repeat (first | exact Swap.here | apply Swap.there)) (by rfl) ?_
          refine Jl.nil ?_
          refine Jq.thenN ?_
          refine Jc.seq ?_
          refine Jc.seq ?_
          refine Jc.region ?_
          refine Jl.pv (PR.assign rfl) ?_
          refine Jl.nil ?_
          refine Jq.thenN ?_
          refine Jc.block ?_
          refine Jc.loop (σ := { i : Nat // i ≤ m } × AdC) (fun s => [(6, .int .i64 (s.1.1 : Int)), (1, .int .i64 (m : Int)), (5, .pointer (some ⟨b5, 0, none⟩)), (2, .pointer (some ⟨b2, 0, none⟩))]) (fun s => [.blk b5 24 ((tkN c s.1.1).cs s.2), .blk b2 24 (c.cs (A, cA))]) (fun s => [.rd s.2.1 (bxsV (tkN c s.1.1).bs), .rd A (bxsV c.bs), .happens bm]) (fun s => m - s.1.1) ⟨⟨0, Nat.zero_le _⟩, A27, c27⟩ (by repeat (first | exact trivial | refine And.intro rfl ?_)) (by simp only [tkN_zero]; rfl) (by simp only [tkN_zero]; exact (by repeat (first | exact trivial | refine And.intro (by repeat (first | exact Mem.here | apply Mem.there)) ?_))) ?_
          rintro ⟨⟨i, hi⟩, y⟩
          show Jc _ _ _ _ _ _ [(6, Value.int .i64 (i : Int)), (1, .int .i64 (m : Int)), (5, .pointer (some ⟨b5, 0, none⟩)), (2, .pointer (some ⟨b2, 0, none⟩))] [.blk b5 24 ((tkN c i).cs y), .blk b2 24 (c.cs (A, cA))] [.rd y.1 (bxsV (tkN c i).bs), .rd A (bxsV c.bs), .happens bm]
          refine Jc.seq ?_
          refine Jc.seq ?_
          refine Jc.region ?_
          refine Jl.pv (PR.move rfl) ?_
          refine Jl.pv (PR.move rfl) ?_
          refine Jl.pv (PR.lss _ rfl rfl rfl) ?_
          refine Jl.nil ?_
          refine Jq.thenN ?_
          refine Jc.cond rfl (fun h1 => ?_) (fun h1 => ?_)
          · try replace h1 := of_decide_eq_true h1
            have hlt : i < m := by omega
            refine Jc.skip ?_
            refine Jq.thenN ?_
            refine Jc.seq ?_
            refine Jc.block ?_
            refine Jc.region ?_
            refine Jl.pv (PR.loadW rfl tsh24 (by repeat (first | exact Has.here | apply Has.there)) (by rfl)) ?_
            refine Jl.pv (PR.build (by rfl) tze26 tpl26_0 (by rfl)) ?_
            refine Jl.call (evdo_at (c := tkN c i) (x := y) (e := ⟨5, 0, 0⟩) bm (htk i hi).wf (htk i hi).n (tkN_next (htk i hi) (by omega))) en10 (by rfl) (by repeat (first | exact Take.nil | apply Take.cons (by repeat (first | exact Del.here | apply Del.there)))) (by repeat (first | exact trivial | refine And.intro (by repeat (first | exact Mem.here | apply Mem.there)) ?_)) ?_
            rintro ⟨A35, c35⟩
            refine Jl.sealR (by repeat (first | exact Del.here | apply Del.there)) ?_
            refine Jl.storeW rfl tsh24 rfl (by rfl) (by first | exact Cl.cs_one _ _ | simp [Value.oneCell', Bx.cs]) (by repeat (first | exact Swap.here | apply Swap.there)) (by rfl) ?_
            refine Jl.nil ?_
            refine Jq.blkN ?_
            refine Jq.thenN ?_
            refine Jc.region ?_
            refine Jl.pv (PR.move rfl) ?_
            refine Jl.pv (PR.add ((i + 1 : Nat) : Int) rfl rfl (by rw [w64 (by omega) (by omega)]; rfl)) ?_
            refine Jl.pv (PR.assign rfl) ?_
            refine Jl.nil ?_
            exact Jq.againT ⟨⟨i + 1, hlt⟩, A35, c35⟩ (by simp only; omega) (by repeat (first | exact trivial | refine And.intro rfl ?_)) (by repeat (first | exact Take.nil | apply Take.cons (by repeat (first | exact Del.here | apply Del.there)))) (by repeat (first | exact trivial | refine And.intro (by repeat (first | exact Mem.here | apply Mem.there)) ?_))
          · try replace h1 := of_decide_eq_false h1
            obtain rfl : i = m := by omega
            have hdn : (tkN c i).now = c.now + i := rfl
            have hdl := tkN_len c i
            refine Jc.exit ?_
            refine Jq.thenX ?_
            refine Jq.thenX ?_
            refine Jq.blkX ?_
            refine Jq.thenN ?_
            refine Jc.seq ?_
            refine Jc.seq ?_
            refine Jc.region ?_
            refine Jl.pv (PR.fieldAddr rfl tfl24_3) ?_
            refine Jl.pv (PR.load1 rfl tsh3 (by repeat (first | exact Has.here | apply Has.there)) (by rfl)) ?_
            refine Jl.pv (PR.fieldAddr rfl tfl24_3) ?_
            refine Jl.pv (PR.load1 rfl tsh3 (by repeat (first | exact Has.here | apply Has.there)) (by rfl)) ?_
            refine Jl.pv (PR.move rfl) ?_
            refine Jl.pv (PR.add (c.now + (i : Int)) rfl rfl (w64 (by omega) (by omega))) ?_
            refine Jl.pv (PR.neq false rfl rfl (by simp [hdn])) ?_
            refine Jl.pv (PR.move rfl) ?_
            refine Jl.on rfl rfl ?_
            refine Jl.pv (PR.fieldAddr rfl tfl24_0) ?_
            refine Jl.on rfl rfl ?_
            refine Jl.pv (PR.load1 rfl tsh22 (by repeat (first | exact Has.here | apply Has.there)) (by rfl)) ?_
            refine Jl.on rfl rfl ?_
            refine Jl.pv (PR.len rfl tsl22) ?_
            refine Jl.on rfl rfl ?_
            refine Jl.pv (PR.fieldAddr rfl tfl24_0) ?_
            refine Jl.on rfl rfl ?_
            refine Jl.pv (PR.load1 rfl tsh22 (by repeat (first | exact Has.here | apply Has.there)) (by rfl)) ?_
            refine Jl.on rfl rfl ?_
            refine Jl.pv (PR.len rfl tsl22) ?_
            refine Jl.on rfl rfl ?_
            refine Jl.pv (PR.neq false rfl rfl (by simp [hdl])) ?_
            refine Jl.pv (PR.pickF rfl rfl) ?_
            refine Jl.pv (PR.move rfl) ?_
            refine Jl.on rfl rfl ?_
            refine Jl.pv (PR.fieldAddr rfl tfl24_1) ?_
            refine Jl.on rfl rfl ?_
            refine Jl.pv (PR.load1 rfl tsh3 (by repeat (first | exact Has.here | apply Has.there)) (by rfl)) ?_
            refine Jl.on rfl rfl ?_
            refine Jl.pv (PR.fieldAddr rfl tfl24_1) ?_
            refine Jl.on rfl rfl ?_
            refine Jl.pv (PR.load1 rfl tsh3 (by repeat (first | exact Has.here | apply Has.there)) (by rfl)) ?_
            refine Jl.on rfl rfl ?_
            refine Jl.pv (PR.neq false rfl rfl (by simp [tkN])) ?_
            refine Jl.pv (PR.pickF rfl rfl) ?_
            refine Jl.pv (PR.move rfl) ?_
            refine Jl.on rfl rfl ?_
            refine Jl.pv (PR.fieldAddr rfl tfl24_4) ?_
            refine Jl.on rfl rfl ?_
            refine Jl.pv (PR.load1 rfl tsh4 (by repeat (first | exact Has.here | apply Has.there)) (by rfl)) ?_
            refine Jl.on rfl rfl ?_
            refine Jl.pv (PR.fieldAddr rfl tfl24_4) ?_
            refine Jl.on rfl rfl ?_
            refine Jl.pv (PR.load1 rfl tsh4 (by repeat (first | exact Has.here | apply Has.there)) (by rfl)) ?_
            refine Jl.on rfl rfl ?_
            refine Jl.pv (PR.bneq false Tryd.underlying4 rfl rfl (by simp [tkN])) ?_
            refine Jl.pv (PR.pickF rfl rfl) ?_
            refine Jl.nil ?_
            refine Jq.thenN ?_
            refine Jc.condF rfl ?_
            refine Jc.skip ?_
            refine Jq.thenN ?_
            refine Jc.seq ?_
            refine Jc.seq ?_
            refine Jc.region ?_
            refine Jl.pv (PR.assign rfl) ?_
            refine Jl.nil ?_
            refine Jq.thenN ?_
            refine Jc.block ?_
            refine Jc.loop (σ := { k : Nat // k ≤ c.bs.length }) (fun s => [(7, .int .i64 (s.1 : Int)), (1, .int .i64 (i : Int)), (5, .pointer (some ⟨b5, 0, none⟩)), (2, .pointer (some ⟨b2, 0, none⟩))]) (fun _ => [.blk b5 24 ((tkN c i).cs y), .blk b2 24 (c.cs (A, cA))]) (fun _ => [.rd y.1 (bxsV (tkN c i).bs), .rd A (bxsV c.bs), .happens bm]) (fun s => c.bs.length - s.1) ⟨0, Nat.zero_le _⟩ (by repeat (first | exact trivial | refine And.intro rfl ?_)) rfl (by repeat (first | exact trivial | refine And.intro (by repeat (first | exact Mem.here | apply Mem.there)) ?_)) ?_
            rintro ⟨k, hk⟩
            show Jc _ _ _ _ _ _ [(7, Value.int .i64 (k : Int)), (1, .int .i64 (i : Int)), (5, .pointer (some ⟨b5, 0, none⟩)), (2, .pointer (some ⟨b2, 0, none⟩))] [.blk b5 24 ((tkN c i).cs y), .blk b2 24 (c.cs (A, cA))] [.rd y.1 (bxsV (tkN c i).bs), .rd A (bxsV c.bs), .happens bm]
            refine Jc.seq ?_
            refine Jc.seq ?_
            refine Jc.region ?_
            refine Jl.pv (PR.move rfl) ?_
            refine Jl.pv (PR.fieldAddr rfl tfl24_0) ?_
            refine Jl.pv (PR.load1 rfl tsh22 (by repeat (first | exact Has.here | apply Has.there)) (by rfl)) ?_
            refine Jl.pv (PR.len rfl tsl22) ?_
            refine Jl.pv (PR.lss _ rfl rfl rfl) ?_
            refine Jl.nil ?_
            refine Jq.thenN ?_
            refine Jc.cond rfl (fun h2 => ?_) (fun h2 => ?_)
            · try replace h2 := of_decide_eq_true h2
              have hlt : k < c.bs.length := by omega
              have hlt2 : k < (tkN c i).bs.length := by omega
              have hget := tkN_get c i k hlt
              refine Jc.skip ?_
              refine Jq.thenN ?_
              refine Jc.seq ?_
              refine Jc.block ?_
              refine Jc.seq ?_
              refine Jc.region ?_
              refine Jl.pv (PR.fieldAddr rfl tfl24_0) ?_
              refine Jl.pv (PR.load1 rfl tsh22 (by repeat (first | exact Has.here | apply Has.there)) (by rfl)) ?_
              refine Jl.pv (PR.move rfl) ?_
              refine Jl.pv (PR.idx k rfl rfl tsl22 (by repeat (first | exact Mem.here | apply Mem.there)) (bxsV_len _) (by omega) rfl hlt) ?_
              refine Jl.pv (PR.loadRA rfl tsh36 (by repeat (first | exact Mem.here | apply Mem.there)) (by decide) (bxs_at hlt)) ?_
              refine Jl.alloc tze36 ?_
              intro b8
              refine Jl.storeW rfl tsh36 rfl (by rfl) (by first | exact Cl.cs_one _ _ | simp [Value.oneCell', Bx.cs]) (by repeat (first | exact Swap.here | apply Swap.there)) (by rfl) ?_
              refine Jl.nil ?_
              refine Jq.thenN ?_
              refine Jc.seq ?_
              refine Jc.seq ?_
              refine Jc.region ?_
              refine Jl.pv (PR.fieldAddr rfl tfl36_8) ?_
              refine Jl.pv (PR.load1 rfl tsh5 (by repeat (first | exact Has.here | apply Has.there)) (by rfl)) ?_
              refine Jl.pv (PR.eql _ rfl rfl rfl) ?_
              refine Jl.pv (PR.move rfl) ?_
              refine Jl.bsplit (fun g81 => ?_) (fun g81 => ?_)
              · try replace g81 := of_decide_eq_true g81
                refine Jl.on rfl rfl ?_
                refine Jl.pv (PR.move rfl) ?_
                refine Jl.on rfl rfl ?_
                refine Jl.pv (PR.gtr _ rfl rfl rfl) ?_
                refine Jl.pv (PR.pickT rfl rfl) ?_
                refine Jl.pv (PR.move rfl) ?_
                refine Jl.bsplit (fun g85 => ?_) (fun g85 => ?_)
                · try replace g85 := of_decide_eq_true g85
                  refine Jl.on rfl rfl ?_
                  refine Jl.pv (PR.fieldAddr rfl tfl36_9) ?_
                  refine Jl.on rfl rfl ?_
                  refine Jl.pv (PR.load1 rfl tsh3 (by repeat (first | exact Has.here | apply Has.there)) (by rfl)) ?_
                  refine Jl.on rfl rfl ?_
                  refine Jl.pv (PR.fieldAddr rfl tfl24_3) ?_
                  refine Jl.on rfl rfl ?_
                  refine Jl.pv (PR.load1 rfl tsh3 (by repeat (first | exact Has.here | apply Has.there)) (by rfl)) ?_
                  refine Jl.on rfl rfl ?_
                  refine Jl.pv (PR.leq _ rfl rfl rfl) ?_
                  refine Jl.pv (PR.pickT rfl rfl) ?_
                  refine Jl.nil ?_
                  refine Jq.thenN ?_
                  refine Jc.cond rfl (fun h3 => ?_) (fun h3 => ?_)
                  · try replace h3 := of_decide_eq_true h3
                    have hx : (tkN c i).bs[k] = { c.bs[k] with lb := 0 } := by rw [hget, if_neg (by omega)]; exact tick_yes g81 h3
                    refine Jc.region ?_
                    refine Jl.pv (PR.fieldAddr rfl tfl36_8) ?_
                    refine Jl.store1 rfl tsh5 rfl (by rfl) (by repeat (first | exact Swap.here | apply Swap.there)) (by rfl) ?_
                    refine Jl.nil ?_
                    refine Jq.thenN ?_
                    refine Jc.seq ?_
                    refine Jc.drawn [0, 1, 0, 7, 15, 0, 63] ([(0, false), (1, false), (2, false), (3, false), (4, false), (5, false), (6, false)], []) [] tmx (by kernel_rfl) ?_
                    refine Dh.JH.nil ?_
                    refine Dh.JB.pv rfl trivial (fun _ => PR.fieldAddr rfl tfl24_0) ?_
                    refine Dh.JB.rd [.blk _ _ _] rfl trivial (by repeat (first | exact Take.nil | apply Take.cons (by repeat (first | exact Del.here | apply Del.there)))) (fun _ => PR.load1 rfl tsh22 Has.here (by rfl)) ?_
                    refine Dh.JB.pv rfl trivial (fun _ => PR.move rfl) ?_
                    refine Dh.JB.pv rfl trivial (fun _ => PR.idx k rfl rfl tsl22 (by repeat (first | exact Mem.here | apply Mem.there)) (bxsV_len _) (by omega) rfl hlt2) ?_
                    refine Dh.JB.pv rfl trivial (fun _ => PR.loadRA rfl tsh36 (by repeat (first | exact Mem.here | apply Mem.there)) (by decide) (bxs_at hlt2)) ?_
                    refine Dh.JB.rd [.blk _ _ _] rfl trivial (by repeat (first | exact Take.nil | apply Take.cons (by repeat (first | exact Del.here | apply Del.there)))) (fun _ => PR.loadW rfl tsh36 Has.here (by rfl)) ?_
                    refine Dh.JB.pv rfl trivial (fun _ => PR.neqA (xs := (tkN c i).bs[k].cs) (ys := ({ c.bs[k] with lb := 0 } : Bx).cs) false rfl rfl teq36 (by rfl) (by rw [hx]; simp)) ?_
                    refine Dh.JB.nil ?_
                    refine Dh.JL.nil ?_
                    refine Jq.thenN ?_
                    refine Jc.condF rfl ?_
                    refine Jc.skip ?_
                    refine Jq.blkN ?_
                    refine Jq.thenN ?_
                    refine Jc.region ?_
                    refine Jl.pv (PR.move rfl) ?_
                    refine Jl.pv (PR.add ((k + 1 : Nat) : Int) rfl rfl (by rw [w64 (by omega) (by omega)]; rfl)) ?_
                    refine Jl.pv (PR.assign rfl) ?_
                    refine Jl.nil ?_
                    exact Jq.againT ⟨k + 1, hlt⟩ (by simp only; omega) (by repeat (first | exact trivial | refine And.intro rfl ?_)) (by repeat (first | exact Take.nil | apply Take.cons (by repeat (first | exact Del.here | apply Del.there)))) (by repeat (first | exact trivial | refine And.intro (by repeat (first | exact Mem.here | apply Mem.there)) ?_))
                  · try replace h3 := of_decide_eq_false h3
                    have hx : (tkN c i).bs[k] = c.bs[k] := by rw [hget, if_neg (by omega)]; exact tick_no (fun h => h3 h.2)
                    refine Jc.skip ?_
                    refine Jq.thenN ?_
                    refine Jc.seq ?_
                    refine Jc.drawn [0, 1, 0, 7, 15, 0, 63] ([(0, false), (1, false), (2, false), (3, false), (4, false), (5, false), (6, false)], []) [] tmx (by kernel_rfl) ?_
                    refine Dh.JH.nil ?_
                    refine Dh.JB.pv rfl trivial (fun _ => PR.fieldAddr rfl tfl24_0) ?_
                    refine Dh.JB.rd [.blk _ _ _] rfl trivial (by repeat (first | exact Take.nil | apply Take.cons (by repeat (first | exact Del.here | apply Del.there)))) (fun _ => PR.load1 rfl tsh22 Has.here (by rfl)) ?_
                    refine Dh.JB.pv rfl trivial (fun _ => PR.move rfl) ?_
                    refine Dh.JB.pv rfl trivial (fun _ => PR.idx k rfl rfl tsl22 (by repeat (first | exact Mem.here | apply Mem.there)) (bxsV_len _) (by omega) rfl hlt2) ?_
                    refine Dh.JB.pv rfl trivial (fun _ => PR.loadRA rfl tsh36 (by repeat (first | exact Mem.here | apply Mem.there)) (by decide) (bxs_at hlt2)) ?_
                    refine Dh.JB.rd [.blk _ _ _] rfl trivial (by repeat (first | exact Take.nil | apply Take.cons (by repeat (first | exact Del.here | apply Del.there)))) (fun _ => PR.loadW rfl tsh36 Has.here (by rfl)) ?_
                    refine Dh.JB.pv rfl trivial (fun _ => PR.neqA (xs := (tkN c i).bs[k].cs) (ys := c.bs[k].cs) false rfl rfl teq36 (by rfl) (by rw [hx]; simp)) ?_
                    refine Dh.JB.nil ?_
                    refine Dh.JL.nil ?_
                    refine Jq.thenN ?_
                    refine Jc.condF rfl ?_
                    refine Jc.skip ?_
                    refine Jq.blkN ?_
                    refine Jq.thenN ?_
                    refine Jc.region ?_
                    refine Jl.pv (PR.move rfl) ?_
                    refine Jl.pv (PR.add ((k + 1 : Nat) : Int) rfl rfl (by rw [w64 (by omega) (by omega)]; rfl)) ?_
                    refine Jl.pv (PR.assign rfl) ?_
                    refine Jl.nil ?_
                    exact Jq.againT ⟨k + 1, hlt⟩ (by simp only; omega) (by repeat (first | exact trivial | refine And.intro rfl ?_)) (by repeat (first | exact Take.nil | apply Take.cons (by repeat (first | exact Del.here | apply Del.there)))) (by repeat (first | exact trivial | refine And.intro (by repeat (first | exact Mem.here | apply Mem.there)) ?_))
                · try replace g85 := of_decide_eq_false g85
                  have hx : (tkN c i).bs[k] = c.bs[k] := by rw [hget, if_pos (by omega)]
                  refine Jl.offS rfl rfl rfl ?_
                  refine Jl.offS rfl rfl rfl ?_
                  refine Jl.offS rfl rfl rfl ?_
                  refine Jl.offS rfl rfl rfl ?_
                  refine Jl.offS rfl rfl rfl ?_
                  refine Jl.pv (PR.pickF rfl rfl) ?_
                  refine Jl.nil ?_
                  refine Jq.thenN ?_
                  refine Jc.condF rfl ?_
                  refine Jc.skip ?_
                  refine Jq.thenN ?_
                  refine Jc.seq ?_
                  refine Jc.drawn [0, 1, 0, 7, 15, 0, 63] ([(0, false), (1, false), (2, false), (3, false), (4, false), (5, false), (6, false)], []) [] tmx (by kernel_rfl) ?_
                  refine Dh.JH.nil ?_
                  refine Dh.JB.pv rfl trivial (fun _ => PR.fieldAddr rfl tfl24_0) ?_
                  refine Dh.JB.rd [.blk _ _ _] rfl trivial (by repeat (first | exact Take.nil | apply Take.cons (by repeat (first | exact Del.here | apply Del.there)))) (fun _ => PR.load1 rfl tsh22 Has.here (by rfl)) ?_
                  refine Dh.JB.pv rfl trivial (fun _ => PR.move rfl) ?_
                  refine Dh.JB.pv rfl trivial (fun _ => PR.idx k rfl rfl tsl22 (by repeat (first | exact Mem.here | apply Mem.there)) (bxsV_len _) (by omega) rfl hlt2) ?_
                  refine Dh.JB.pv rfl trivial (fun _ => PR.loadRA rfl tsh36 (by repeat (first | exact Mem.here | apply Mem.there)) (by decide) (bxs_at hlt2)) ?_
                  refine Dh.JB.rd [.blk _ _ _] rfl trivial (by repeat (first | exact Take.nil | apply Take.cons (by repeat (first | exact Del.here | apply Del.there)))) (fun _ => PR.loadW rfl tsh36 Has.here (by rfl)) ?_
                  refine Dh.JB.pv rfl trivial (fun _ => PR.neqA (xs := (tkN c i).bs[k].cs) (ys := c.bs[k].cs) false rfl rfl teq36 (by rfl) (by rw [hx]; simp)) ?_
                  refine Dh.JB.nil ?_
                  refine Dh.JL.nil ?_
                  refine Jq.thenN ?_
                  refine Jc.condF rfl ?_
                  refine Jc.skip ?_
                  refine Jq.blkN ?_
                  refine Jq.thenN ?_
                  refine Jc.region ?_
                  refine Jl.pv (PR.move rfl) ?_
                  refine Jl.pv (PR.add ((k + 1 : Nat) : Int) rfl rfl (by rw [w64 (by omega) (by omega)]; rfl)) ?_
                  refine Jl.pv (PR.assign rfl) ?_
                  refine Jl.nil ?_
                  exact Jq.againT ⟨k + 1, hlt⟩ (by simp only; omega) (by repeat (first | exact trivial | refine And.intro rfl ?_)) (by repeat (first | exact Take.nil | apply Take.cons (by repeat (first | exact Del.here | apply Del.there)))) (by repeat (first | exact trivial | refine And.intro (by repeat (first | exact Mem.here | apply Mem.there)) ?_))
              · try replace g81 := of_decide_eq_false g81
                have hx : (tkN c i).bs[k] = c.bs[k] := by rw [hget]; split; rfl; exact tick_no (fun h => g81 h.1)
                refine Jl.offS rfl rfl rfl ?_
                refine Jl.offS rfl rfl rfl ?_
                refine Jl.pv (PR.pickF rfl rfl) ?_
                refine Jl.pv (PR.move rfl) ?_
                refine Jl.offS rfl rfl rfl ?_
                refine Jl.offS rfl rfl rfl ?_
                refine Jl.offS rfl rfl rfl ?_
                refine Jl.offS rfl rfl rfl ?_
                refine Jl.offS rfl rfl rfl ?_
                refine Jl.pv (PR.pickF rfl rfl) ?_
                refine Jl.nil ?_
                refine Jq.thenN ?_
                refine Jc.condF rfl ?_
                refine Jc.skip ?_
                refine Jq.thenN ?_
                refine Jc.seq ?_
                refine Jc.drawn [0, 1, 0, 7, 15, 0, 63] ([(0, false), (1, false), (2, false), (3, false), (4, false), (5, false), (6, false)], []) [] tmx (by kernel_rfl) ?_
                refine Dh.JH.nil ?_
                refine Dh.JB.pv rfl trivial (fun _ => PR.fieldAddr rfl tfl24_0) ?_
                refine Dh.JB.rd [.blk _ _ _] rfl trivial (by repeat (first | exact Take.nil | apply Take.cons (by repeat (first | exact Del.here | apply Del.there)))) (fun _ => PR.load1 rfl tsh22 Has.here (by rfl)) ?_
                refine Dh.JB.pv rfl trivial (fun _ => PR.move rfl) ?_
                refine Dh.JB.pv rfl trivial (fun _ => PR.idx k rfl rfl tsl22 (by repeat (first | exact Mem.here | apply Mem.there)) (bxsV_len _) (by omega) rfl hlt2) ?_
                refine Dh.JB.pv rfl trivial (fun _ => PR.loadRA rfl tsh36 (by repeat (first | exact Mem.here | apply Mem.there)) (by decide) (bxs_at hlt2)) ?_
                refine Dh.JB.rd [.blk _ _ _] rfl trivial (by repeat (first | exact Take.nil | apply Take.cons (by repeat (first | exact Del.here | apply Del.there)))) (fun _ => PR.loadW rfl tsh36 Has.here (by rfl)) ?_
                refine Dh.JB.pv rfl trivial (fun _ => PR.neqA (xs := (tkN c i).bs[k].cs) (ys := c.bs[k].cs) false rfl rfl teq36 (by rfl) (by rw [hx]; simp)) ?_
                refine Dh.JB.nil ?_
                refine Dh.JL.nil ?_
                refine Jq.thenN ?_
                refine Jc.condF rfl ?_
                refine Jc.skip ?_
                refine Jq.blkN ?_
                refine Jq.thenN ?_
                refine Jc.region ?_
                refine Jl.pv (PR.move rfl) ?_
                refine Jl.pv (PR.add ((k + 1 : Nat) : Int) rfl rfl (by rw [w64 (by omega) (by omega)]; rfl)) ?_
                refine Jl.pv (PR.assign rfl) ?_
                refine Jl.nil ?_
                exact Jq.againT ⟨k + 1, hlt⟩ (by simp only; omega) (by repeat (first | exact trivial | refine And.intro rfl ?_)) (by repeat (first | exact Take.nil | apply Take.cons (by repeat (first | exact Del.here | apply Del.there)))) (by repeat (first | exact trivial | refine And.intro (by repeat (first | exact Mem.here | apply Mem.there)) ?_))
            · try replace h2 := of_decide_eq_false h2
              refine Jc.exit ?_
              refine Jq.thenX ?_
              refine Jq.thenX ?_
              refine Jq.blkX ?_
              refine Jq.thenN ?_
              refine Jc.seq ?_
              refine Jc.region ?_
              refine Jl.call (evwakes_ct bm) en8 (by rfl) (by repeat (first | exact Take.nil | apply Take.cons (by repeat (first | exact Del.here | apply Del.there)))) (by repeat (first | exact trivial | refine And.intro (by repeat (first | exact Mem.here | apply Mem.there)) ?_)) ?_
              rintro ⟨⟩
              refine Jl.pv (PR.assign rfl) ?_
              refine Jl.nil ?_
              refine Jq.thenN ?_
              refine Jc.ret ?_
              exact Jq.fin () (.inl rfl) rfl (RetVs.tmp rfl RetVs.nil) rfl (by repeat (first | exact Take.nil | apply Take.cons (by repeat (first | exact Del.here | apply Del.there)))) (by repeat (first | exact trivial | refine And.intro (by repeat (first | exact Mem.here | apply Mem.there)) ?_))
end Go.Proofs.YtakkoandmkomdaaDoor
