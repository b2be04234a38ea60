/-
Contracts of the reference of events.
-/
import Derived.Test.YtakkoandmkomdaaDoorEvB
namespace Go.Proofs.YtakkoandmkomdaaDoor
set_option linter.unusedVariables false
open Go.RowKit
attribute [local irreducible] Res.blk Res.row Fact.rd Res.mapI
theorem r10number_ct (n : Int) : Ct Tryd.prog 24 [.int .i64 n] [] [] (fun _ : Unit => .bool (okN n)) (fun _ => []) (fun _ => []) := by
  refine Ct.of _ Tryd.func24 Tryd.ntmps24 rfl rfl (fun X W => ?_)
  refine Jc.seq ?_
  refine Jc.region ?_
  refine Jl.pv (PR.assign rfl) ?_
  refine Jl.nil ?_
  refine Jq.thenN ?_
  refine Jc.seq ?_
  refine Jc.region ?_
  refine Jl.pv (PR.move rfl) ?_
  refine Jl.pv (PR.geq _ rfl rfl rfl) ?_
  refine Jl.pv (PR.move rfl) ?_
  refine Jl.bsplit (fun g5 => ?_) (fun g5 => ?_)
  · try replace g5 := of_decide_eq_true g5
    refine Jl.on rfl rfl ?_
    refine Jl.pv (PR.move rfl) ?_
    refine Jl.on rfl rfl ?_
    refine Jl.pv (PR.leq _ rfl rfl rfl) ?_
    refine Jl.pv (PR.pickT rfl rfl) ?_
    refine Jl.pv (PR.assign rfl) ?_
    refine Jl.nil ?_
    refine Jq.thenN ?_
    refine Jc.ret ?_
    exact Jq.fin () (.inl rfl) rfl (RetVs.tmp rfl RetVs.nil) (congrArg Value.bool (by rw [Bool.eq_iff_iff]; simp [okN]; omega)) (by repeat (first | exact Take.nil | apply Take.cons (by repeat (first | exact Del.here | apply Del.there)))) (by repeat (first | exact trivial | refine And.intro (by repeat (first | exact Mem.here | apply Mem.there)) ?_))
  · try replace g5 := of_decide_eq_false g5
    refine Jl.offS rfl rfl rfl ?_
    refine Jl.offS rfl rfl rfl ?_
    refine Jl.pv (PR.pickF rfl rfl) ?_
    refine Jl.pv (PR.assign rfl) ?_
    refine Jl.nil ?_
    refine Jq.thenN ?_
    refine Jc.ret ?_
    exact Jq.fin () (.inl rfl) rfl (RetVs.tmp rfl RetVs.nil) (congrArg Value.bool (by rw [Bool.eq_iff_iff]; simp [okN]; omega)) (by repeat (first | exact Take.nil | apply Take.cons (by repeat (first | exact Del.here | apply Del.there)))) (by repeat (first | exact trivial | refine And.intro (by repeat (first | exact Mem.here | apply Mem.there)) ?_))
theorem rstray_ct (c : Cl) (x : AdC) (v : Int) (t : Bool) (hn : c.bs.length ≤ 1000000) : Ct Tryd.prog 22 [c.v x, .int .i64 v, .bool t] [c.row x] [] (strayC c v t).v (fun y => [(strayC c v t).row y]) (fun _ => []) := by
  by_cases hs : c.bs.length < 60 ∧ okN v = true
  · rw [show strayC c v t = { c with bs := c.bs ++ [Bx.stray c.bs.length v t] } from if_pos hs]
    refine Ct.of _ Tryd.func22 Tryd.ntmps22 rfl rfl (fun X W => ?_)
    refine Jc.seq ?_
    refine Jc.region ?_
    refine Jl.box rfl (by rfl) ?_
    intro b3
    refine Jl.alloc tze24 ?_
    intro b6
    refine Jl.nil ?_
    refine Jq.thenN ?_
    refine Jc.seq ?_
    refine Jc.seq ?_
    refine Jc.region ?_
    refine Jl.pv (PR.fieldAddr rfl tfl24_0) ?_
    refine Jl.pv (PR.load1 rfl tsh22 (by repeat (first | exact Has.here | apply Has.there)) (by rfl)) ?_
    refine Jl.pv (PR.len rfl tsl22) ?_
    refine Jl.pv (PR.lss true rfl rfl (by simp; omega)) ?_
    refine Jl.pv (PR.move rfl) ?_
    refine Jl.on rfl rfl ?_
    refine Jl.pv (PR.move rfl) ?_
    refine Jl.on rfl rfl ?_
    refine Jl.call (r10number_ct v) en24 (by rfl) (by repeat (first | exact Take.nil | apply Take.cons (by repeat (first | exact Del.here | apply Del.there)))) (by repeat (first | exact trivial | refine And.intro (by repeat (first | exact Mem.here | apply Mem.there)) ?_)) ?_
    rintro ⟨⟩
    refine Jl.as (.bool true) (congrArg Value.bool hs.2) ?_
    refine Jl.pv (PR.pickT rfl rfl) ?_
    refine Jl.nil ?_
    refine Jq.thenN ?_
    refine Jc.condT rfl ?_
    refine Jc.region ?_
    refine Jl.pv (PR.fieldAddr rfl tfl24_0) ?_
    refine Jl.pv (PR.load1 rfl tsh22 (by repeat (first | exact Has.here | apply Has.there)) (by rfl)) ?_
    refine Jl.pv (PR.fieldAddr rfl tfl24_0) ?_
    refine Jl.pv (PR.load1 rfl tsh22 (by repeat (first | exact Has.here | apply Has.there)) (by rfl)) ?_
    refine Jl.pv (PR.len rfl tsl22) ?_
    refine Jl.pv (PR.add ((c.bs.length : Int) + 1) rfl rfl (w64 (by omega) (by omega))) ?_
    refine Jl.pv (PR.move rfl) ?_
    refine Jl.pv (PR.move rfl) ?_
    refine Jl.pv (PR.build (by rfl) tze36 tpl36_0_2_4_5_7 (by rfl)) ?_
    refine Jl.buildSlice (by rfl) tsl22 tzr22_1 (by rfl) (by rfl) ?_
    intro b24
    refine Jl.seal (by repeat (first | exact Del.here | apply Del.there)) ?_
    refine Jl.append (c.bs ++ [Bx.stray c.bs.length v t]).length (bxsV (c.bs ++ [Bx.stray c.bs.length v t])) rfl rfl rfl tsl22 tze36 (by rfl) (by decide) tby36 (fun _ _ => (by repeat (first | exact Swap.here | apply Swap.there))) (by repeat (first | exact Mem.here | apply Mem.there)) (by simp) (by rw [bxsV_app]; rfl) (by simp) (by simp [Value.oneCell']) (by omega) (by decide) ?_
    intro A25 c25
    refine Jl.pv (PR.fieldAddr rfl tfl24_0) ?_
    refine Jl.store1 rfl tsh22 rfl (by rfl) (by repeat (first | exact Swap.here | apply Swap.there)) (by rfl) ?_
    refine Jl.nil ?_
    refine Jq.thenN ?_
    refine Jc.seq ?_
    refine Jc.region ?_
    refine Jl.pv (PR.loadW rfl tsh24 (by repeat (first | exact Has.here | apply Has.there)) (by rfl)) ?_
    refine Jl.storeW rfl tsh24 rfl (by rfl) (by first | exact Cl.cs_one _ _ | simp [Value.oneCell', Bx.cs, Cl.cs]) (by repeat (first | exact Swap.here | apply Swap.there)) (by rfl) ?_
    refine Jl.nil ?_
    refine Jq.thenN ?_
    refine Jc.ret ?_
    exact Jq.fin (A25, c25) (.inl rfl) rfl (RetVs.cellA rfl (by repeat (first | exact Has.here | apply Has.there)) tsh24 (by rfl) RetVs.nil) rfl (by repeat (first | exact Take.nil | apply Take.cons (by repeat (first | exact Del.here | apply Del.there)))) (by repeat (first | exact trivial | refine And.intro (by repeat (first | exact Mem.here | apply Mem.there)) ?_))
  · rw [show strayC c v t = c from if_neg hs]
    refine Ct.of _ Tryd.func22 Tryd.ntmps22 rfl rfl (fun X W => ?_)
    refine Jc.seq ?_
    refine Jc.region ?_
    refine Jl.box rfl (by rfl) ?_
    intro b3
    refine Jl.alloc tze24 ?_
    intro b6
    refine Jl.nil ?_
    refine Jq.thenN ?_
    refine Jc.seq ?_
    refine Jc.seq ?_
    refine Jc.region ?_
    refine Jl.pv (PR.fieldAddr rfl tfl24_0) ?_
    refine Jl.pv (PR.load1 rfl tsh22 (by repeat (first | exact Has.here | apply Has.there)) (by rfl)) ?_
    refine Jl.pv (PR.len rfl tsl22) ?_
    refine Jl.pv (PR.lss _ rfl rfl rfl) ?_
    refine Jl.pv (PR.move rfl) ?_
    refine Jl.bsplit (fun g11 => ?_) (fun g11 => ?_)
    · try replace g11 := of_decide_eq_true g11
      have ho : okN v = false := by simpa using fun h => hs ⟨by omega, h⟩
      refine Jl.on rfl rfl ?_
      refine Jl.pv (PR.move rfl) ?_
      refine Jl.on rfl rfl ?_
      refine Jl.call (r10number_ct v) en24 (by rfl) (by repeat (first | exact Take.nil | apply Take.cons (by repeat (first | exact Del.here | apply Del.there)))) (by repeat (first | exact trivial | refine And.intro (by repeat (first | exact Mem.here | apply Mem.there)) ?_)) ?_
      rintro ⟨⟩
      refine Jl.as (.bool false) (congrArg Value.bool ho) ?_
      refine Jl.pv (PR.pickT rfl rfl) ?_
      refine Jl.nil ?_
      refine Jq.thenN ?_
      refine Jc.condF rfl ?_
      refine Jc.skip ?_
      refine Jq.thenN ?_
      refine Jc.seq ?_
      refine Jc.region ?_
      refine Jl.pv (PR.loadW rfl tsh24 (by repeat (first | exact Has.here | apply Has.there)) (by rfl)) ?_
      refine Jl.storeW rfl tsh24 rfl (by rfl) (by first | exact Cl.cs_one _ _ | simp [Value.oneCell', Bx.cs, Cl.cs]) (by repeat (first | exact Swap.here | apply Swap.there)) (by rfl) ?_
      refine Jl.nil ?_
      refine Jq.thenN ?_
      refine Jc.ret ?_
      exact Jq.fin x (.inl rfl) rfl (RetVs.cellA rfl (by repeat (first | exact Has.here | apply Has.there)) tsh24 (by rfl) RetVs.nil) rfl (by repeat (first | exact Take.nil | apply Take.cons (by repeat (first | exact Del.here | apply Del.there)))) (by repeat (first | exact trivial | refine And.intro (by repeat (first | exact Mem.here | apply Mem.there)) ?_))
    · try replace g11 := of_decide_eq_false g11
      refine Jl.offS rfl rfl rfl ?_
      refine Jl.offS rfl rfl rfl ?_
      refine Jl.pv (PR.pickF rfl rfl) ?_
      refine Jl.nil ?_
      refine Jq.thenN ?_
      refine Jc.condF rfl ?_
      refine Jc.skip ?_
      refine Jq.thenN ?_
      refine Jc.seq ?_
      refine Jc.region ?_
      refine Jl.pv (PR.loadW rfl tsh24 (by repeat (first | exact Has.here | apply Has.there)) (by rfl)) ?_
      refine Jl.storeW rfl tsh24 rfl (by rfl) (by first | exact Cl.cs_one _ _ | simp [Value.oneCell', Bx.cs, Cl.cs]) (by repeat (first | exact Swap.here | apply Swap.there)) (by rfl) ?_
      refine Jl.nil ?_
      refine Jq.thenN ?_
      refine Jc.ret ?_
      exact Jq.fin x (.inl rfl) rfl (RetVs.cellA rfl (by repeat (first | exact Has.here | apply Has.there)) tsh24 (by rfl) RetVs.nil) rfl (by repeat (first | exact Take.nil | apply Take.cons (by repeat (first | exact Del.here | apply Del.there)))) (by repeat (first | exact trivial | refine And.intro (by repeat (first | exact Mem.here | apply Mem.there)) ?_))
theorem rtick_ct (c : Cl) (x : AdC) (hn : c.bs.length ≤ 1000000) (hno : okN c.now = true) : Ct Tryd.prog 23 [c.v x] [c.row x] [] (tickC c).v (fun y => [(tickC c).row y]) (fun _ => []) := by
  have hno := okN_iff.1 hno
  by_cases hs : 1099511627776 ≤ c.now
  · rw [show tickC c = c from if_pos hs]
    refine Ct.of _ Tryd.func23 Tryd.ntmps23 rfl rfl (fun X W => ?_)
    refine Jc.seq ?_
    refine Jc.region ?_
    refine Jl.box rfl (by rfl) ?_
    intro b1
    refine Jl.alloc tze24 ?_
    intro b2
    refine Jl.nil ?_
    refine Jq.thenN ?_
    refine Jc.seq ?_
    refine Jc.seq ?_
    refine Jc.region ?_
    refine Jl.pv (PR.fieldAddr rfl tfl24_3) ?_
    refine Jl.pv (PR.load1 rfl tsh3 (by repeat (first | exact Has.here | apply Has.there)) (by rfl)) ?_
    refine Jl.pv (PR.geq true rfl rfl (by simp; omega)) ?_
    refine Jl.nil ?_
    refine Jq.thenN ?_
    refine Jc.condT rfl ?_
    refine Jc.seq ?_
    refine Jc.region ?_
    refine Jl.pv (PR.loadW rfl tsh24 (by repeat (first | exact Has.here | apply Has.there)) (by rfl)) ?_
    refine Jl.storeW rfl tsh24 rfl (by rfl) (by first | exact Cl.cs_one _ _ | simp [Value.oneCell', Bx.cs, Cl.cs]) (by repeat (first | exact Swap.here | apply Swap.there)) (by rfl) ?_
    refine Jl.nil ?_
    refine Jq.thenN ?_
    refine Jc.ret ?_
    refine Jq.thenR ?_
    exact Jq.fin x (.inl rfl) rfl (RetVs.cellA rfl (by repeat (first | exact Has.here | apply Has.there)) tsh24 (by rfl) RetVs.nil) rfl (by repeat (first | exact Take.nil | apply Take.cons (by repeat (first | exact Del.here | apply Del.there)))) (by repeat (first | exact trivial | refine And.intro (by repeat (first | exact Mem.here | apply Mem.there)) ?_))
  · rw [show tickC c = { c with now := c.now + 1, bs := c.bs.map (Bx.tick (c.now + 1)) } from if_neg hs]
    refine Ct.map (res := fun _ : Unit => ({ c with now := c.now + 1 } : Cl).v x) (Rout := fun _ => [.row 36 11 (.slice x.1 c.bs.length x.2) c.bs.length (bxsV (c.bs.map (Bx.tick (c.now + 1))))]) (post := fun _ => []) ?_ (fun _ => x) (fun _ => by simp [Cl.v, Cl.cs]) (fun _ => by simp [Cl.row]) (fun _ => rfl)
    obtain ⟨A, cA⟩ := x
    refine Ct.of _ Tryd.func23 Tryd.ntmps23 rfl rfl (fun X W => ?_)
    refine Jc.seq ?_
    refine Jc.region ?_
    refine Jl.box rfl (by rfl) ?_
    intro b1
    refine Jl.alloc tze24 ?_
    intro b2
    refine Jl.nil ?_
    refine Jq.thenN ?_
    refine Jc.seq ?_
    refine Jc.seq ?_
    refine Jc.region ?_
    refine Jl.pv (PR.fieldAddr rfl tfl24_3) ?_
    refine Jl.pv (PR.load1 rfl tsh3 (by repeat (first | exact Has.here | apply Has.there)) (by rfl)) ?_
    refine Jl.pv (PR.geq false rfl rfl (by simp; omega)) ?_
    refine Jl.nil ?_
    refine Jq.thenN ?_
    refine Jc.condF rfl ?_
    refine Jc.skip ?_
    refine Jq.thenN ?_
    refine Jc.seq ?_
    refine Jc.region ?_
    refine Jl.pv (PR.fieldAddr rfl tfl24_3) ?_
    refine Jl.pv (PR.load1 rfl tsh3 (by repeat (first | exact Has.here | apply Has.there)) (by rfl)) ?_
    refine Jl.pv (PR.add (c.now + 1) rfl rfl (w64 (by omega) (by omega))) ?_
    refine Jl.pv (PR.fieldAddr rfl tfl24_3) ?_
    refine Jl.store1 rfl tsh3 rfl (by rfl) (by repeat (first | exact Swap.here | apply Swap.there)) (by rfl) ?_
    refine Jl.nil ?_
    refine Jq.thenN ?_
    refine Jc.seq ?_
    refine Jc.seq ?_
    refine Jc.region ?_
    refine Jl.pv (PR.assign rfl) ?_
    refine Jl.nil ?_
    refine Jq.thenN ?_
    refine Jc.block ?_
    refine Jc.loop (σ := { k : Nat // k ≤ c.bs.length }) (fun s => [(3, .int .i64 (s.1 : Int)), (1, .pointer (some ⟨b1, 0, none⟩)), (2, .pointer (some ⟨b2, 0, none⟩))]) (fun s => [.blk b2 24 [.slice none 0 0, .int .i64 0, .int .i64 0, .int .i64 0, .bool false], .blk b1 24 (({ c with now := c.now + 1 } : Cl).cs (A, cA)), .row 36 11 (.slice A c.bs.length cA) c.bs.length (bxsV (tickL (c.now + 1) c.bs s.1))]) (fun _ => []) (fun s => c.bs.length - s.1) ⟨0, Nat.zero_le _⟩ (by repeat (first | exact trivial | refine And.intro rfl ?_)) rfl (by repeat (first | exact trivial | refine And.intro (by repeat (first | exact Mem.here | apply Mem.there)) ?_)) ?_
    rintro ⟨k, hk⟩
    show Jc _ _ _ _ _ _ [(3, Value.int .i64 (k : Int)), (1, .pointer (some ⟨b1, 0, none⟩)), (2, .pointer (some ⟨b2, 0, none⟩))] [.blk b2 24 [.slice none 0 0, .int .i64 0, .int .i64 0, .int .i64 0, .bool false], .blk b1 24 (({ c with now := c.now + 1 } : Cl).cs (A, cA)), .row 36 11 (.slice A c.bs.length cA) c.bs.length (bxsV (tickL (c.now + 1) c.bs k))] []
    refine Jc.seq ?_
    refine Jc.seq ?_
    refine Jc.region ?_
    refine Jl.pv (PR.move rfl) ?_
    refine Jl.pv (PR.fieldAddr rfl tfl24_0) ?_
    refine Jl.pv (PR.load1 rfl tsh22 (by repeat (first | exact Has.here | apply Has.there)) (by rfl)) ?_
    refine Jl.pv (PR.len rfl tsl22) ?_
    refine Jl.pv (PR.lss _ rfl rfl rfl) ?_
    refine Jl.nil ?_
    refine Jq.thenN ?_
    refine Jc.cond rfl (fun h0 => ?_) (fun h0 => ?_)
    · try replace h0 := of_decide_eq_true h0
      have h0' : (k : Int) < (c.bs.length : Int) := h0
      have hlt : k < c.bs.length := by omega
      have hlt2 : k < (tickL (c.now + 1) c.bs k).length := by rw [tickL_len]; exact hlt
      have hget := tickL_get (t := c.now + 1) hlt
      have hsz : k * 11 + 11 ≤ (bxsV (tickL (c.now + 1) c.bs k)).length := by rw [bxsV_len, tickL_len]; omega
      refine Jc.skip ?_
      refine Jq.thenN ?_
      refine Jc.seq ?_
      refine Jc.block ?_
      refine Jc.seq ?_
      refine Jc.drawn [0, 1, 0, 7, 15, 31, 63, 127, 255, 511, 255, 2047, 4095, 8191, 255, 16639, 65535, 131071] ([(0, false), (1, false), (2, false), (3, false), (4, false), (5, false), (6, false), (7, false), (8, false), (9, false), (10, false), (11, false), (12, false), (13, false), (14, false), (15, false), (16, false), (17, false)], []) [] tmx (by kernel_rfl) ?_
      refine Dh.JH.nil ?_
      refine Dh.JB.pv rfl trivial (fun _ => PR.fieldAddr rfl tfl24_0) ?_
      refine Dh.JB.rd [.blk _ _ _] rfl trivial (by repeat (first | exact Take.nil | apply Take.cons (by repeat (first | exact Del.here | apply Del.there)))) (fun _ => PR.load1 rfl tsh22 Has.here (by rfl)) ?_
      refine Dh.JB.pv rfl trivial (fun _ => PR.move rfl) ?_
      refine Dh.JB.rd [.row _ _ _ _ _] rfl trivial (by repeat (first | exact Take.nil | apply Take.cons (by repeat (first | exact Del.here | apply Del.there)))) (fun _ => PR.idxO k rfl rfl tsl22 Del.here (by decide) rfl hlt) ?_
      refine Dh.JB.rd [.row _ _ _ _ _] rfl trivial (by repeat (first | exact Take.nil | apply Take.cons (by repeat (first | exact Del.here | apply Del.there)))) (fun _ => PR.fieldAddrO rfl tfl36_8 Del.here (by omega)) ?_
      refine Dh.JB.rd [.row _ _ _ _ _] rfl trivial (by repeat (first | exact Take.nil | apply Take.cons (by repeat (first | exact Del.here | apply Del.there)))) (fun _ => PR.loadO rfl tsh5 Del.here (bxs_f hlt2 8 (by rw [hget]; rfl))) ?_
      refine Dh.JB.pv rfl trivial (fun _ => PR.eql _ rfl rfl rfl) ?_
      refine Dh.JB.pv rfl trivial (fun _ => PR.move rfl) ?_
      refine Dh.JB.bsplit (fun g26 => ?_) (fun g26 => ?_)
      · try replace g26 := of_decide_eq_true g26
        refine Dh.JB.pv rfl ⟨_, rfl, rfl⟩ (fun _ => PR.fieldAddr rfl tfl24_0) ?_
        refine Dh.JB.rd [.blk _ _ _] rfl ⟨_, rfl, rfl⟩ (by repeat (first | exact Take.nil | apply Take.cons (by repeat (first | exact Del.here | apply Del.there)))) (fun _ => PR.load1 rfl tsh22 Has.here (by rfl)) ?_
        refine Dh.JB.pv rfl ⟨_, rfl, rfl⟩ (fun _ => PR.move rfl) ?_
        refine Dh.JB.rd [.row _ _ _ _ _] rfl ⟨_, rfl, rfl⟩ (by repeat (first | exact Take.nil | apply Take.cons (by repeat (first | exact Del.here | apply Del.there)))) (fun _ => PR.idxO k rfl rfl tsl22 Del.here (by decide) rfl hlt) ?_
        refine Dh.JB.rd [.row _ _ _ _ _] rfl ⟨_, rfl, rfl⟩ (by repeat (first | exact Take.nil | apply Take.cons (by repeat (first | exact Del.here | apply Del.there)))) (fun _ => PR.fieldAddrO rfl tfl36_9 Del.here (by omega)) ?_
        refine Dh.JB.rd [.row _ _ _ _ _] rfl ⟨_, rfl, rfl⟩ (by repeat (first | exact Take.nil | apply Take.cons (by repeat (first | exact Del.here | apply Del.there)))) (fun _ => PR.loadO rfl tsh3 Del.here (bxs_f hlt2 9 (by rw [hget]; rfl))) ?_
        refine Dh.JB.pv rfl ⟨_, rfl, rfl⟩ (fun _ => PR.fieldAddr rfl tfl24_3) ?_
        refine Dh.JB.rd [.blk _ _ _] rfl ⟨_, rfl, rfl⟩ (by repeat (first | exact Take.nil | apply Take.cons (by repeat (first | exact Del.here | apply Del.there)))) (fun _ => PR.load1 rfl tsh3 Has.here (by rfl)) ?_
        refine Dh.JB.pv rfl ⟨_, rfl, rfl⟩ (fun _ => PR.leq _ rfl rfl rfl) ?_
        refine Dh.JB.pv rfl trivial (fun _ => PR.pickT rfl rfl) ?_
        refine Dh.JB.nil ?_
        refine Dh.JL.nil ?_
        refine Jq.thenN ?_
        refine Jc.cond rfl (fun h1 => ?_) (fun h1 => ?_)
        · try replace h1 := of_decide_eq_true h1
          have ht := tick_yes g26 h1
          refine Jc.region ?_
          refine Jl.pv (PR.fieldAddr rfl tfl24_0) ?_
          refine Jl.pv (PR.load1 rfl tsh22 (by repeat (first | exact Has.here | apply Has.there)) (by rfl)) ?_
          refine Jl.pv (PR.move rfl) ?_
          refine Jl.pv (PR.idxO k rfl rfl tsl22 (by repeat (first | exact Del.here | apply Del.there)) (by decide) rfl hlt) ?_
          refine Jl.pv (PR.fieldAddrO rfl tfl36_8 (by repeat (first | exact Del.here | apply Del.there)) (by omega)) ?_
          refine Jl.storeO rfl tsh5 rfl (by rfl) (by repeat (first | exact Swap.here | apply Swap.there)) (by omega) (bxs_set hlt2 8 (by omega) _ { c.bs[k] with lb := 0 } (by rw [hget]; rfl)) ?_
          refine Jl.nil ?_
          refine Jq.blkN ?_
          refine Jq.thenN ?_
          refine Jc.region ?_
          refine Jl.pv (PR.move rfl) ?_
          refine Jl.pv (PR.add ((k + 1 : Nat) : Int) rfl rfl (by rw [w64 (by omega) (by omega)]; rfl)) ?_
          refine Jl.pv (PR.assign rfl) ?_
          refine Jl.nil ?_
          rw [← ht, tickL_next hlt]
          exact Jq.again ⟨k + 1, hlt⟩ (by simp only; omega) (by repeat (first | exact trivial | refine And.intro rfl ?_)) rfl (by repeat (first | exact trivial | refine And.intro (by repeat (first | exact Mem.here | apply Mem.there)) ?_))
        · try replace h1 := of_decide_eq_false h1
          have ht := tick_no (t := c.now + 1) (fun h => h1 h.2)
          refine Jc.skip ?_
          refine Jq.blkN ?_
          refine Jq.thenN ?_
          refine Jc.region ?_
          refine Jl.pv (PR.move rfl) ?_
          refine Jl.pv (PR.add ((k + 1 : Nat) : Int) rfl rfl (by rw [w64 (by omega) (by omega)]; rfl)) ?_
          refine Jl.pv (PR.assign rfl) ?_
          refine Jl.nil ?_
          rw [tickL_stay hlt ht]
          exact Jq.again ⟨k + 1, hlt⟩ (by simp only; omega) (by repeat (first | exact trivial | refine And.intro rfl ?_)) rfl (by repeat (first | exact trivial | refine And.intro (by repeat (first | exact Mem.here | apply Mem.there)) ?_))
      · try replace g26 := of_decide_eq_false g26
        have ht := tick_no (t := c.now + 1) (fun h => g26 h.1)
        refine Dh.JB.off rfl ⟨_, rfl, .inr rfl⟩ ?_
        refine Dh.JB.off rfl ⟨_, rfl, .inr rfl⟩ ?_
        refine Dh.JB.off rfl ⟨_, rfl, .inr rfl⟩ ?_
        refine Dh.JB.off rfl ⟨_, rfl, .inr rfl⟩ ?_
        refine Dh.JB.off rfl ⟨_, rfl, .inr rfl⟩ ?_
        refine Dh.JB.off rfl ⟨_, rfl, .inr rfl⟩ ?_
        refine Dh.JB.off rfl ⟨_, rfl, .inr rfl⟩ ?_
        refine Dh.JB.off rfl ⟨_, rfl, .inr rfl⟩ ?_
        refine Dh.JB.off rfl ⟨_, rfl, .inr rfl⟩ ?_
        refine Dh.JB.pv rfl trivial (fun _ => PR.pickF rfl rfl) ?_
        refine Dh.JB.nil ?_
        refine Dh.JL.nil ?_
        refine Jq.thenN ?_
        refine Jc.condF rfl ?_
        refine Jc.skip ?_
        refine Jq.blkN ?_
        refine Jq.thenN ?_
        refine Jc.region ?_
        refine Jl.pv (PR.move rfl) ?_
        refine Jl.pv (PR.add ((k + 1 : Nat) : Int) rfl rfl (by rw [w64 (by omega) (by omega)]; rfl)) ?_
        refine Jl.pv (PR.assign rfl) ?_
        refine Jl.nil ?_
        rw [tickL_stay hlt ht]
        exact Jq.again ⟨k + 1, hlt⟩ (by simp only; omega) (by repeat (first | exact trivial | refine And.intro rfl ?_)) rfl (by repeat (first | exact trivial | refine And.intro (by repeat (first | exact Mem.here | apply Mem.there)) ?_))
    · try replace h0 := of_decide_eq_false h0
      refine Jc.exit ?_
      refine Jq.thenX ?_
      refine Jq.thenX ?_
      refine Jq.blkX ?_
      refine Jq.thenN ?_
      refine Jc.seq ?_
      refine Jc.region ?_
      refine Jl.pv (PR.loadW rfl tsh24 (by repeat (first | exact Has.here | apply Has.there)) (by rfl)) ?_
      refine Jl.storeW rfl tsh24 rfl (by rfl) (by first | exact Cl.cs_one _ _ | simp [Value.oneCell', Bx.cs, Cl.cs]) (by repeat (first | exact Swap.here | apply Swap.there)) (by rfl) ?_
      refine Jl.nil ?_
      refine Jq.thenN ?_
      refine Jc.ret ?_
      have h0' : ¬ (k : Int) < (c.bs.length : Int) := h0
      rw [tickL_all (c.now + 1) c.bs (show c.bs.length ≤ k by omega)]
      exact Jq.fin () (.inl rfl) rfl (RetVs.cellA rfl (by repeat (first | exact Has.here | apply Has.there)) tsh24 (by rfl) RetVs.nil) rfl (by repeat (first | exact Take.nil | apply Take.cons (by repeat (first | exact Del.here | apply Del.there)))) (by repeat (first | exact trivial | refine And.intro (by repeat (first | exact Mem.here | apply Mem.there)) ?_))
theorem rfind_at {c : Cl} {x : AdC} {id n : Int} (h : fndI c.bs id = n) (hn : c.bs.length ≤ 1000000) : Ct Tryd.prog 19 [c.v x, .int .i64 id] [] [.rd x.1 (bxsV c.bs)] (fun _ : Unit => .int .i64 n) (fun _ => []) (fun _ => []) := by
  subst h; exact rfind_ct c x id hn

theorem revdo_no (c : Cl) (x : AdC) (e : Ev) (hn : c.bs.length ≤ 1000000) (hok : ¬ c.Ok) : Ct Tryd.prog 11 [c.v x, e.v] [] [.rd x.1 (bxsV c.bs)] (doE c e).v (fun y => [(doE c e).row y]) (fun _ => []) := by
  rw [doE_no hok]
  refine Ct.of _ Tryd.func11 Tryd.ntmps11 rfl rfl (fun X W => ?_)
  refine Jc.seq ?_
  refine Jc.region ?_
  refine Jl.box rfl (by rfl) ?_
  intro b2
  refine Jl.box rfl (by rfl) ?_
  intro b3
  refine Jl.alloc tze24 ?_
  intro b4
  refine Jl.nil ?_
  refine Jq.thenN ?_
  refine Jc.seq ?_
  refine Jc.region ?_
  refine Jl.pv (PR.loadW rfl tsh24 (by repeat (first | exact Has.here | apply Has.there)) (by rfl)) ?_
  refine Jl.call (rown_ct c x hn) en18 (by rfl) (by repeat (first | exact Take.nil | apply Take.cons (by repeat (first | exact Del.here | apply Del.there)))) (by repeat (first | exact trivial | refine And.intro (by repeat (first | exact Mem.here | apply Mem.there)) ?_)) ?_
  rintro ⟨A7, c7⟩
  refine Jl.storeW rfl tsh24 rfl (by rfl) (by first | exact Cl.cs_one _ _ | simp [Value.oneCell']) (by repeat (first | exact Swap.here | apply Swap.there)) (by rfl) ?_
  refine Jl.nil ?_
  refine Jq.thenN ?_
  refine Jc.seq ?_
  refine Jc.seq ?_
  refine Jc.region ?_
  refine Jl.pv (PR.loadW rfl tsh24 (by repeat (first | exact Has.here | apply Has.there)) (by rfl)) ?_
  refine Jl.calll (fs := []) (cs := []) (rright_ct c (A7, c7) hn) en16 rfl (by rfl) (by rfl) (by repeat (first | exact Take.nil | apply Take.cons (by repeat (first | exact Del.here | apply Del.there)))) (ls := [c.row (A7, c7)]) (by repeat (first | exact Take.nil | apply Take.cons (by repeat (first | exact Del.here | apply Del.there)))) (by repeat (first | exact Lends.nil | apply Lends.row | apply Lends.blk)) (by repeat (first | exact trivial | refine And.intro (by repeat (first | exact Mem.here | apply Mem.there)) ?_)) ?_
  rintro ⟨⟩
  refine Jl.as (.bool false) (congrArg Value.bool (Cl.ok_no hok)) ?_
  refine Jl.pv (PR.not rfl) ?_
  refine Jl.nil ?_
  refine Jq.thenN ?_
  refine Jc.condT rfl ?_
  refine Jc.seq ?_
  refine Jc.region ?_
  refine Jl.pv (PR.loadW rfl tsh24 (by repeat (first | exact Has.here | apply Has.there)) (by rfl)) ?_
  refine Jl.storeW rfl tsh24 rfl (by rfl) (by first | exact Cl.cs_one _ _ | simp [Value.oneCell']) (by repeat (first | exact Swap.here | apply Swap.there)) (by rfl) ?_
  refine Jl.nil ?_
  refine Jq.thenN ?_
  refine Jc.ret ?_
  refine Jq.thenR ?_
  exact Jq.fin (A7, c7) (.inl rfl) rfl (RetVs.cellA rfl (by repeat (first | exact Has.here | apply Has.there)) tsh24 (by rfl) RetVs.nil) rfl (by repeat (first | exact Take.nil | apply Take.cons (by repeat (first | exact Del.here | apply Del.there)))) (by repeat (first | exact trivial | refine And.intro (by repeat (first | exact Mem.here | apply Mem.there)) ?_))
theorem revdo_1 (c : Cl) (x : AdC) (e : Ev) (hn : c.bs.length ≤ 1000000) (hok : c.Ok) (hk : e.k = 1) : Ct Tryd.prog 11 [c.v x, e.v] [] [.rd x.1 (bxsV c.bs)] (doE c e).v (fun y => [(doE c e).row y]) (fun _ => []) := by
  rw [doE_ok hok, show happ c e = onB c e.a Bx.die by rw [happ, hk]; rfl]
  cases hf : fnd c.bs e.a with
  | none =>
    rw [onB_none hf]
    have hfi : fndI c.bs e.a = -1 := by rw [fndI, hf]
    refine Ct.of _ Tryd.func11 Tryd.ntmps11 rfl rfl (fun X W => ?_)
    refine Jc.seq ?_
    refine Jc.region ?_
    refine Jl.box rfl (by rfl) ?_
    intro b2
    refine Jl.box rfl (by rfl) ?_
    intro b3
    refine Jl.alloc tze24 ?_
    intro b4
    refine Jl.nil ?_
    refine Jq.thenN ?_
    refine Jc.seq ?_
    refine Jc.region ?_
    refine Jl.pv (PR.loadW rfl tsh24 (by repeat (first | exact Has.here | apply Has.there)) (by rfl)) ?_
    refine Jl.call (rown_ct c x hn) en18 (by rfl) (by repeat (first | exact Take.nil | apply Take.cons (by repeat (first | exact Del.here | apply Del.there)))) (by repeat (first | exact trivial | refine And.intro (by repeat (first | exact Mem.here | apply Mem.there)) ?_)) ?_
    rintro ⟨A7, c7⟩
    refine Jl.storeW rfl tsh24 rfl (by rfl) (by first | exact Cl.cs_one _ _ | simp [Value.oneCell']) (by repeat (first | exact Swap.here | apply Swap.there)) (by rfl) ?_
    refine Jl.nil ?_
    refine Jq.thenN ?_
    refine Jc.seq ?_
    refine Jc.seq ?_
    refine Jc.region ?_
    refine Jl.pv (PR.loadW rfl tsh24 (by repeat (first | exact Has.here | apply Has.there)) (by rfl)) ?_
    refine Jl.calll (fs := []) (cs := []) (rright_ct c (A7, c7) hn) en16 rfl (by rfl) (by rfl) (by repeat (first | exact Take.nil | apply Take.cons (by repeat (first | exact Del.here | apply Del.there)))) (ls := [c.row (A7, c7)]) (by repeat (first | exact Take.nil | apply Take.cons (by repeat (first | exact Del.here | apply Del.there)))) (by repeat (first | exact Lends.nil | apply Lends.row | apply Lends.blk)) (by repeat (first | exact trivial | refine And.intro (by repeat (first | exact Mem.here | apply Mem.there)) ?_)) ?_
    rintro ⟨⟩
    refine Jl.as (.bool true) (congrArg Value.bool (Cl.ok_iff.2 hok)) ?_
    refine Jl.pv (PR.not rfl) ?_
    refine Jl.nil ?_
    refine Jq.thenN ?_
    refine Jc.condF rfl ?_
    refine Jc.skip ?_
    refine Jq.thenN ?_
    refine Jc.seq ?_
    refine Jc.region ?_
    refine Jl.pv (PR.loadW rfl tsh24 (by repeat (first | exact Has.here | apply Has.there)) (by rfl)) ?_
    refine Jl.pv (PR.fieldAddr rfl tfl26_1) ?_
    refine Jl.pv (PR.load1 rfl tsh3 (by repeat (first | exact Has.here | apply Has.there)) (by rfl)) ?_
    refine Jl.calll (fs := []) (cs := []) (rfind_at (x := (A7, c7)) hfi hn) en19 rfl (by rfl) (by rfl) (by repeat (first | exact Take.nil | apply Take.cons (by repeat (first | exact Del.here | apply Del.there)))) (ls := [c.row (A7, c7)]) (by repeat (first | exact Take.nil | apply Take.cons (by repeat (first | exact Del.here | apply Del.there)))) (by repeat (first | exact Lends.nil | apply Lends.row | apply Lends.blk)) (by repeat (first | exact trivial | refine And.intro (by repeat (first | exact Mem.here | apply Mem.there)) ?_)) ?_
    rintro ⟨⟩
    refine Jl.pv (PR.assign rfl) ?_
    refine Jl.nil ?_
    refine Jq.thenN ?_
    refine Jc.seq ?_
    refine Jc.seq ?_
    refine Jc.region ?_
    refine Jl.pv (PR.fieldAddr rfl tfl26_0) ?_
    refine Jl.pv (PR.load1 rfl tsh5 (by repeat (first | exact Has.here | apply Has.there)) (by rfl)) ?_
    refine Jl.nil ?_
    refine Jq.thenN ?_
    refine Jc.block ?_
    refine Jc.seq ?_
    refine Jc.region ?_
    refine Jl.pv (PR.eql true rfl rfl (by rw [hk]; rfl)) ?_
    refine Jl.pv (PR.assign rfl) ?_
    refine Jl.nil ?_
    refine Jq.thenN ?_
    refine Jc.condT rfl ?_
    refine Jc.seq ?_
    refine Jc.region ?_
    refine Jl.pv (PR.move rfl) ?_
    refine Jl.pv (PR.geq false rfl rfl (by decide)) ?_
    refine Jl.nil ?_
    refine Jq.thenN ?_
    refine Jc.condF rfl ?_
    refine Jc.skip ?_
    refine Jq.blkN ?_
    refine Jq.thenN ?_
    refine Jc.seq ?_
    refine Jc.region ?_
    refine Jl.pv (PR.loadW rfl tsh24 (by repeat (first | exact Has.here | apply Has.there)) (by rfl)) ?_
    refine Jl.storeW rfl tsh24 rfl (by rfl) (by first | exact Cl.cs_one _ _ | simp [Value.oneCell']) (by repeat (first | exact Swap.here | apply Swap.there)) (by rfl) ?_
    refine Jl.nil ?_
    refine Jq.thenN ?_
    refine Jc.ret ?_
    exact Jq.fin (A7, c7) (.inl rfl) rfl (RetVs.cellA rfl (by repeat (first | exact Has.here | apply Has.there)) tsh24 (by rfl) RetVs.nil) rfl (by repeat (first | exact Take.nil | apply Take.cons (by repeat (first | exact Del.here | apply Del.there)))) (by repeat (first | exact trivial | refine And.intro (by repeat (first | exact Mem.here | apply Mem.there)) ?_))
  | some i =>
    have hfi : fndI c.bs e.a = (i : Int) := by rw [fndI, hf]
    obtain ⟨hi, _, _⟩ := fnd_some hf
    rw [onB_some hf hi]
    refine Ct.map (res := fun y : AdC => c.v y) (Rout := fun y => [.row 36 11 (.slice y.1 c.bs.length y.2) c.bs.length (bxsV (c.bs.set i c.bs[i].die))]) (post := fun _ => []) ?_ (fun y => y) (fun _ => by simp [Cl.v, Cl.cs]) (fun _ => by simp [Cl.row]) (fun _ => rfl)
    refine Ct.of _ Tryd.func11 Tryd.ntmps11 rfl rfl (fun X W => ?_)
    refine Jc.seq ?_
    refine Jc.region ?_
    refine Jl.box rfl (by rfl) ?_
    intro b2
    refine Jl.box rfl (by rfl) ?_
    intro b3
    refine Jl.alloc tze24 ?_
    intro b4
    refine Jl.nil ?_
    refine Jq.thenN ?_
    refine Jc.seq ?_
    refine Jc.region ?_
    refine Jl.pv (PR.loadW rfl tsh24 (by repeat (first | exact Has.here | apply Has.there)) (by rfl)) ?_
    refine Jl.call (rown_ct c x hn) en18 (by rfl) (by repeat (first | exact Take.nil | apply Take.cons (by repeat (first | exact Del.here | apply Del.there)))) (by repeat (first | exact trivial | refine And.intro (by repeat (first | exact Mem.here | apply Mem.there)) ?_)) ?_
    rintro ⟨A7, c7⟩
    refine Jl.storeW rfl tsh24 rfl (by rfl) (by first | exact Cl.cs_one _ _ | simp [Value.oneCell']) (by repeat (first | exact Swap.here | apply Swap.there)) (by rfl) ?_
    refine Jl.nil ?_
    refine Jq.thenN ?_
    refine Jc.seq ?_
    refine Jc.seq ?_
    refine Jc.region ?_
    refine Jl.pv (PR.loadW rfl tsh24 (by repeat (first | exact Has.here | apply Has.there)) (by rfl)) ?_
    refine Jl.calll (fs := []) (cs := []) (rright_ct c (A7, c7) hn) en16 rfl (by rfl) (by rfl) (by repeat (first | exact Take.nil | apply Take.cons (by repeat (first | exact Del.here | apply Del.there)))) (ls := [c.row (A7, c7)]) (by repeat (first | exact Take.nil | apply Take.cons (by repeat (first | exact Del.here | apply Del.there)))) (by repeat (first | exact Lends.nil | apply Lends.row | apply Lends.blk)) (by repeat (first | exact trivial | refine And.intro (by repeat (first | exact Mem.here | apply Mem.there)) ?_)) ?_
    rintro ⟨⟩
    refine Jl.as (.bool true) (congrArg Value.bool (Cl.ok_iff.2 hok)) ?_
    refine Jl.pv (PR.not rfl) ?_
    refine Jl.nil ?_
    refine Jq.thenN ?_
    refine Jc.condF rfl ?_
    refine Jc.skip ?_
    refine Jq.thenN ?_
    refine Jc.seq ?_
    refine Jc.region ?_
    refine Jl.pv (PR.loadW rfl tsh24 (by repeat (first | exact Has.here | apply Has.there)) (by rfl)) ?_
    refine Jl.pv (PR.fieldAddr rfl tfl26_1) ?_
    refine Jl.pv (PR.load1 rfl tsh3 (by repeat (first | exact Has.here | apply Has.there)) (by rfl)) ?_
    refine Jl.calll (fs := []) (cs := []) (rfind_at (x := (A7, c7)) hfi hn) en19 rfl (by rfl) (by rfl) (by repeat (first | exact Take.nil | apply Take.cons (by repeat (first | exact Del.here | apply Del.there)))) (ls := [c.row (A7, c7)]) (by repeat (first | exact Take.nil | apply Take.cons (by repeat (first | exact Del.here | apply Del.there)))) (by repeat (first | exact Lends.nil | apply Lends.row | apply Lends.blk)) (by repeat (first | exact trivial | refine And.intro (by repeat (first | exact Mem.here | apply Mem.there)) ?_)) ?_
    rintro ⟨⟩
    refine Jl.pv (PR.assign rfl) ?_
    refine Jl.nil ?_
    refine Jq.thenN ?_
    refine Jc.seq ?_
    refine Jc.seq ?_
    refine Jc.region ?_
    refine Jl.pv (PR.fieldAddr rfl tfl26_0) ?_
    refine Jl.pv (PR.load1 rfl tsh5 (by repeat (first | exact Has.here | apply Has.there)) (by rfl)) ?_
    refine Jl.nil ?_
    refine Jq.thenN ?_
    refine Jc.block ?_
    refine Jc.seq ?_
    refine Jc.region ?_
    refine Jl.pv (PR.eql true rfl rfl (by rw [hk]; rfl)) ?_
    refine Jl.pv (PR.assign rfl) ?_
    refine Jl.nil ?_
    refine Jq.thenN ?_
    refine Jc.condT rfl ?_
    refine Jc.seq ?_
    refine Jc.region ?_
    refine Jl.pv (PR.move rfl) ?_
    refine Jl.pv (PR.geq true rfl rfl (by simp)) ?_
    refine Jl.nil ?_
    refine Jq.thenN ?_
    refine Jc.condT rfl ?_
    refine Jc.seq ?_
    refine Jc.region ?_
    refine Jl.pv (PR.fieldAddr rfl tfl24_0) ?_
    refine Jl.pv (PR.load1 rfl tsh22 (by repeat (first | exact Has.here | apply Has.there)) (by rfl)) ?_
    refine Jl.pv (PR.move rfl) ?_
    refine Jl.pv (PR.idxO i rfl rfl tsl22 (by repeat (first | exact Del.here | apply Del.there)) (by decide) rfl hi) ?_
    refine Jl.pv (PR.fieldAddrO rfl tfl36_6 (by repeat (first | exact Del.here | apply Del.there)) (by rw [bxsV_len]; omega)) ?_
    refine Jl.storeO rfl tsh4 rfl (by rfl) (by repeat (first | exact Swap.here | apply Swap.there)) (by rw [bxsV_len]; omega) (bxs_set hi 6 (by omega) _ { c.bs[i] with gone := true } rfl) ?_
    refine Jl.nil ?_
    refine Jq.thenN ?_
    refine Jc.seq ?_
    refine Jc.region ?_
    refine Jl.pv (PR.fieldAddr rfl tfl24_0) ?_
    refine Jl.pv (PR.load1 rfl tsh22 (by repeat (first | exact Has.here | apply Has.there)) (by rfl)) ?_
    refine Jl.pv (PR.move rfl) ?_
    refine Jl.pv (PR.idxO i rfl rfl tsl22 (by repeat (first | exact Del.here | apply Del.there)) (by decide) rfl hi) ?_
    refine Jl.pv (PR.fieldAddrO rfl tfl36_5 (by repeat (first | exact Del.here | apply Del.there)) (by rw [bxsV_len, List.length_set]; omega)) ?_
    refine Jl.storeO rfl tsh4 rfl (by rfl) (by repeat (first | exact Swap.here | apply Swap.there)) (by rw [bxsV_len, List.length_set]; omega) (bxs_set2 hi { c.bs[i] with gone := true } 5 (by omega) _ { c.bs[i] with gone := true, on := false } rfl) ?_
    refine Jl.nil ?_
    refine Jq.thenN ?_
    refine Jc.region ?_
    refine Jl.pv (PR.fieldAddr rfl tfl24_0) ?_
    refine Jl.pv (PR.load1 rfl tsh22 (by repeat (first | exact Has.here | apply Has.there)) (by rfl)) ?_
    refine Jl.pv (PR.move rfl) ?_
    refine Jl.pv (PR.idxO i rfl rfl tsl22 (by repeat (first | exact Del.here | apply Del.there)) (by decide) rfl hi) ?_
    refine Jl.pv (PR.fieldAddrO rfl tfl36_8 (by repeat (first | exact Del.here | apply Del.there)) (by rw [bxsV_len, List.length_set]; omega)) ?_
    refine Jl.storeO rfl tsh5 rfl (by rfl) (by repeat (first | exact Swap.here | apply Swap.there)) (by rw [bxsV_len, List.length_set]; omega) (bxs_set2 hi { c.bs[i] with gone := true, on := false } 8 (by omega) _ c.bs[i].die rfl) ?_
    refine Jl.nil ?_
    refine Jq.blkN ?_
    refine Jq.thenN ?_
    refine Jc.seq ?_
    refine Jc.region ?_
    refine Jl.pv (PR.loadW rfl tsh24 (by repeat (first | exact Has.here | apply Has.there)) (by rfl)) ?_
    refine Jl.storeW rfl tsh24 rfl (by rfl) (by first | exact Cl.cs_one _ _ | simp [Value.oneCell']) (by repeat (first | exact Swap.here | apply Swap.there)) (by rfl) ?_
    refine Jl.nil ?_
    refine Jq.thenN ?_
    refine Jc.ret ?_
    exact Jq.fin (A7, c7) (.inl rfl) rfl (RetVs.cellA rfl (by repeat (first | exact Has.here | apply Has.there)) tsh24 (by rfl) RetVs.nil) rfl (by repeat (first | exact Take.nil | apply Take.cons (by repeat (first | exact Del.here | apply Del.there)))) (by repeat (first | exact trivial | refine And.intro (by repeat (first | exact Mem.here | apply Mem.there)) ?_))
theorem revdo_2 (c : Cl) (x : AdC) (e : Ev) (hn : c.bs.length ≤ 1000000) (hok : c.Ok) (hk : e.k = 2) : Ct Tryd.prog 11 [c.v x, e.v] [] [.rd x.1 (bxsV c.bs)] (doE c e).v (fun y => [(doE c e).row y]) (fun _ => []) := by
  rw [doE_ok hok, show happ c e = onB c e.a Bx.flip by rw [happ, hk]; rfl]
  cases hf : fnd c.bs e.a with
  | none =>
    rw [onB_none hf]
    have hfi : fndI c.bs e.a = -1 := by rw [fndI, hf]
    refine Ct.of _ Tryd.func11 Tryd.ntmps11 rfl rfl (fun X W => ?_)
    refine Jc.seq ?_
    refine Jc.region ?_
    refine Jl.box rfl (by rfl) ?_
    intro b2
    refine Jl.box rfl (by rfl) ?_
    intro b3
    refine Jl.alloc tze24 ?_
    intro b4
    refine Jl.nil ?_
    refine Jq.thenN ?_
    refine Jc.seq ?_
    refine Jc.region ?_
    refine Jl.pv (PR.loadW rfl tsh24 (by repeat (first | exact Has.here | apply Has.there)) (by rfl)) ?_
    refine Jl.call (rown_ct c x hn) en18 (by rfl) (by repeat (first | exact Take.nil | apply Take.cons (by repeat (first | exact Del.here | apply Del.there)))) (by repeat (first | exact trivial | refine And.intro (by repeat (first | exact Mem.here | apply Mem.there)) ?_)) ?_
    rintro ⟨A7, c7⟩
    refine Jl.storeW rfl tsh24 rfl (by rfl) (by first | exact Cl.cs_one _ _ | simp [Value.oneCell']) (by repeat (first | exact Swap.here | apply Swap.there)) (by rfl) ?_
    refine Jl.nil ?_
    refine Jq.thenN ?_
    refine Jc.seq ?_
    refine Jc.seq ?_
    refine Jc.region ?_
    refine Jl.pv (PR.loadW rfl tsh24 (by repeat (first | exact Has.here | apply Has.there)) (by rfl)) ?_
    refine Jl.calll (fs := []) (cs := []) (rright_ct c (A7, c7) hn) en16 rfl (by rfl) (by rfl) (by repeat (first | exact Take.nil | apply Take.cons (by repeat (first | exact Del.here | apply Del.there)))) (ls := [c.row (A7, c7)]) (by repeat (first | exact Take.nil | apply Take.cons (by repeat (first | exact Del.here | apply Del.there)))) (by repeat (first | exact Lends.nil | apply Lends.row | apply Lends.blk)) (by repeat (first | exact trivial | refine And.intro (by repeat (first | exact Mem.here | apply Mem.there)) ?_)) ?_
    rintro ⟨⟩
    refine Jl.as (.bool true) (congrArg Value.bool (Cl.ok_iff.2 hok)) ?_
    refine Jl.pv (PR.not rfl) ?_
    refine Jl.nil ?_
    refine Jq.thenN ?_
    refine Jc.condF rfl ?_
    refine Jc.skip ?_
    refine Jq.thenN ?_
    refine Jc.seq ?_
    refine Jc.region ?_
    refine Jl.pv (PR.loadW rfl tsh24 (by repeat (first | exact Has.here | apply Has.there)) (by rfl)) ?_
    refine Jl.pv (PR.fieldAddr rfl tfl26_1) ?_
    refine Jl.pv (PR.load1 rfl tsh3 (by repeat (first | exact Has.here | apply Has.there)) (by rfl)) ?_
    refine Jl.calll (fs := []) (cs := []) (rfind_at (x := (A7, c7)) hfi hn) en19 rfl (by rfl) (by rfl) (by repeat (first | exact Take.nil | apply Take.cons (by repeat (first | exact Del.here | apply Del.there)))) (ls := [c.row (A7, c7)]) (by repeat (first | exact Take.nil | apply Take.cons (by repeat (first | exact Del.here | apply Del.there)))) (by repeat (first | exact Lends.nil | apply Lends.row | apply Lends.blk)) (by repeat (first | exact trivial | refine And.intro (by repeat (first | exact Mem.here | apply Mem.there)) ?_)) ?_
    rintro ⟨⟩
    refine Jl.pv (PR.assign rfl) ?_
    refine Jl.nil ?_
    refine Jq.thenN ?_
    refine Jc.seq ?_
    refine Jc.seq ?_
    refine Jc.region ?_
    refine Jl.pv (PR.fieldAddr rfl tfl26_0) ?_
    refine Jl.pv (PR.load1 rfl tsh5 (by repeat (first | exact Has.here | apply Has.there)) (by rfl)) ?_
    refine Jl.nil ?_
    refine Jq.thenN ?_
    refine Jc.block ?_
    refine Jc.seq ?_
    refine Jc.region ?_
    refine Jl.pv (PR.eql false rfl rfl (by rw [hk]; rfl)) ?_
    refine Jl.pv (PR.assign rfl) ?_
    refine Jl.nil ?_
    refine Jq.thenN ?_
    refine Jc.condF rfl ?_
    refine Jc.seq ?_
    refine Jc.region ?_
    refine Jl.pv (PR.eql true rfl rfl (by rw [hk]; rfl)) ?_
    refine Jl.pv (PR.assign rfl) ?_
    refine Jl.nil ?_
    refine Jq.thenN ?_
    refine Jc.condT rfl ?_
    refine Jc.seq ?_
    refine Jc.region ?_
    refine Jl.pv (PR.move rfl) ?_
    refine Jl.pv (PR.geq false rfl rfl (by decide)) ?_
    refine Jl.nil ?_
    refine Jq.thenN ?_
    refine Jc.condF rfl ?_
    refine Jc.skip ?_
    refine Jq.blkN ?_
    refine Jq.thenN ?_
    refine Jc.seq ?_
    refine Jc.region ?_
    refine Jl.pv (PR.loadW rfl tsh24 (by repeat (first | exact Has.here | apply Has.there)) (by rfl)) ?_
    refine Jl.storeW rfl tsh24 rfl (by rfl) (by first | exact Cl.cs_one _ _ | simp [Value.oneCell']) (by repeat (first | exact Swap.here | apply Swap.there)) (by rfl) ?_
    refine Jl.nil ?_
    refine Jq.thenN ?_
    refine Jc.ret ?_
    exact Jq.fin (A7, c7) (.inl rfl) rfl (RetVs.cellA rfl (by repeat (first | exact Has.here | apply Has.there)) tsh24 (by rfl) RetVs.nil) rfl (by repeat (first | exact Take.nil | apply Take.cons (by repeat (first | exact Del.here | apply Del.there)))) (by repeat (first | exact trivial | refine And.intro (by repeat (first | exact Mem.here | apply Mem.there)) ?_))
  | some i =>
    have hfi : fndI c.bs e.a = (i : Int) := by rw [fndI, hf]
    obtain ⟨hi, _, _⟩ := fnd_some hf
    rw [onB_some hf hi]
    refine Ct.map (res := fun y : AdC => c.v y) (Rout := fun y => [.row 36 11 (.slice y.1 c.bs.length y.2) c.bs.length (bxsV (c.bs.set i c.bs[i].flip))]) (post := fun _ => []) ?_ (fun y => y) (fun _ => by simp [Cl.v, Cl.cs]) (fun _ => by simp [Cl.row]) (fun _ => rfl)
    refine Ct.of _ Tryd.func11 Tryd.ntmps11 rfl rfl (fun X W => ?_)
    refine Jc.seq ?_
    refine Jc.region ?_
    refine Jl.box rfl (by rfl) ?_
    intro b2
    refine Jl.box rfl (by rfl) ?_
    intro b3
    refine Jl.alloc tze24 ?_
    intro b4
    refine Jl.nil ?_
    refine Jq.thenN ?_
    refine Jc.seq ?_
    refine Jc.region ?_
    refine Jl.pv (PR.loadW rfl tsh24 (by repeat (first | exact Has.here | apply Has.there)) (by rfl)) ?_
    refine Jl.call (rown_ct c x hn) en18 (by rfl) (by repeat (first | exact Take.nil | apply Take.cons (by repeat (first | exact Del.here | apply Del.there)))) (by repeat (first | exact trivial | refine And.intro (by repeat (first | exact Mem.here | apply Mem.there)) ?_)) ?_
    rintro ⟨A7, c7⟩
    refine Jl.storeW rfl tsh24 rfl (by rfl) (by first | exact Cl.cs_one _ _ | simp [Value.oneCell']) (by repeat (first | exact Swap.here | apply Swap.there)) (by rfl) ?_
    refine Jl.nil ?_
    refine Jq.thenN ?_
    refine Jc.seq ?_
    refine Jc.seq ?_
    refine Jc.region ?_
    refine Jl.pv (PR.loadW rfl tsh24 (by repeat (first | exact Has.here | apply Has.there)) (by rfl)) ?_
    refine Jl.calll (fs := []) (cs := []) (rright_ct c (A7, c7) hn) en16 rfl (by rfl) (by rfl) (by repeat (first | exact Take.nil | apply Take.cons (by repeat (first | exact Del.here | apply Del.there)))) (ls := [c.row (A7, c7)]) (by repeat (first | exact Take.nil | apply Take.cons (by repeat (first | exact Del.here | apply Del.there)))) (by repeat (first | exact Lends.nil | apply Lends.row | apply Lends.blk)) (by repeat (first | exact trivial | refine And.intro (by repeat (first | exact Mem.here | apply Mem.there)) ?_)) ?_
    rintro ⟨⟩
    refine Jl.as (.bool true) (congrArg Value.bool (Cl.ok_iff.2 hok)) ?_
    refine Jl.pv (PR.not rfl) ?_
    refine Jl.nil ?_
    refine Jq.thenN ?_
    refine Jc.condF rfl ?_
    refine Jc.skip ?_
    refine Jq.thenN ?_
    refine Jc.seq ?_
    refine Jc.region ?_
    refine Jl.pv (PR.loadW rfl tsh24 (by repeat (first | exact Has.here | apply Has.there)) (by rfl)) ?_
    refine Jl.pv (PR.fieldAddr rfl tfl26_1) ?_
    refine Jl.pv (PR.load1 rfl tsh3 (by repeat (first | exact Has.here | apply Has.there)) (by rfl)) ?_
    refine Jl.calll (fs := []) (cs := []) (rfind_at (x := (A7, c7)) hfi hn) en19 rfl (by rfl) (by rfl) (by repeat (first | exact Take.nil | apply Take.cons (by repeat (first | exact Del.here | apply Del.there)))) (ls := [c.row (A7, c7)]) (by repeat (first | exact Take.nil | apply Take.cons (by repeat (first | exact Del.here | apply Del.there)))) (by repeat (first | exact Lends.nil | apply Lends.row | apply Lends.blk)) (by repeat (first | exact trivial | refine And.intro (by repeat (first | exact Mem.here | apply Mem.there)) ?_)) ?_
    rintro ⟨⟩
    refine Jl.pv (PR.assign rfl) ?_
    refine Jl.nil ?_
    refine Jq.thenN ?_
    refine Jc.seq ?_
    refine Jc.seq ?_
    refine Jc.region ?_
    refine Jl.pv (PR.fieldAddr rfl tfl26_0) ?_
    refine Jl.pv (PR.load1 rfl tsh5 (by repeat (first | exact Has.here | apply Has.there)) (by rfl)) ?_
    refine Jl.nil ?_
    refine Jq.thenN ?_
    refine Jc.block ?_
    refine Jc.seq ?_
    refine Jc.region ?_
    refine Jl.pv (PR.eql false rfl rfl (by rw [hk]; rfl)) ?_
    refine Jl.pv (PR.assign rfl) ?_
    refine Jl.nil ?_
    refine Jq.thenN ?_
    refine Jc.condF rfl ?_
    refine Jc.seq ?_
    refine Jc.region ?_
    refine Jl.pv (PR.eql true rfl rfl (by rw [hk]; rfl)) ?_
    refine Jl.pv (PR.assign rfl) ?_
    refine Jl.nil ?_
    refine Jq.thenN ?_
    refine Jc.condT rfl ?_
    refine Jc.seq ?_
    refine Jc.region ?_
    refine Jl.pv (PR.move rfl) ?_
    refine Jl.pv (PR.geq true rfl rfl (by simp)) ?_
    refine Jl.nil ?_
    refine Jq.thenN ?_
    refine Jc.condT rfl ?_
    refine Jc.drawn [0, 1, 0, 0, 8, 0, 56, 120, 248, 504, 1023, 2047, 4095] ([], []) [⟨[(0, false), (1, false), (2, false), (3, false), (4, false), (5, false), (6, false), (7, false), (8, false), (9, false), (10, false), (11, false)], [], 12⟩] tmx (by kernel_rfl) ?_
    refine Dh.JH.cons ?_
    refine Dh.JB.pv rfl trivial (fun _ => PR.fieldAddr rfl tfl24_0) ?_
    refine Dh.JB.rd [.blk _ _ _] rfl trivial (by repeat (first | exact Take.nil | apply Take.cons (by repeat (first | exact Del.here | apply Del.there)))) (fun _ => PR.load1 rfl tsh22 Has.here (by rfl)) ?_
    refine Dh.JB.pv rfl trivial (fun _ => PR.move rfl) ?_
    refine Dh.JB.pv rfl trivial (fun _ => PR.fieldAddr rfl tfl24_0) ?_
    refine Dh.JB.rd [.blk _ _ _] rfl trivial (by repeat (first | exact Take.nil | apply Take.cons (by repeat (first | exact Del.here | apply Del.there)))) (fun _ => PR.load1 rfl tsh22 Has.here (by rfl)) ?_
    refine Dh.JB.pv rfl trivial (fun _ => PR.move rfl) ?_
    refine Dh.JB.rd [.row _ _ _ _ _] rfl trivial (by repeat (first | exact Take.nil | apply Take.cons (by repeat (first | exact Del.here | apply Del.there)))) (fun _ => PR.idxO i rfl rfl tsl22 Del.here (by decide) rfl hi) ?_
    refine Dh.JB.rd [.row _ _ _ _ _] rfl trivial (by repeat (first | exact Take.nil | apply Take.cons (by repeat (first | exact Del.here | apply Del.there)))) (fun _ => PR.fieldAddrO rfl tfl36_7 Del.here (by rw [bxsV_len]; omega)) ?_
    refine Dh.JB.rd [.row _ _ _ _ _] rfl trivial (by repeat (first | exact Take.nil | apply Take.cons (by repeat (first | exact Del.here | apply Del.there)))) (fun _ => PR.loadO rfl tsh4 Del.here (bxs_f hi 7 rfl)) ?_
    refine Dh.JB.pv rfl trivial (fun _ => PR.not rfl) ?_
    refine Dh.JB.rd [.row _ _ _ _ _] rfl trivial (by repeat (first | exact Take.nil | apply Take.cons (by repeat (first | exact Del.here | apply Del.there)))) (fun _ => PR.idxO i rfl rfl tsl22 Del.here (by decide) rfl hi) ?_
    refine Dh.JB.rd [.row _ _ _ _ _] rfl trivial (by repeat (first | exact Take.nil | apply Take.cons (by repeat (first | exact Del.here | apply Del.there)))) (fun _ => PR.fieldAddrO rfl tfl36_7 Del.here (by rw [bxsV_len]; omega)) ?_
    refine Dh.JB.nil ?_
    refine Dh.JL.nil ?_
    refine Dh.JE.mk rfl (fun _ h => by cases h) (fun C13_12 => ?_)
    refine Jl.storeO rfl tsh4 rfl (by rfl) (by repeat (first | exact Swap.here | apply Swap.there)) (by rw [bxsV_len]; omega) (bxs_set hi 7 (by omega) _ c.bs[i].flip rfl) ?_
    refine Jl.nil ?_
    refine Dh.Jq.segN (by repeat (first | exact Dh.FExt.refl | apply Dh.FExt.cons | apply Dh.FExt.app)) ?_ (by repeat (first | exact Dh.KeepL.nil | apply Dh.KeepL.anc (by rfl) | apply Dh.KeepL.keep (by repeat (first | exact Take.nil | apply Take.cons (by repeat (first | exact Del.here | apply Del.there))))))
    refine Dh.JH.nil ?_
    refine Dh.JB.nil ?_
    refine Dh.JL.nil ?_
    refine Jq.blkN ?_
    refine Jq.thenN ?_
    refine Jc.seq ?_
    refine Jc.region ?_
    refine Jl.pv (PR.loadW rfl tsh24 (by repeat (first | exact Has.here | apply Has.there)) (by rfl)) ?_
    refine Jl.storeW rfl tsh24 rfl (by rfl) (by first | exact Cl.cs_one _ _ | simp [Value.oneCell']) (by repeat (first | exact Swap.here | apply Swap.there)) (by rfl) ?_
    refine Jl.nil ?_
    refine Jq.thenN ?_
    refine Jc.ret ?_
    exact Jq.fin (A7, c7) (.inl rfl) rfl (RetVs.cellA rfl (by repeat (first | exact Has.here | apply Has.there)) tsh24 (by rfl) RetVs.nil) rfl (by repeat (first | exact Take.nil | apply Take.cons (by repeat (first | exact Del.here | apply Del.there)))) (by repeat (first | exact trivial | refine And.intro (by repeat (first | exact Mem.here | apply Mem.there)) ?_))
theorem revdo_3 (c : Cl) (x : AdC) (e : Ev) (hn : c.bs.length ≤ 1000000) (hok : c.Ok) (hk : e.k = 3) : Ct Tryd.prog 11 [c.v x, e.v] [] [.rd x.1 (bxsV c.bs)] (doE c e).v (fun y => [(doE c e).row y]) (fun _ => []) := by
  rw [doE_ok hok, show happ c e = strayC c e.a (decide (e.b ≠ 0)) by rw [happ, hk]; rfl]
  refine Ct.of _ Tryd.func11 Tryd.ntmps11 rfl rfl (fun X W => ?_)
  refine Jc.seq ?_
  refine Jc.region ?_
  refine Jl.box rfl (by rfl) ?_
  intro b2
  refine Jl.box rfl (by rfl) ?_
  intro b3
  refine Jl.alloc tze24 ?_
  intro b4
  refine Jl.nil ?_
  refine Jq.thenN ?_
  refine Jc.seq ?_
  refine Jc.region ?_
  refine Jl.pv (PR.loadW rfl tsh24 (by repeat (first | exact Has.here | apply Has.there)) (by rfl)) ?_
  refine Jl.call (rown_ct c x hn) en18 (by rfl) (by repeat (first | exact Take.nil | apply Take.cons (by repeat (first | exact Del.here | apply Del.there)))) (by repeat (first | exact trivial | refine And.intro (by repeat (first | exact Mem.here | apply Mem.there)) ?_)) ?_
  rintro ⟨A7, c7⟩
  refine Jl.storeW rfl tsh24 rfl (by rfl) (by first | exact Cl.cs_one _ _ | simp [Value.oneCell']) (by repeat (first | exact Swap.here | apply Swap.there)) (by rfl) ?_
  refine Jl.nil ?_
  refine Jq.thenN ?_
  refine Jc.seq ?_
  refine Jc.seq ?_
  refine Jc.region ?_
  refine Jl.pv (PR.loadW rfl tsh24 (by repeat (first | exact Has.here | apply Has.there)) (by rfl)) ?_
  refine Jl.calll (fs := []) (cs := []) (rright_ct c (A7, c7) hn) en16 rfl (by rfl) (by rfl) (by repeat (first | exact Take.nil | apply Take.cons (by repeat (first | exact Del.here | apply Del.there)))) (ls := [c.row (A7, c7)]) (by repeat (first | exact Take.nil | apply Take.cons (by repeat (first | exact Del.here | apply Del.there)))) (by repeat (first | exact Lends.nil | apply Lends.row | apply Lends.blk)) (by repeat (first | exact trivial | refine And.intro (by repeat (first | exact Mem.here | apply Mem.there)) ?_)) ?_
  rintro ⟨⟩
  refine Jl.as (.bool true) (congrArg Value.bool (Cl.ok_iff.2 hok)) ?_
  refine Jl.pv (PR.not rfl) ?_
  refine Jl.nil ?_
  refine Jq.thenN ?_
  refine Jc.condF rfl ?_
  refine Jc.skip ?_
  refine Jq.thenN ?_
  refine Jc.seq ?_
  refine Jc.region ?_
  refine Jl.pv (PR.loadW rfl tsh24 (by repeat (first | exact Has.here | apply Has.there)) (by rfl)) ?_
  refine Jl.pv (PR.fieldAddr rfl tfl26_1) ?_
  refine Jl.pv (PR.load1 rfl tsh3 (by repeat (first | exact Has.here | apply Has.there)) (by rfl)) ?_
  refine Jl.calll (fs := []) (cs := []) (rfind_ct c (A7, c7) e.a hn) en19 rfl (by rfl) (by rfl) (by repeat (first | exact Take.nil | apply Take.cons (by repeat (first | exact Del.here | apply Del.there)))) (ls := [c.row (A7, c7)]) (by repeat (first | exact Take.nil | apply Take.cons (by repeat (first | exact Del.here | apply Del.there)))) (by repeat (first | exact Lends.nil | apply Lends.row | apply Lends.blk)) (by repeat (first | exact trivial | refine And.intro (by repeat (first | exact Mem.here | apply Mem.there)) ?_)) ?_
  rintro ⟨⟩
  refine Jl.pv (PR.assign rfl) ?_
  refine Jl.nil ?_
  refine Jq.thenN ?_
  refine Jc.seq ?_
  refine Jc.seq ?_
  refine Jc.region ?_
  refine Jl.pv (PR.fieldAddr rfl tfl26_0) ?_
  refine Jl.pv (PR.load1 rfl tsh5 (by repeat (first | exact Has.here | apply Has.there)) (by rfl)) ?_
  refine Jl.nil ?_
  refine Jq.thenN ?_
  refine Jc.block ?_
  refine Jc.seq ?_
  refine Jc.region ?_
  refine Jl.pv (PR.eql false rfl rfl (by rw [hk]; rfl)) ?_
  refine Jl.pv (PR.assign rfl) ?_
  refine Jl.nil ?_
  refine Jq.thenN ?_
  refine Jc.condF rfl ?_
  refine Jc.seq ?_
  refine Jc.region ?_
  refine Jl.pv (PR.eql false rfl rfl (by rw [hk]; rfl)) ?_
  refine Jl.pv (PR.assign rfl) ?_
  refine Jl.nil ?_
  refine Jq.thenN ?_
  refine Jc.condF rfl ?_
  refine Jc.seq ?_
  refine Jc.region ?_
  refine Jl.pv (PR.eql true rfl rfl (by rw [hk]; rfl)) ?_
  refine Jl.pv (PR.assign rfl) ?_
  refine Jl.nil ?_
  refine Jq.thenN ?_
  refine Jc.condT rfl ?_
  refine Jc.seq ?_
  refine Jc.region ?_
  refine Jl.pv (PR.loadW rfl tsh24 (by repeat (first | exact Has.here | apply Has.there)) (by rfl)) ?_
  refine Jl.pv (PR.fieldAddr rfl tfl26_1) ?_
  refine Jl.pv (PR.load1 rfl tsh3 (by repeat (first | exact Has.here | apply Has.there)) (by rfl)) ?_
  refine Jl.pv (PR.fieldAddr rfl tfl26_2) ?_
  refine Jl.pv (PR.load1 rfl tsh3 (by repeat (first | exact Has.here | apply Has.there)) (by rfl)) ?_
  refine Jl.pv (PR.neq _ rfl rfl rfl) ?_
  refine Jl.call (rstray_ct c (A7, c7) e.a (decide (e.b ≠ 0)) hn) en22 (by rfl) (by repeat (first | exact Take.nil | apply Take.cons (by repeat (first | exact Del.here | apply Del.there)))) (by repeat (first | exact trivial | refine And.intro (by repeat (first | exact Mem.here | apply Mem.there)) ?_)) ?_
  rintro ⟨A61, c61⟩
  refine Jl.storeW rfl tsh24 rfl (by rfl) (by first | exact Cl.cs_one _ _ | simp [Value.oneCell']) (by repeat (first | exact Swap.here | apply Swap.there)) (by rfl) ?_
  refine Jl.nil ?_
  refine Jq.thenN ?_
  refine Jc.ret ?_
  refine Jq.blkR ?_
  refine Jq.thenR ?_
  exact Jq.fin (A61, c61) (.inl rfl) rfl (RetVs.cellA rfl (by repeat (first | exact Has.here | apply Has.there)) tsh24 (by rfl) RetVs.nil) rfl (by repeat (first | exact Take.nil | apply Take.cons (by repeat (first | exact Del.here | apply Del.there)))) (by repeat (first | exact trivial | refine And.intro (by repeat (first | exact Mem.here | apply Mem.there)) ?_))
theorem revdo_4 (c : Cl) (x : AdC) (e : Ev) (hn : c.bs.length ≤ 1000000) (hok : c.Ok) (hk : e.k = 4) : Ct Tryd.prog 11 [c.v x, e.v] [] [.rd x.1 (bxsV c.bs)] (doE c e).v (fun y => [(doE c e).row y]) (fun _ => []) := by
  rw [doE_ok hok, show happ c e = { c with ti := !c.ti } by rw [happ, hk]; rfl]
  refine Ct.of _ Tryd.func11 Tryd.ntmps11 rfl rfl (fun X W => ?_)
  refine Jc.seq ?_
  refine Jc.region ?_
  refine Jl.box rfl (by rfl) ?_
  intro b2
  refine Jl.box rfl (by rfl) ?_
  intro b3
  refine Jl.alloc tze24 ?_
  intro b4
  refine Jl.nil ?_
  refine Jq.thenN ?_
  refine Jc.seq ?_
  refine Jc.region ?_
  refine Jl.pv (PR.loadW rfl tsh24 (by repeat (first | exact Has.here | apply Has.there)) (by rfl)) ?_
  refine Jl.call (rown_ct c x hn) en18 (by rfl) (by repeat (first | exact Take.nil | apply Take.cons (by repeat (first | exact Del.here | apply Del.there)))) (by repeat (first | exact trivial | refine And.intro (by repeat (first | exact Mem.here | apply Mem.there)) ?_)) ?_
  rintro ⟨A7, c7⟩
  refine Jl.storeW rfl tsh24 rfl (by rfl) (by first | exact Cl.cs_one _ _ | simp [Value.oneCell']) (by repeat (first | exact Swap.here | apply Swap.there)) (by rfl) ?_
  refine Jl.nil ?_
  refine Jq.thenN ?_
  refine Jc.seq ?_
  refine Jc.seq ?_
  refine Jc.region ?_
  refine Jl.pv (PR.loadW rfl tsh24 (by repeat (first | exact Has.here | apply Has.there)) (by rfl)) ?_
  refine Jl.calll (fs := []) (cs := []) (rright_ct c (A7, c7) hn) en16 rfl (by rfl) (by rfl) (by repeat (first | exact Take.nil | apply Take.cons (by repeat (first | exact Del.here | apply Del.there)))) (ls := [c.row (A7, c7)]) (by repeat (first | exact Take.nil | apply Take.cons (by repeat (first | exact Del.here | apply Del.there)))) (by repeat (first | exact Lends.nil | apply Lends.row | apply Lends.blk)) (by repeat (first | exact trivial | refine And.intro (by repeat (first | exact Mem.here | apply Mem.there)) ?_)) ?_
  rintro ⟨⟩
  refine Jl.as (.bool true) (congrArg Value.bool (Cl.ok_iff.2 hok)) ?_
  refine Jl.pv (PR.not rfl) ?_
  refine Jl.nil ?_
  refine Jq.thenN ?_
  refine Jc.condF rfl ?_
  refine Jc.skip ?_
  refine Jq.thenN ?_
  refine Jc.seq ?_
  refine Jc.region ?_
  refine Jl.pv (PR.loadW rfl tsh24 (by repeat (first | exact Has.here | apply Has.there)) (by rfl)) ?_
  refine Jl.pv (PR.fieldAddr rfl tfl26_1) ?_
  refine Jl.pv (PR.load1 rfl tsh3 (by repeat (first | exact Has.here | apply Has.there)) (by rfl)) ?_
  refine Jl.calll (fs := []) (cs := []) (rfind_ct c (A7, c7) e.a hn) en19 rfl (by rfl) (by rfl) (by repeat (first | exact Take.nil | apply Take.cons (by repeat (first | exact Del.here | apply Del.there)))) (ls := [c.row (A7, c7)]) (by repeat (first | exact Take.nil | apply Take.cons (by repeat (first | exact Del.here | apply Del.there)))) (by repeat (first | exact Lends.nil | apply Lends.row | apply Lends.blk)) (by repeat (first | exact trivial | refine And.intro (by repeat (first | exact Mem.here | apply Mem.there)) ?_)) ?_
  rintro ⟨⟩
  refine Jl.pv (PR.assign rfl) ?_
  refine Jl.nil ?_
  refine Jq.thenN ?_
  refine Jc.seq ?_
  refine Jc.seq ?_
  refine Jc.region ?_
  refine Jl.pv (PR.fieldAddr rfl tfl26_0) ?_
  refine Jl.pv (PR.load1 rfl tsh5 (by repeat (first | exact Has.here | apply Has.there)) (by rfl)) ?_
  refine Jl.nil ?_
  refine Jq.thenN ?_
  refine Jc.block ?_
  refine Jc.seq ?_
  refine Jc.region ?_
  refine Jl.pv (PR.eql false rfl rfl (by rw [hk]; rfl)) ?_
  refine Jl.pv (PR.assign rfl) ?_
  refine Jl.nil ?_
  refine Jq.thenN ?_
  refine Jc.condF rfl ?_
  refine Jc.seq ?_
  refine Jc.region ?_
  refine Jl.pv (PR.eql false rfl rfl (by rw [hk]; rfl)) ?_
  refine Jl.pv (PR.assign rfl) ?_
  refine Jl.nil ?_
  refine Jq.thenN ?_
  refine Jc.condF rfl ?_
  refine Jc.seq ?_
  refine Jc.region ?_
  refine Jl.pv (PR.eql false rfl rfl (by rw [hk]; rfl)) ?_
  refine Jl.pv (PR.assign rfl) ?_
  refine Jl.nil ?_
  refine Jq.thenN ?_
  refine Jc.condF rfl ?_
  refine Jc.seq ?_
  refine Jc.region ?_
  refine Jl.pv (PR.eql true rfl rfl (by rw [hk]; rfl)) ?_
  refine Jl.pv (PR.assign rfl) ?_
  refine Jl.nil ?_
  refine Jq.thenN ?_
  refine Jc.condT rfl ?_
  refine Jc.region ?_
  refine Jl.pv (PR.fieldAddr rfl tfl24_4) ?_
  refine Jl.pv (PR.load1 rfl tsh4 (by repeat (first | exact Has.here | apply Has.there)) (by rfl)) ?_
  refine Jl.pv (PR.not rfl) ?_
  refine Jl.pv (PR.fieldAddr rfl tfl24_4) ?_
  refine Jl.store1 rfl tsh4 rfl (by rfl) (by repeat (first | exact Swap.here | apply Swap.there)) (by rfl) ?_
  refine Jl.nil ?_
  refine Jq.blkN ?_
  refine Jq.thenN ?_
  refine Jc.seq ?_
  refine Jc.region ?_
  refine Jl.pv (PR.loadW rfl tsh24 (by repeat (first | exact Has.here | apply Has.there)) (by rfl)) ?_
  refine Jl.storeW rfl tsh24 rfl (by rfl) (by first | exact Cl.cs_one _ _ | simp [Value.oneCell']) (by repeat (first | exact Swap.here | apply Swap.there)) (by rfl) ?_
  refine Jl.nil ?_
  refine Jq.thenN ?_
  refine Jc.ret ?_
  exact Jq.fin (A7, c7) (.inl rfl) rfl (RetVs.cellA rfl (by repeat (first | exact Has.here | apply Has.there)) tsh24 (by rfl) RetVs.nil) rfl (by repeat (first | exact Take.nil | apply Take.cons (by repeat (first | exact Del.here | apply Del.there)))) (by repeat (first | exact trivial | refine And.intro (by repeat (first | exact Mem.here | apply Mem.there)) ?_))
theorem revdo_5 (c : Cl) (x : AdC) (e : Ev) (hn : c.bs.length ≤ 1000000) (hok : c.Ok) (hk : e.k = 5) : Ct Tryd.prog 11 [c.v x, e.v] [] [.rd x.1 (bxsV c.bs)] (doE c e).v (fun y => [(doE c e).row y]) (fun _ => []) := by
  rw [doE_ok hok, show happ c e = tickC c by rw [happ, hk]; rfl]
  refine Ct.of _ Tryd.func11 Tryd.ntmps11 rfl rfl (fun X W => ?_)
  refine Jc.seq ?_
  refine Jc.region ?_
  refine Jl.box rfl (by rfl) ?_
  intro b2
  refine Jl.box rfl (by rfl) ?_
  intro b3
  refine Jl.alloc tze24 ?_
  intro b4
  refine Jl.nil ?_
  refine Jq.thenN ?_
  refine Jc.seq ?_
  refine Jc.region ?_
  refine Jl.pv (PR.loadW rfl tsh24 (by repeat (first | exact Has.here | apply Has.there)) (by rfl)) ?_
  refine Jl.call (rown_ct c x hn) en18 (by rfl) (by repeat (first | exact Take.nil | apply Take.cons (by repeat (first | exact Del.here | apply Del.there)))) (by repeat (first | exact trivial | refine And.intro (by repeat (first | exact Mem.here | apply Mem.there)) ?_)) ?_
  rintro ⟨A7, c7⟩
  refine Jl.storeW rfl tsh24 rfl (by rfl) (by first | exact Cl.cs_one _ _ | simp [Value.oneCell']) (by repeat (first | exact Swap.here | apply Swap.there)) (by rfl) ?_
  refine Jl.nil ?_
  refine Jq.thenN ?_
  refine Jc.seq ?_
  refine Jc.seq ?_
  refine Jc.region ?_
  refine Jl.pv (PR.loadW rfl tsh24 (by repeat (first | exact Has.here | apply Has.there)) (by rfl)) ?_
  refine Jl.calll (fs := []) (cs := []) (rright_ct c (A7, c7) hn) en16 rfl (by rfl) (by rfl) (by repeat (first | exact Take.nil | apply Take.cons (by repeat (first | exact Del.here | apply Del.there)))) (ls := [c.row (A7, c7)]) (by repeat (first | exact Take.nil | apply Take.cons (by repeat (first | exact Del.here | apply Del.there)))) (by repeat (first | exact Lends.nil | apply Lends.row | apply Lends.blk)) (by repeat (first | exact trivial | refine And.intro (by repeat (first | exact Mem.here | apply Mem.there)) ?_)) ?_
  rintro ⟨⟩
  refine Jl.as (.bool true) (congrArg Value.bool (Cl.ok_iff.2 hok)) ?_
  refine Jl.pv (PR.not rfl) ?_
  refine Jl.nil ?_
  refine Jq.thenN ?_
  refine Jc.condF rfl ?_
  refine Jc.skip ?_
  refine Jq.thenN ?_
  refine Jc.seq ?_
  refine Jc.region ?_
  refine Jl.pv (PR.loadW rfl tsh24 (by repeat (first | exact Has.here | apply Has.there)) (by rfl)) ?_
  refine Jl.pv (PR.fieldAddr rfl tfl26_1) ?_
  refine Jl.pv (PR.load1 rfl tsh3 (by repeat (first | exact Has.here | apply Has.there)) (by rfl)) ?_
  refine Jl.calll (fs := []) (cs := []) (rfind_ct c (A7, c7) e.a hn) en19 rfl (by rfl) (by rfl) (by repeat (first | exact Take.nil | apply Take.cons (by repeat (first | exact Del.here | apply Del.there)))) (ls := [c.row (A7, c7)]) (by repeat (first | exact Take.nil | apply Take.cons (by repeat (first | exact Del.here | apply Del.there)))) (by repeat (first | exact Lends.nil | apply Lends.row | apply Lends.blk)) (by repeat (first | exact trivial | refine And.intro (by repeat (first | exact Mem.here | apply Mem.there)) ?_)) ?_
  rintro ⟨⟩
  refine Jl.pv (PR.assign rfl) ?_
  refine Jl.nil ?_
  refine Jq.thenN ?_
  refine Jc.seq ?_
  refine Jc.seq ?_
  refine Jc.region ?_
  refine Jl.pv (PR.fieldAddr rfl tfl26_0) ?_
  refine Jl.pv (PR.load1 rfl tsh5 (by repeat (first | exact Has.here | apply Has.there)) (by rfl)) ?_
  refine Jl.nil ?_
  refine Jq.thenN ?_
  refine Jc.block ?_
  refine Jc.seq ?_
  refine Jc.region ?_
  refine Jl.pv (PR.eql false rfl rfl (by rw [hk]; rfl)) ?_
  refine Jl.pv (PR.assign rfl) ?_
  refine Jl.nil ?_
  refine Jq.thenN ?_
  refine Jc.condF rfl ?_
  refine Jc.seq ?_
  refine Jc.region ?_
  refine Jl.pv (PR.eql false rfl rfl (by rw [hk]; rfl)) ?_
  refine Jl.pv (PR.assign rfl) ?_
  refine Jl.nil ?_
  refine Jq.thenN ?_
  refine Jc.condF rfl ?_
  refine Jc.seq ?_
  refine Jc.region ?_
  refine Jl.pv (PR.eql false rfl rfl (by rw [hk]; rfl)) ?_
  refine Jl.pv (PR.assign rfl) ?_
  refine Jl.nil ?_
  refine Jq.thenN ?_
  refine Jc.condF rfl ?_
  refine Jc.seq ?_
  refine Jc.region ?_
  refine Jl.pv (PR.eql false rfl rfl (by rw [hk]; rfl)) ?_
  refine Jl.pv (PR.assign rfl) ?_
  refine Jl.nil ?_
  refine Jq.thenN ?_
  refine Jc.condF rfl ?_
  refine Jc.seq ?_
  refine Jc.region ?_
  refine Jl.pv (PR.eql true rfl rfl (by rw [hk]; rfl)) ?_
  refine Jl.pv (PR.assign rfl) ?_
  refine Jl.nil ?_
  refine Jq.thenN ?_
  refine Jc.condT rfl ?_
  refine Jc.seq ?_
  refine Jc.region ?_
  refine Jl.pv (PR.loadW rfl tsh24 (by repeat (first | exact Has.here | apply Has.there)) (by rfl)) ?_
  refine Jl.call (rtick_ct c (A7, c7) hn hok.now) en23 (by rfl) (by repeat (first | exact Take.nil | apply Take.cons (by repeat (first | exact Del.here | apply Del.there)))) (by repeat (first | exact trivial | refine And.intro (by repeat (first | exact Mem.here | apply Mem.there)) ?_)) ?_
  rintro ⟨A71, c71⟩
  refine Jl.storeW rfl tsh24 rfl (by rfl) (by first | exact Cl.cs_one _ _ | simp [Value.oneCell']) (by repeat (first | exact Swap.here | apply Swap.there)) (by rfl) ?_
  refine Jl.nil ?_
  refine Jq.thenN ?_
  refine Jc.ret ?_
  refine Jq.blkR ?_
  refine Jq.thenR ?_
  exact Jq.fin (A71, c71) (.inl rfl) rfl (RetVs.cellA rfl (by repeat (first | exact Has.here | apply Has.there)) tsh24 (by rfl) RetVs.nil) rfl (by repeat (first | exact Take.nil | apply Take.cons (by repeat (first | exact Del.here | apply Del.there)))) (by repeat (first | exact trivial | refine And.intro (by repeat (first | exact Mem.here | apply Mem.there)) ?_))
theorem revdo_6 (c : Cl) (x : AdC) (e : Ev) (hn : c.bs.length ≤ 1000000) (hok : c.Ok) (hk : e.k = 6) : Ct Tryd.prog 11 [c.v x, e.v] [] [.rd x.1 (bxsV c.bs)] (doE c e).v (fun y => [(doE c e).row y]) (fun _ => []) := by
  rw [doE_ok hok, show happ c e = floorC c e.a e.b by rw [happ, hk]; rfl]
  by_cases hs : okN e.a = true ∧ okN e.b = true
  · rw [show floorC c e.a e.b = { c with fl := e.a, dr := e.b } from if_pos hs]
    refine Ct.of _ Tryd.func11 Tryd.ntmps11 rfl rfl (fun X W => ?_)
    refine Jc.seq ?_
    refine Jc.region ?_
    refine Jl.box rfl (by rfl) ?_
    intro b2
    refine Jl.box rfl (by rfl) ?_
    intro b3
    refine Jl.alloc tze24 ?_
    intro b4
    refine Jl.nil ?_
    refine Jq.thenN ?_
    refine Jc.seq ?_
    refine Jc.region ?_
    refine Jl.pv (PR.loadW rfl tsh24 (by repeat (first | exact Has.here | apply Has.there)) (by rfl)) ?_
    refine Jl.call (rown_ct c x hn) en18 (by rfl) (by repeat (first | exact Take.nil | apply Take.cons (by repeat (first | exact Del.here | apply Del.there)))) (by repeat (first | exact trivial | refine And.intro (by repeat (first | exact Mem.here | apply Mem.there)) ?_)) ?_
    rintro ⟨A7, c7⟩
    refine Jl.storeW rfl tsh24 rfl (by rfl) (by first | exact Cl.cs_one _ _ | simp [Value.oneCell']) (by repeat (first | exact Swap.here | apply Swap.there)) (by rfl) ?_
    refine Jl.nil ?_
    refine Jq.thenN ?_
    refine Jc.seq ?_
    refine Jc.seq ?_
    refine Jc.region ?_
    refine Jl.pv (PR.loadW rfl tsh24 (by repeat (first | exact Has.here | apply Has.there)) (by rfl)) ?_
    refine Jl.calll (fs := []) (cs := []) (rright_ct c (A7, c7) hn) en16 rfl (by rfl) (by rfl) (by repeat (first | exact Take.nil | apply Take.cons (by repeat (first | exact Del.here | apply Del.there)))) (ls := [c.row (A7, c7)]) (by repeat (first | exact Take.nil | apply Take.cons (by repeat (first | exact Del.here | apply Del.there)))) (by repeat (first | exact Lends.nil | apply Lends.row | apply Lends.blk)) (by repeat (first | exact trivial | refine And.intro (by repeat (first | exact Mem.here | apply Mem.there)) ?_)) ?_
    rintro ⟨⟩
    refine Jl.as (.bool true) (congrArg Value.bool (Cl.ok_iff.2 hok)) ?_
    refine Jl.pv (PR.not rfl) ?_
    refine Jl.nil ?_
    refine Jq.thenN ?_
    refine Jc.condF rfl ?_
    refine Jc.skip ?_
    refine Jq.thenN ?_
    refine Jc.seq ?_
    refine Jc.region ?_
    refine Jl.pv (PR.loadW rfl tsh24 (by repeat (first | exact Has.here | apply Has.there)) (by rfl)) ?_
    refine Jl.pv (PR.fieldAddr rfl tfl26_1) ?_
    refine Jl.pv (PR.load1 rfl tsh3 (by repeat (first | exact Has.here | apply Has.there)) (by rfl)) ?_
    refine Jl.calll (fs := []) (cs := []) (rfind_ct c (A7, c7) e.a hn) en19 rfl (by rfl) (by rfl) (by repeat (first | exact Take.nil | apply Take.cons (by repeat (first | exact Del.here | apply Del.there)))) (ls := [c.row (A7, c7)]) (by repeat (first | exact Take.nil | apply Take.cons (by repeat (first | exact Del.here | apply Del.there)))) (by repeat (first | exact Lends.nil | apply Lends.row | apply Lends.blk)) (by repeat (first | exact trivial | refine And.intro (by repeat (first | exact Mem.here | apply Mem.there)) ?_)) ?_
    rintro ⟨⟩
    refine Jl.pv (PR.assign rfl) ?_
    refine Jl.nil ?_
    refine Jq.thenN ?_
    refine Jc.seq ?_
    refine Jc.seq ?_
    refine Jc.region ?_
    refine Jl.pv (PR.fieldAddr rfl tfl26_0) ?_
    refine Jl.pv (PR.load1 rfl tsh5 (by repeat (first | exact Has.here | apply Has.there)) (by rfl)) ?_
    refine Jl.nil ?_
    refine Jq.thenN ?_
    refine Jc.block ?_
    refine Jc.seq ?_
    refine Jc.region ?_
    refine Jl.pv (PR.eql false rfl rfl (by rw [hk]; rfl)) ?_
    refine Jl.pv (PR.assign rfl) ?_
    refine Jl.nil ?_
    refine Jq.thenN ?_
    refine Jc.condF rfl ?_
    refine Jc.seq ?_
    refine Jc.region ?_
    refine Jl.pv (PR.eql false rfl rfl (by rw [hk]; rfl)) ?_
    refine Jl.pv (PR.assign rfl) ?_
    refine Jl.nil ?_
    refine Jq.thenN ?_
    refine Jc.condF rfl ?_
    refine Jc.seq ?_
    refine Jc.region ?_
    refine Jl.pv (PR.eql false rfl rfl (by rw [hk]; rfl)) ?_
    refine Jl.pv (PR.assign rfl) ?_
    refine Jl.nil ?_
    refine Jq.thenN ?_
    refine Jc.condF rfl ?_
    refine Jc.seq ?_
    refine Jc.region ?_
    refine Jl.pv (PR.eql false rfl rfl (by rw [hk]; rfl)) ?_
    refine Jl.pv (PR.assign rfl) ?_
    refine Jl.nil ?_
    refine Jq.thenN ?_
    refine Jc.condF rfl ?_
    refine Jc.seq ?_
    refine Jc.region ?_
    refine Jl.pv (PR.eql false rfl rfl (by rw [hk]; rfl)) ?_
    refine Jl.pv (PR.assign rfl) ?_
    refine Jl.nil ?_
    refine Jq.thenN ?_
    refine Jc.condF rfl ?_
    refine Jc.seq ?_
    refine Jc.region ?_
    refine Jl.pv (PR.eql true rfl rfl (by rw [hk]; rfl)) ?_
    refine Jl.pv (PR.assign rfl) ?_
    refine Jl.nil ?_
    refine Jq.thenN ?_
    refine Jc.condT rfl ?_
    refine Jc.seq ?_
    refine Jc.region ?_
    refine Jl.pv (PR.fieldAddr rfl tfl26_1) ?_
    refine Jl.pv (PR.load1 rfl tsh3 (by repeat (first | exact Has.here | apply Has.there)) (by rfl)) ?_
    refine Jl.call (r10number_ct e.a) en24 (by rfl) (by repeat (first | exact Take.nil | apply Take.cons (by repeat (first | exact Del.here | apply Del.there)))) (by repeat (first | exact trivial | refine And.intro (by repeat (first | exact Mem.here | apply Mem.there)) ?_)) ?_
    rintro ⟨⟩
    refine Jl.as (.bool true) (congrArg Value.bool hs.1) ?_
    refine Jl.pv (PR.move rfl) ?_
    refine Jl.on rfl rfl ?_
    refine Jl.pv (PR.fieldAddr rfl tfl26_2) ?_
    refine Jl.on rfl rfl ?_
    refine Jl.pv (PR.load1 rfl tsh3 (by repeat (first | exact Has.here | apply Has.there)) (by rfl)) ?_
    refine Jl.on rfl rfl ?_
    refine Jl.call (r10number_ct e.b) en24 (by rfl) (by repeat (first | exact Take.nil | apply Take.cons (by repeat (first | exact Del.here | apply Del.there)))) (by repeat (first | exact trivial | refine And.intro (by repeat (first | exact Mem.here | apply Mem.there)) ?_)) ?_
    rintro ⟨⟩
    refine Jl.as (.bool true) (congrArg Value.bool hs.2) ?_
    refine Jl.pv (PR.pickT rfl rfl) ?_
    refine Jl.nil ?_
    refine Jq.thenN ?_
    refine Jc.condT rfl ?_
    refine Jc.drawn [0, 1, 0, 4, 3, 19, 63, 127] ([], []) [⟨[(0, false), (1, false), (2, false), (3, false), (4, false)], [], 5⟩, ⟨[(6, false)], [], 7⟩] tmx (by kernel_rfl) ?_
    refine Dh.JH.cons ?_
    refine Dh.JB.pv rfl trivial (fun _ => PR.fieldAddr rfl tfl26_1) ?_
    refine Dh.JB.rd [.blk _ _ _] rfl trivial (by repeat (first | exact Take.nil | apply Take.cons (by repeat (first | exact Del.here | apply Del.there)))) (fun _ => PR.load1 rfl tsh3 Has.here (by rfl)) ?_
    refine Dh.JB.pv rfl trivial (fun _ => PR.fieldAddr rfl tfl26_2) ?_
    refine Dh.JB.rd [.blk _ _ _] rfl trivial (by repeat (first | exact Take.nil | apply Take.cons (by repeat (first | exact Del.here | apply Del.there)))) (fun _ => PR.load1 rfl tsh3 Has.here (by rfl)) ?_
    refine Dh.JB.pv rfl trivial (fun _ => PR.fieldAddr rfl tfl24_1) ?_
    refine Dh.JB.nil ?_
    refine Dh.JL.nil ?_
    refine Dh.JE.mk rfl (fun _ h => by cases h) (fun C22_5 => ?_)
    refine Jl.store1 rfl tsh3 rfl (by rfl) (by repeat (first | exact Swap.here | apply Swap.there)) (by rfl) ?_
    refine Jl.nil ?_
    refine Dh.Jq.segN (by repeat (first | exact Dh.FExt.refl | apply Dh.FExt.cons | apply Dh.FExt.app)) ?_ (by repeat (first | exact Dh.KeepL.nil | apply Dh.KeepL.anc (by rfl) | apply Dh.KeepL.keep (by repeat (first | exact Take.nil | apply Take.cons (by repeat (first | exact Del.here | apply Del.there))))))
    refine Dh.JH.cons ?_
    refine Dh.JB.pv rfl trivial (fun _ => PR.fieldAddr rfl tfl24_2) ?_
    refine Dh.JB.nil ?_
    refine Dh.JL.nil ?_
    refine Dh.JE.mk rfl (fun _ h => by cases h) (fun C22_7 => ?_)
    refine Jl.store1 rfl tsh3 rfl (by rfl) (by repeat (first | exact Swap.here | apply Swap.there)) (by rfl) ?_
    refine Jl.nil ?_
    refine Dh.Jq.segN (by repeat (first | exact Dh.FExt.refl | apply Dh.FExt.cons | apply Dh.FExt.app)) ?_ (by repeat (first | exact Dh.KeepL.nil | apply Dh.KeepL.anc (by rfl) | apply Dh.KeepL.keep (by repeat (first | exact Take.nil | apply Take.cons (by repeat (first | exact Del.here | apply Del.there))))))
    refine Dh.JH.nil ?_
    refine Dh.JB.nil ?_
    refine Dh.JL.nil ?_
    refine Jq.blkN ?_
    refine Jq.thenN ?_
    refine Jc.seq ?_
    refine Jc.region ?_
    refine Jl.pv (PR.loadW rfl tsh24 (by repeat (first | exact Has.here | apply Has.there)) (by rfl)) ?_
    refine Jl.storeW rfl tsh24 rfl (by rfl) (by first | exact Cl.cs_one _ _ | simp [Value.oneCell']) (by repeat (first | exact Swap.here | apply Swap.there)) (by rfl) ?_
    refine Jl.nil ?_
    refine Jq.thenN ?_
    refine Jc.ret ?_
    exact Jq.fin (A7, c7) (.inl rfl) rfl (RetVs.cellA rfl (by repeat (first | exact Has.here | apply Has.there)) tsh24 (by rfl) RetVs.nil) rfl (by repeat (first | exact Take.nil | apply Take.cons (by repeat (first | exact Del.here | apply Del.there)))) (by repeat (first | exact trivial | refine And.intro (by repeat (first | exact Mem.here | apply Mem.there)) ?_))
  · rw [show floorC c e.a e.b = c from if_neg hs]
    refine Ct.of _ Tryd.func11 Tryd.ntmps11 rfl rfl (fun X W => ?_)
    refine Jc.seq ?_
    refine Jc.region ?_
    refine Jl.box rfl (by rfl) ?_
    intro b2
    refine Jl.box rfl (by rfl) ?_
    intro b3
    refine Jl.alloc tze24 ?_
    intro b4
    refine Jl.nil ?_
    refine Jq.thenN ?_
    refine Jc.seq ?_
    refine Jc.region ?_
    refine Jl.pv (PR.loadW rfl tsh24 (by repeat (first | exact Has.here | apply Has.there)) (by rfl)) ?_
    refine Jl.call (rown_ct c x hn) en18 (by rfl) (by repeat (first | exact Take.nil | apply Take.cons (by repeat (first | exact Del.here | apply Del.there)))) (by repeat (first | exact trivial | refine And.intro (by repeat (first | exact Mem.here | apply Mem.there)) ?_)) ?_
    rintro ⟨A7, c7⟩
    refine Jl.storeW rfl tsh24 rfl (by rfl) (by first | exact Cl.cs_one _ _ | simp [Value.oneCell']) (by repeat (first | exact Swap.here | apply Swap.there)) (by rfl) ?_
    refine Jl.nil ?_
    refine Jq.thenN ?_
    refine Jc.seq ?_
    refine Jc.seq ?_
    refine Jc.region ?_
    refine Jl.pv (PR.loadW rfl tsh24 (by repeat (first | exact Has.here | apply Has.there)) (by rfl)) ?_
    refine Jl.calll (fs := []) (cs := []) (rright_ct c (A7, c7) hn) en16 rfl (by rfl) (by rfl) (by repeat (first | exact Take.nil | apply Take.cons (by repeat (first | exact Del.here | apply Del.there)))) (ls := [c.row (A7, c7)]) (by repeat (first | exact Take.nil | apply Take.cons (by repeat (first | exact Del.here | apply Del.there)))) (by repeat (first | exact Lends.nil | apply Lends.row | apply Lends.blk)) (by repeat (first | exact trivial | refine And.intro (by repeat (first | exact Mem.here | apply Mem.there)) ?_)) ?_
    rintro ⟨⟩
    refine Jl.as (.bool true) (congrArg Value.bool (Cl.ok_iff.2 hok)) ?_
    refine Jl.pv (PR.not rfl) ?_
    refine Jl.nil ?_
    refine Jq.thenN ?_
    refine Jc.condF rfl ?_
    refine Jc.skip ?_
    refine Jq.thenN ?_
    refine Jc.seq ?_
    refine Jc.region ?_
    refine Jl.pv (PR.loadW rfl tsh24 (by repeat (first | exact Has.here | apply Has.there)) (by rfl)) ?_
    refine Jl.pv (PR.fieldAddr rfl tfl26_1) ?_
    refine Jl.pv (PR.load1 rfl tsh3 (by repeat (first | exact Has.here | apply Has.there)) (by rfl)) ?_
    refine Jl.calll (fs := []) (cs := []) (rfind_ct c (A7, c7) e.a hn) en19 rfl (by rfl) (by rfl) (by repeat (first | exact Take.nil | apply Take.cons (by repeat (first | exact Del.here | apply Del.there)))) (ls := [c.row (A7, c7)]) (by repeat (first | exact Take.nil | apply Take.cons (by repeat (first | exact Del.here | apply Del.there)))) (by repeat (first | exact Lends.nil | apply Lends.row | apply Lends.blk)) (by repeat (first | exact trivial | refine And.intro (by repeat (first | exact Mem.here | apply Mem.there)) ?_)) ?_
    rintro ⟨⟩
    refine Jl.pv (PR.assign rfl) ?_
    refine Jl.nil ?_
    refine Jq.thenN ?_
    refine Jc.seq ?_
    refine Jc.seq ?_
    refine Jc.region ?_
    refine Jl.pv (PR.fieldAddr rfl tfl26_0) ?_
    refine Jl.pv (PR.load1 rfl tsh5 (by repeat (first | exact Has.here | apply Has.there)) (by rfl)) ?_
    refine Jl.nil ?_
    refine Jq.thenN ?_
    refine Jc.block ?_
    refine Jc.seq ?_
    refine Jc.region ?_
    refine Jl.pv (PR.eql false rfl rfl (by rw [hk]; rfl)) ?_
    refine Jl.pv (PR.assign rfl) ?_
    refine Jl.nil ?_
    refine Jq.thenN ?_
    refine Jc.condF rfl ?_
    refine Jc.seq ?_
    refine Jc.region ?_
    refine Jl.pv (PR.eql false rfl rfl (by rw [hk]; rfl)) ?_
    refine Jl.pv (PR.assign rfl) ?_
    refine Jl.nil ?_
    refine Jq.thenN ?_
    refine Jc.condF rfl ?_
    refine Jc.seq ?_
    refine Jc.region ?_
    refine Jl.pv (PR.eql false rfl rfl (by rw [hk]; rfl)) ?_
    refine Jl.pv (PR.assign rfl) ?_
    refine Jl.nil ?_
    refine Jq.thenN ?_
    refine Jc.condF rfl ?_
    refine Jc.seq ?_
    refine Jc.region ?_
    refine Jl.pv (PR.eql false rfl rfl (by rw [hk]; rfl)) ?_
    refine Jl.pv (PR.assign rfl) ?_
    refine Jl.nil ?_
    refine Jq.thenN ?_
    refine Jc.condF rfl ?_
    refine Jc.seq ?_
    refine Jc.region ?_
    refine Jl.pv (PR.eql false rfl rfl (by rw [hk]; rfl)) ?_
    refine Jl.pv (PR.assign rfl) ?_
    refine Jl.nil ?_
    refine Jq.thenN ?_
    refine Jc.condF rfl ?_
    refine Jc.seq ?_
    refine Jc.region ?_
    refine Jl.pv (PR.eql true rfl rfl (by rw [hk]; rfl)) ?_
    refine Jl.pv (PR.assign rfl) ?_
    refine Jl.nil ?_
    refine Jq.thenN ?_
    refine Jc.condT rfl ?_
    refine Jc.seq ?_
    refine Jc.region ?_
    refine Jl.pv (PR.fieldAddr rfl tfl26_1) ?_
    refine Jl.pv (PR.load1 rfl tsh3 (by repeat (first | exact Has.here | apply Has.there)) (by rfl)) ?_
    refine Jl.call (r10number_ct e.a) en24 (by rfl) (by repeat (first | exact Take.nil | apply Take.cons (by repeat (first | exact Del.here | apply Del.there)))) (by repeat (first | exact trivial | refine And.intro (by repeat (first | exact Mem.here | apply Mem.there)) ?_)) ?_
    rintro ⟨⟩
    refine Jl.pv (PR.move rfl) ?_
    refine Jl.bsplit (fun g77 => ?_) (fun g77 => ?_)
    · try replace g77 := of_decide_eq_true g77
      have ho : okN e.b = false := by simpa using fun h => hs ⟨okN_iff.2 g77, h⟩
      refine Jl.on rfl rfl ?_
      refine Jl.pv (PR.fieldAddr rfl tfl26_2) ?_
      refine Jl.on rfl rfl ?_
      refine Jl.pv (PR.load1 rfl tsh3 (by repeat (first | exact Has.here | apply Has.there)) (by rfl)) ?_
      refine Jl.on rfl rfl ?_
      refine Jl.call (r10number_ct e.b) en24 (by rfl) (by repeat (first | exact Take.nil | apply Take.cons (by repeat (first | exact Del.here | apply Del.there)))) (by repeat (first | exact trivial | refine And.intro (by repeat (first | exact Mem.here | apply Mem.there)) ?_)) ?_
      rintro ⟨⟩
      refine Jl.as (.bool false) (congrArg Value.bool ho) ?_
      refine Jl.pv (PR.pickT rfl rfl) ?_
      refine Jl.nil ?_
      refine Jq.thenN ?_
      refine Jc.condF rfl ?_
      refine Jc.skip ?_
      refine Jq.blkN ?_
      refine Jq.thenN ?_
      refine Jc.seq ?_
      refine Jc.region ?_
      refine Jl.pv (PR.loadW rfl tsh24 (by repeat (first | exact Has.here | apply Has.there)) (by rfl)) ?_
      refine Jl.storeW rfl tsh24 rfl (by rfl) (by first | exact Cl.cs_one _ _ | simp [Value.oneCell']) (by repeat (first | exact Swap.here | apply Swap.there)) (by rfl) ?_
      refine Jl.nil ?_
      refine Jq.thenN ?_
      refine Jc.ret ?_
      exact Jq.fin (A7, c7) (.inl rfl) rfl (RetVs.cellA rfl (by repeat (first | exact Has.here | apply Has.there)) tsh24 (by rfl) RetVs.nil) rfl (by repeat (first | exact Take.nil | apply Take.cons (by repeat (first | exact Del.here | apply Del.there)))) (by repeat (first | exact trivial | refine And.intro (by repeat (first | exact Mem.here | apply Mem.there)) ?_))
    · try replace g77 := of_decide_eq_false g77
      refine Jl.offS rfl rfl rfl ?_
      refine Jl.offS rfl rfl rfl ?_
      refine Jl.offS rfl rfl rfl ?_
      refine Jl.pv (PR.pickF rfl rfl) ?_
      refine Jl.nil ?_
      refine Jq.thenN ?_
      refine Jc.condF rfl ?_
      refine Jc.skip ?_
      refine Jq.blkN ?_
      refine Jq.thenN ?_
      refine Jc.seq ?_
      refine Jc.region ?_
      refine Jl.pv (PR.loadW rfl tsh24 (by repeat (first | exact Has.here | apply Has.there)) (by rfl)) ?_
      refine Jl.storeW rfl tsh24 rfl (by rfl) (by first | exact Cl.cs_one _ _ | simp [Value.oneCell']) (by repeat (first | exact Swap.here | apply Swap.there)) (by rfl) ?_
      refine Jl.nil ?_
      refine Jq.thenN ?_
      refine Jc.ret ?_
      exact Jq.fin (A7, c7) (.inl rfl) rfl (RetVs.cellA rfl (by repeat (first | exact Has.here | apply Has.there)) tsh24 (by rfl) RetVs.nil) rfl (by repeat (first | exact Take.nil | apply Take.cons (by repeat (first | exact Del.here | apply Del.there)))) (by repeat (first | exact trivial | refine And.intro (by repeat (first | exact Mem.here | apply Mem.there)) ?_))
theorem revdo_0 (c : Cl) (x : AdC) (e : Ev) (hn : c.bs.length ≤ 1000000) (hok : c.Ok) (h1 : e.k ≠ 1) (h2 : e.k ≠ 2) (h3 : e.k ≠ 3) (h4 : e.k ≠ 4) (h5 : e.k ≠ 5) (h6 : e.k ≠ 6) : Ct Tryd.prog 11 [c.v x, e.v] [] [.rd x.1 (bxsV c.bs)] (doE c e).v (fun y => [(doE c e).row y]) (fun _ => []) := by
  rw [doE_ok hok, show happ c e = c by rw [happ, if_neg h1, if_neg h2, if_neg h3, if_neg h4, if_neg h5, if_neg h6]]
  have hne : ∀ {k : UInt8}, e.k ≠ k → decide (((e.k.toNat : Nat) : Int) = ((k.toNat : Nat) : Int)) = false := fun h => by simp; intro h2; exact h (UInt8.toNat_inj.1 (by omega))
  refine Ct.of _ Tryd.func11 Tryd.ntmps11 rfl rfl (fun X W => ?_)
  refine Jc.seq ?_
  refine Jc.region ?_
  refine Jl.box rfl (by rfl) ?_
  intro b2
  refine Jl.box rfl (by rfl) ?_
  intro b3
  refine Jl.alloc tze24 ?_
  intro b4
  refine Jl.nil ?_
  refine Jq.thenN ?_
  refine Jc.seq ?_
  refine Jc.region ?_
  refine Jl.pv (PR.loadW rfl tsh24 (by repeat (first | exact Has.here | apply Has.there)) (by rfl)) ?_
  refine Jl.call (rown_ct c x hn) en18 (by rfl) (by repeat (first | exact Take.nil | apply Take.cons (by repeat (first | exact Del.here | apply Del.there)))) (by repeat (first | exact trivial | refine And.intro (by repeat (first | exact Mem.here | apply Mem.there)) ?_)) ?_
  rintro ⟨A7, c7⟩
  refine Jl.storeW rfl tsh24 rfl (by rfl) (by first | exact Cl.cs_one _ _ | simp [Value.oneCell']) (by repeat (first | exact Swap.here | apply Swap.there)) (by rfl) ?_
  refine Jl.nil ?_
  refine Jq.thenN ?_
  refine Jc.seq ?_
  refine Jc.seq ?_
  refine Jc.region ?_
  refine Jl.pv (PR.loadW rfl tsh24 (by repeat (first | exact Has.here | apply Has.there)) (by rfl)) ?_
  refine Jl.calll (fs := []) (cs := []) (rright_ct c (A7, c7) hn) en16 rfl (by rfl) (by rfl) (by repeat (first | exact Take.nil | apply Take.cons (by repeat (first | exact Del.here | apply Del.there)))) (ls := [c.row (A7, c7)]) (by repeat (first | exact Take.nil | apply Take.cons (by repeat (first | exact Del.here | apply Del.there)))) (by repeat (first | exact Lends.nil | apply Lends.row | apply Lends.blk)) (by repeat (first | exact trivial | refine And.intro (by repeat (first | exact Mem.here | apply Mem.there)) ?_)) ?_
  rintro ⟨⟩
  refine Jl.as (.bool true) (congrArg Value.bool (Cl.ok_iff.2 hok)) ?_
  refine Jl.pv (PR.not rfl) ?_
  refine Jl.nil ?_
  refine Jq.thenN ?_
  refine Jc.condF rfl ?_
  refine Jc.skip ?_
  refine Jq.thenN ?_
  refine Jc.seq ?_
  refine Jc.region ?_
  refine Jl.pv (PR.loadW rfl tsh24 (by repeat (first | exact Has.here | apply Has.there)) (by rfl)) ?_
  refine Jl.pv (PR.fieldAddr rfl tfl26_1) ?_
  refine Jl.pv (PR.load1 rfl tsh3 (by repeat (first | exact Has.here | apply Has.there)) (by rfl)) ?_
  refine Jl.calll (fs := []) (cs := []) (rfind_ct c (A7, c7) e.a hn) en19 rfl (by rfl) (by rfl) (by repeat (first | exact Take.nil | apply Take.cons (by repeat (first | exact Del.here | apply Del.there)))) (ls := [c.row (A7, c7)]) (by repeat (first | exact Take.nil | apply Take.cons (by repeat (first | exact Del.here | apply Del.there)))) (by repeat (first | exact Lends.nil | apply Lends.row | apply Lends.blk)) (by repeat (first | exact trivial | refine And.intro (by repeat (first | exact Mem.here | apply Mem.there)) ?_)) ?_
  rintro ⟨⟩
  refine Jl.pv (PR.assign rfl) ?_
  refine Jl.nil ?_
  refine Jq.thenN ?_
  refine Jc.seq ?_
  refine Jc.seq ?_
  refine Jc.region ?_
  refine Jl.pv (PR.fieldAddr rfl tfl26_0) ?_
  refine Jl.pv (PR.load1 rfl tsh5 (by repeat (first | exact Has.here | apply Has.there)) (by rfl)) ?_
  refine Jl.nil ?_
  refine Jq.thenN ?_
  refine Jc.block ?_
  refine Jc.seq ?_
  refine Jc.region ?_
  refine Jl.pv (PR.eql false rfl rfl (hne h1)) ?_
  refine Jl.pv (PR.assign rfl) ?_
  refine Jl.nil ?_
  refine Jq.thenN ?_
  refine Jc.condF rfl ?_
  refine Jc.seq ?_
  refine Jc.region ?_
  refine Jl.pv (PR.eql false rfl rfl (hne h2)) ?_
  refine Jl.pv (PR.assign rfl) ?_
  refine Jl.nil ?_
  refine Jq.thenN ?_
  refine Jc.condF rfl ?_
  refine Jc.seq ?_
  refine Jc.region ?_
  refine Jl.pv (PR.eql false rfl rfl (hne h3)) ?_
  refine Jl.pv (PR.assign rfl) ?_
  refine Jl.nil ?_
  refine Jq.thenN ?_
  refine Jc.condF rfl ?_
  refine Jc.seq ?_
  refine Jc.region ?_
  refine Jl.pv (PR.eql false rfl rfl (hne h4)) ?_
  refine Jl.pv (PR.assign rfl) ?_
  refine Jl.nil ?_
  refine Jq.thenN ?_
  refine Jc.condF rfl ?_
  refine Jc.seq ?_
  refine Jc.region ?_
  refine Jl.pv (PR.eql false rfl rfl (hne h5)) ?_
  refine Jl.pv (PR.assign rfl) ?_
  refine Jl.nil ?_
  refine Jq.thenN ?_
  refine Jc.condF rfl ?_
  refine Jc.seq ?_
  refine Jc.region ?_
  refine Jl.pv (PR.eql false rfl rfl (hne h6)) ?_
  refine Jl.pv (PR.assign rfl) ?_
  refine Jl.nil ?_
  refine Jq.thenN ?_
  refine Jc.condF rfl ?_
  refine Jc.skip ?_
  refine Jq.blkN ?_
  refine Jq.thenN ?_
  refine Jc.seq ?_
  refine Jc.region ?_
  refine Jl.pv (PR.loadW rfl tsh24 (by repeat (first | exact Has.here | apply Has.there)) (by rfl)) ?_
  refine Jl.storeW rfl tsh24 rfl (by rfl) (by first | exact Cl.cs_one _ _ | simp [Value.oneCell']) (by repeat (first | exact Swap.here | apply Swap.there)) (by rfl) ?_
  refine Jl.nil ?_
  refine Jq.thenN ?_
  refine Jc.ret ?_
  exact Jq.fin (A7, c7) (.inl rfl) rfl (RetVs.cellA rfl (by repeat (first | exact Has.here | apply Has.there)) tsh24 (by rfl) RetVs.nil) rfl (by repeat (first | exact Take.nil | apply Take.cons (by repeat (first | exact Del.here | apply Del.there)))) (by repeat (first | exact trivial | refine And.intro (by repeat (first | exact Mem.here | apply Mem.there)) ?_))
theorem revdo_ct (c : Cl) (x : AdC) (e : Ev) (hn : c.bs.length ≤ 1000000) : Ct Tryd.prog 11 [c.v x, e.v] [] [.rd x.1 (bxsV c.bs)] (doE c e).v (fun y => [(doE c e).row y]) (fun _ => []) := by
  by_cases hok : c.Ok
  · by_cases h1 : e.k = 1
    · exact revdo_1 c x e hn hok h1
    · by_cases h2 : e.k = 2
      · exact revdo_2 c x e hn hok h2
      · by_cases h3 : e.k = 3
        · exact revdo_3 c x e hn hok h3
        · by_cases h4 : e.k = 4
          · exact revdo_4 c x e hn hok h4
          · by_cases h5 : e.k = 5
            · exact revdo_5 c x e hn hok h5
            · by_cases h6 : e.k = 6
              · exact revdo_6 c x e hn hok h6
              · exact revdo_0 c x e hn hok h1 h2 h3 h4 h5 h6
  · exact revdo_no c x e hn hok
theorem revfalls_ct (e : Ev) : Ct Tryd.prog 15 [e.v] [] [] (fun _ : Unit => .bool (falls e)) (fun _ => []) (fun _ => []) := by
  have h1 : ∀ k : UInt8, decide (((e.k.toNat : Nat) : Int) = ((k.toNat : Nat) : Int)) = decide (e.k = k) := fun k => decide_eq_decide.2 ⟨fun h => UInt8.toNat_inj.1 (by omega), fun h => by rw [h]⟩
  refine Ct.of _ Tryd.func15 Tryd.ntmps15 rfl rfl (fun X W => ?_)
  refine Jc.seq ?_
  refine Jc.region ?_
  refine Jl.box rfl (by rfl) ?_
  intro b1
  refine Jl.pv (PR.assign rfl) ?_
  refine Jl.nil ?_
  refine Jq.thenN ?_
  refine Jc.seq ?_
  refine Jc.region ?_
  refine Jl.pv (PR.fieldAddr rfl tfl26_0) ?_
  refine Jl.pv (PR.load1 rfl tsh5 (by repeat (first | exact Has.here | apply Has.there)) (by rfl)) ?_
  refine Jl.pv (PR.eql (decide (e.k = 1)) rfl rfl (h1 1)) ?_
  refine Jl.pv (PR.move rfl) ?_
  refine Jl.bsplit (fun g6 => ?_) (fun g6 => ?_)
  · try replace g6 := of_decide_eq_true g6
    refine Jl.offS rfl rfl rfl ?_
    refine Jl.offS rfl rfl rfl ?_
    refine Jl.offS rfl rfl rfl ?_
    refine Jl.pv (PR.pickT rfl rfl) ?_
    refine Jl.pv (PR.assign rfl) ?_
    refine Jl.nil ?_
    refine Jq.thenN ?_
    refine Jc.ret ?_
    exact Jq.fin () (.inl rfl) rfl (RetVs.tmp rfl RetVs.nil) (by simp_all [retval, falls]) (by repeat (first | exact Take.nil | apply Take.cons (by repeat (first | exact Del.here | apply Del.there)))) (by repeat (first | exact trivial | refine And.intro (by repeat (first | exact Mem.here | apply Mem.there)) ?_))
  · try replace g6 := of_decide_eq_false g6
    refine Jl.on rfl rfl ?_
    refine Jl.pv (PR.fieldAddr rfl tfl26_0) ?_
    refine Jl.on rfl rfl ?_
    refine Jl.pv (PR.load1 rfl tsh5 (by repeat (first | exact Has.here | apply Has.there)) (by rfl)) ?_
    refine Jl.on rfl rfl ?_
    refine Jl.pv (PR.eql (decide (e.k = 2)) rfl rfl (h1 2)) ?_
    refine Jl.pv (PR.pickF rfl rfl) ?_
    refine Jl.pv (PR.assign rfl) ?_
    refine Jl.nil ?_
    refine Jq.thenN ?_
    refine Jc.ret ?_
    exact Jq.fin () (.inl rfl) rfl (RetVs.tmp rfl RetVs.nil) (by simp_all [retval, falls]) (by repeat (first | exact Take.nil | apply Take.cons (by repeat (first | exact Del.here | apply Del.there)))) (by repeat (first | exact trivial | refine And.intro (by repeat (first | exact Mem.here | apply Mem.there)) ?_))
end Go.Proofs.YtakkoandmkomdaaDoor
