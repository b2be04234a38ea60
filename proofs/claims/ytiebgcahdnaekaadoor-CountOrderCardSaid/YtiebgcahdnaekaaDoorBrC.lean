/-
Contracts of brains: Apply, of RecMade, RecStart, RecCancel.
-/
import Derived.Test.YtiebgcahdnaekaaDoorBrT
import Derived.Test.YtiebgcahdnaekaaDoorBrX
namespace Go.Proofs.YtiebgcahdnaekaaDoor
set_option linter.unusedVariables false
open Go.RowKit
attribute [local irreducible] Res.blk Res.row Fact.rd
theorem numbers_ct (A : Option Addr) (c : Nat) (l : List Int) (hn : l.length ≤ 1000000) : Ct Tryd.prog 30 [.slice A l.length c] [] [.rd A (i64s l)] (fun _ : Unit => .bool (numsOk l)) (fun _ => []) (fun _ => []) := by
  refine Ct.of _ Tryd.func30 Tryd.ntmps30 rfl rfl (fun X W => ?_)
  refine Jc.seq ?_
  refine Jc.region ?_
  refine Jl.pv (PR.assign rfl) ?_
  refine Jl.nil ?_
  refine Jq.thenN ?_
  refine Jc.seq ?_
  refine Jc.seq ?_
  refine Jc.region ?_
  refine Jl.pv (PR.assign rfl) ?_
  refine Jl.nil ?_
  refine Jq.thenN ?_
  refine Jc.block ?_
  refine Jc.loop (σ := { k : Nat // k ≤ l.length ∧ ∀ j (h : j < l.length), j < k → 0 ≤ l[j] ∧ l[j] ≤ 1099511627776 }) (fun s => [(3, .int .i64 (s.1 : Int)), (0, .slice A l.length c)]) (fun _ => []) (fun s => [.rd A (i64s l)]) (fun s => l.length - s.1) ⟨0, Nat.zero_le _, fun j h h2 => by omega⟩ (by repeat (first | exact trivial | refine And.intro rfl ?_)) rfl (by repeat (first | exact trivial | refine And.intro (by repeat (first | exact Mem.here | apply Mem.there)) ?_)) ?_
  rintro ⟨k, hk, hN⟩
  show Jc _ _ _ _ _ _ [(3, Value.int .i64 (k : Int)), (0, .slice A l.length c)] [] [.rd A (i64s l)]
  refine Jc.seq ?_
  refine Jc.seq ?_
  refine Jc.region ?_
  refine Jl.pv (PR.move rfl) ?_
  refine Jl.pv (PR.move rfl) ?_
  refine Jl.pv (PR.len rfl tsl22) ?_
  refine Jl.pv (PR.lss _ rfl rfl rfl) ?_
  refine Jl.nil ?_
  refine Jq.thenN ?_
  refine Jc.cond rfl (fun h0 => ?_) (fun h0 => ?_)
  · try replace h0 := of_decide_eq_true h0
    have hlt : k < l.length := by omega
    refine Jc.skip ?_
    refine Jq.thenN ?_
    refine Jc.seq ?_
    refine Jc.block ?_
    refine Jc.seq ?_
    refine Jc.region ?_
    refine Jl.pv (PR.move rfl) ?_
    refine Jl.pv (PR.move rfl) ?_
    refine Jl.pv (PR.idx1 k rfl rfl tsl22 (by repeat (first | exact Mem.here | apply Mem.there)) (by simp [i64s]) rfl hlt) ?_
    refine Jl.pv (PR.loadR rfl tsh3 (by repeat (first | exact Mem.here | apply Mem.there)) (getm hlt)) ?_
    refine Jl.pv (PR.lss _ rfl rfl rfl) ?_
    refine Jl.pv (PR.move rfl) ?_
    refine Jl.bsplit (fun g15 => ?_) (fun g15 => ?_)
    · try replace g15 := of_decide_eq_true g15
      refine Jl.offS rfl rfl rfl ?_
      refine Jl.offS rfl rfl rfl ?_
      refine Jl.offS rfl rfl rfl ?_
      refine Jl.offS rfl rfl rfl ?_
      refine Jl.offS rfl rfl rfl ?_
      refine Jl.pv (PR.pickT rfl rfl) ?_
      refine Jl.nil ?_
      refine Jq.thenN ?_
      refine Jc.condT rfl ?_
      refine Jc.seq ?_
      refine Jc.region ?_
      refine Jl.pv (PR.assign rfl) ?_
      refine Jl.nil ?_
      refine Jq.thenN ?_
      refine Jc.ret ?_
      refine Jq.blkR ?_
      refine Jq.thenR ?_
      refine Jq.thenR ?_
      refine Jq.blkR ?_
      refine Jq.thenR ?_
      exact Jq.fin () (.inl rfl) rfl (RetVs.tmp rfl RetVs.nil) (congrArg Value.bool (numsOk_no k hlt (by omega))) (by repeat (first | exact Take.nil | apply Take.cons (by repeat (first | exact Del.here | apply Del.there)))) (by repeat (first | exact trivial | refine And.intro (by repeat (first | exact Mem.here | apply Mem.there)) ?_))
    · try replace g15 := of_decide_eq_false g15
      refine Jl.on rfl rfl ?_
      refine Jl.pv (PR.move rfl) ?_
      refine Jl.on rfl rfl ?_
      refine Jl.pv (PR.move rfl) ?_
      refine Jl.on rfl rfl ?_
      refine Jl.pv (PR.idx1 k rfl rfl tsl22 (by repeat (first | exact Mem.here | apply Mem.there)) (by simp [i64s]) rfl hlt) ?_
      refine Jl.on rfl rfl ?_
      refine Jl.pv (PR.loadR rfl tsh3 (by repeat (first | exact Mem.here | apply Mem.there)) (getm hlt)) ?_
      refine Jl.on rfl rfl ?_
      refine Jl.pv (PR.gtr _ rfl rfl rfl) ?_
      refine Jl.pv (PR.pickF rfl rfl) ?_
      refine Jl.nil ?_
      refine Jq.thenN ?_
      refine Jc.cond rfl (fun h1 => ?_) (fun h1 => ?_)
      · try replace h1 := of_decide_eq_true h1
        refine Jc.seq ?_
        refine Jc.region ?_
        refine Jl.pv (PR.assign rfl) ?_
        refine Jl.nil ?_
        refine Jq.thenN ?_
        refine Jc.ret ?_
        refine Jq.blkR ?_
        refine Jq.thenR ?_
        refine Jq.thenR ?_
        refine Jq.blkR ?_
        refine Jq.thenR ?_
        exact Jq.fin () (.inl rfl) rfl (RetVs.tmp rfl RetVs.nil) (congrArg Value.bool (numsOk_no k hlt (by omega))) (by repeat (first | exact Take.nil | apply Take.cons (by repeat (first | exact Del.here | apply Del.there)))) (by repeat (first | exact trivial | refine And.intro (by repeat (first | exact Mem.here | apply Mem.there)) ?_))
      · try replace h1 := of_decide_eq_false h1
        refine Jc.skip ?_
        refine Jq.blkN ?_
        refine Jq.thenN ?_
        refine Jc.region ?_
        refine Jl.pv (PR.move rfl) ?_
        refine Jl.pv (PR.add ((k + 1 : Nat) : Int) rfl rfl (by rw [w64 (by omega) (by omega)]; rfl)) ?_
        refine Jl.pv (PR.assign rfl) ?_
        refine Jl.nil ?_
        exact Jq.againT ⟨k + 1, hlt, fun j hj hjk => by rcases Nat.lt_succ_iff_lt_or_eq.1 hjk with h | rfl; exact hN j hj h; exact ⟨by omega, by omega⟩⟩ (by simp only; omega) (by repeat (first | exact trivial | refine And.intro rfl ?_)) (by repeat (first | exact Take.nil | apply Take.cons (by repeat (first | exact Del.here | apply Del.there)))) (by repeat (first | exact trivial | refine And.intro (by repeat (first | exact Mem.here | apply Mem.there)) ?_))
  · try replace h0 := of_decide_eq_false h0
    obtain rfl : k = l.length := by omega
    refine Jc.exit ?_
    refine Jq.thenX ?_
    refine Jq.thenX ?_
    refine Jq.blkX ?_
    refine Jq.thenN ?_
    refine Jc.seq ?_
    refine Jc.region ?_
    refine Jl.pv (PR.assign rfl) ?_
    refine Jl.nil ?_
    refine Jq.thenN ?_
    refine Jc.ret ?_
    exact Jq.fin () (.inl rfl) rfl (RetVs.tmp rfl RetVs.nil) (congrArg Value.bool (numsOk_iff.2 fun j hj => hN j hj hj)) (by repeat (first | exact Take.nil | apply Take.cons (by repeat (first | exact Del.here | apply Del.there)))) (by repeat (first | exact trivial | refine And.intro (by repeat (first | exact Mem.here | apply Mem.there)) ?_))
theorem many4_ct : Ct Tryd.prog 32 [.int .u8 4] [] [] (fun _ : Unit => .int .i64 3) (fun _ => []) (fun _ => []) := by
  refine Ct.of _ Tryd.func32 Tryd.ntmps32 rfl rfl (fun X W => ?_)
  refine Jc.seq ?_
  refine Jc.region ?_
  refine Jl.pv (PR.assign rfl) ?_
  refine Jl.nil ?_
  refine Jq.thenN ?_
  refine Jc.seq ?_
  refine Jc.seq ?_
  refine Jc.region ?_
  refine Jl.pv (PR.move rfl) ?_
  refine Jl.nil ?_
  refine Jq.thenN ?_
  refine Jc.block ?_
  refine Jc.seq ?_
  refine Jc.seq ?_
  refine Jc.region ?_
  refine Jl.pv (PR.eql false rfl rfl (by decide)) ?_
  refine Jl.pv (PR.assign rfl) ?_
  refine Jl.nil ?_
  refine Jq.thenN ?_
  refine Jc.condF rfl ?_
  refine Jc.seq ?_
  refine Jc.region ?_
  refine Jl.pv (PR.eql false rfl rfl (by decide)) ?_
  refine Jl.pv (PR.assign rfl) ?_
  refine Jl.nil ?_
  refine Jq.thenN ?_
  refine Jc.condF rfl ?_
  refine Jc.seq ?_
  refine Jc.region ?_
  refine Jl.pv (PR.eql false rfl rfl (by decide)) ?_
  refine Jl.pv (PR.assign rfl) ?_
  refine Jl.nil ?_
  refine Jq.thenN ?_
  refine Jc.condF rfl ?_
  refine Jc.seq ?_
  refine Jc.region ?_
  refine Jl.pv (PR.eql false rfl rfl (by decide)) ?_
  refine Jl.pv (PR.assign rfl) ?_
  refine Jl.nil ?_
  refine Jq.thenN ?_
  refine Jc.condF rfl ?_
  refine Jc.region ?_
  refine Jl.pv (PR.eql false rfl rfl (by decide)) ?_
  refine Jl.pv (PR.assign rfl) ?_
  refine Jl.nil ?_
  refine Jq.thenN ?_
  refine Jc.condF rfl ?_
  refine Jc.seq ?_
  refine Jc.seq ?_
  refine Jc.region ?_
  refine Jl.pv (PR.eql false rfl rfl (by decide)) ?_
  refine Jl.pv (PR.assign rfl) ?_
  refine Jl.nil ?_
  refine Jq.thenN ?_
  refine Jc.condF rfl ?_
  refine Jc.seq ?_
  refine Jc.region ?_
  refine Jl.pv (PR.eql false rfl rfl (by decide)) ?_
  refine Jl.pv (PR.assign rfl) ?_
  refine Jl.nil ?_
  refine Jq.thenN ?_
  refine Jc.condF rfl ?_
  refine Jc.seq ?_
  refine Jc.region ?_
  refine Jl.pv (PR.eql false rfl rfl (by decide)) ?_
  refine Jl.pv (PR.assign rfl) ?_
  refine Jl.nil ?_
  refine Jq.thenN ?_
  refine Jc.condF rfl ?_
  refine Jc.region ?_
  refine Jl.pv (PR.eql false rfl rfl (by decide)) ?_
  refine Jl.pv (PR.assign rfl) ?_
  refine Jl.nil ?_
  refine Jq.thenN ?_
  refine Jc.condF rfl ?_
  refine Jc.seq ?_
  refine Jc.seq ?_
  refine Jc.region ?_
  refine Jl.pv (PR.eql false rfl rfl (by decide)) ?_
  refine Jl.pv (PR.assign rfl) ?_
  refine Jl.nil ?_
  refine Jq.thenN ?_
  refine Jc.condF rfl ?_
  refine Jc.region ?_
  refine Jl.pv (PR.eql false rfl rfl (by decide)) ?_
  refine Jl.pv (PR.assign rfl) ?_
  refine Jl.nil ?_
  refine Jq.thenN ?_
  refine Jc.condF rfl ?_
  refine Jc.seq ?_
  refine Jc.seq ?_
  refine Jc.region ?_
  refine Jl.pv (PR.eql false rfl rfl (by decide)) ?_
  refine Jl.pv (PR.assign rfl) ?_
  refine Jl.nil ?_
  refine Jq.thenN ?_
  refine Jc.condF rfl ?_
  refine Jc.seq ?_
  refine Jc.region ?_
  refine Jl.pv (PR.eql true rfl rfl (by decide)) ?_
  refine Jl.pv (PR.assign rfl) ?_
  refine Jl.nil ?_
  refine Jq.thenN ?_
  refine Jc.condT rfl ?_
  refine Jc.skip ?_
  refine Jq.thenN ?_
  refine Jc.condT rfl ?_
  refine Jc.seq ?_
  refine Jc.region ?_
  refine Jl.pv (PR.assign rfl) ?_
  refine Jl.nil ?_
  refine Jq.thenN ?_
  refine Jc.ret ?_
  refine Jq.blkR ?_
  refine Jq.thenR ?_
  exact Jq.fin () (.inl rfl) rfl (RetVs.tmp rfl RetVs.nil) rfl (by repeat (first | exact Take.nil | apply Take.cons (by repeat (first | exact Del.here | apply Del.there)))) (by repeat (first | exact trivial | refine And.intro (by repeat (first | exact Mem.here | apply Mem.there)) ?_))
theorem many11_ct : Ct Tryd.prog 32 [.int .u8 11] [] [] (fun _ : Unit => .int .i64 2) (fun _ => []) (fun _ => []) := by
  refine Ct.of _ Tryd.func32 Tryd.ntmps32 rfl rfl (fun X W => ?_)
  refine Jc.seq ?_
  refine Jc.region ?_
  refine Jl.pv (PR.assign rfl) ?_
  refine Jl.nil ?_
  refine Jq.thenN ?_
  refine Jc.seq ?_
  refine Jc.seq ?_
  refine Jc.region ?_
  refine Jl.pv (PR.move rfl) ?_
  refine Jl.nil ?_
  refine Jq.thenN ?_
  refine Jc.block ?_
  refine Jc.seq ?_
  refine Jc.seq ?_
  refine Jc.region ?_
  refine Jl.pv (PR.eql false rfl rfl (by decide)) ?_
  refine Jl.pv (PR.assign rfl) ?_
  refine Jl.nil ?_
  refine Jq.thenN ?_
  refine Jc.condF rfl ?_
  refine Jc.seq ?_
  refine Jc.region ?_
  refine Jl.pv (PR.eql false rfl rfl (by decide)) ?_
  refine Jl.pv (PR.assign rfl) ?_
  refine Jl.nil ?_
  refine Jq.thenN ?_
  refine Jc.condF rfl ?_
  refine Jc.seq ?_
  refine Jc.region ?_
  refine Jl.pv (PR.eql false rfl rfl (by decide)) ?_
  refine Jl.pv (PR.assign rfl) ?_
  refine Jl.nil ?_
  refine Jq.thenN ?_
  refine Jc.condF rfl ?_
  refine Jc.seq ?_
  refine Jc.region ?_
  refine Jl.pv (PR.eql false rfl rfl (by decide)) ?_
  refine Jl.pv (PR.assign rfl) ?_
  refine Jl.nil ?_
  refine Jq.thenN ?_
  refine Jc.condF rfl ?_
  refine Jc.region ?_
  refine Jl.pv (PR.eql false rfl rfl (by decide)) ?_
  refine Jl.pv (PR.assign rfl) ?_
  refine Jl.nil ?_
  refine Jq.thenN ?_
  refine Jc.condF rfl ?_
  refine Jc.seq ?_
  refine Jc.seq ?_
  refine Jc.region ?_
  refine Jl.pv (PR.eql false rfl rfl (by decide)) ?_
  refine Jl.pv (PR.assign rfl) ?_
  refine Jl.nil ?_
  refine Jq.thenN ?_
  refine Jc.condF rfl ?_
  refine Jc.seq ?_
  refine Jc.region ?_
  refine Jl.pv (PR.eql false rfl rfl (by decide)) ?_
  refine Jl.pv (PR.assign rfl) ?_
  refine Jl.nil ?_
  refine Jq.thenN ?_
  refine Jc.condF rfl ?_
  refine Jc.seq ?_
  refine Jc.region ?_
  refine Jl.pv (PR.eql false rfl rfl (by decide)) ?_
  refine Jl.pv (PR.assign rfl) ?_
  refine Jl.nil ?_
  refine Jq.thenN ?_
  refine Jc.condF rfl ?_
  refine Jc.region ?_
  refine Jl.pv (PR.eql false rfl rfl (by decide)) ?_
  refine Jl.pv (PR.assign rfl) ?_
  refine Jl.nil ?_
  refine Jq.thenN ?_
  refine Jc.condF rfl ?_
  refine Jc.seq ?_
  refine Jc.seq ?_
  refine Jc.region ?_
  refine Jl.pv (PR.eql false rfl rfl (by decide)) ?_
  refine Jl.pv (PR.assign rfl) ?_
  refine Jl.nil ?_
  refine Jq.thenN ?_
  refine Jc.condF rfl ?_
  refine Jc.region ?_
  refine Jl.pv (PR.eql true rfl rfl (by decide)) ?_
  refine Jl.pv (PR.assign rfl) ?_
  refine Jl.nil ?_
  refine Jq.thenN ?_
  refine Jc.condT rfl ?_
  refine Jc.seq ?_
  refine Jc.region ?_
  refine Jl.pv (PR.assign rfl) ?_
  refine Jl.nil ?_
  refine Jq.thenN ?_
  refine Jc.ret ?_
  refine Jq.blkR ?_
  refine Jq.thenR ?_
  exact Jq.fin () (.inl rfl) rfl (RetVs.tmp rfl RetVs.nil) rfl (by repeat (first | exact Take.nil | apply Take.cons (by repeat (first | exact Del.here | apply Del.there)))) (by repeat (first | exact trivial | refine And.intro (by repeat (first | exact Mem.here | apply Mem.there)) ?_))
theorem many12_ct : Ct Tryd.prog 32 [.int .u8 12] [] [] (fun _ : Unit => .int .i64 0) (fun _ => []) (fun _ => []) := by
  refine Ct.of _ Tryd.func32 Tryd.ntmps32 rfl rfl (fun X W => ?_)
  refine Jc.seq ?_
  refine Jc.region ?_
  refine Jl.pv (PR.assign rfl) ?_
  refine Jl.nil ?_
  refine Jq.thenN ?_
  refine Jc.seq ?_
  refine Jc.seq ?_
  refine Jc.region ?_
  refine Jl.pv (PR.move rfl) ?_
  refine Jl.nil ?_
  refine Jq.thenN ?_
  refine Jc.block ?_
  refine Jc.seq ?_
  refine Jc.seq ?_
  refine Jc.region ?_
  refine Jl.pv (PR.eql false rfl rfl (by decide)) ?_
  refine Jl.pv (PR.assign rfl) ?_
  refine Jl.nil ?_
  refine Jq.thenN ?_
  refine Jc.condF rfl ?_
  refine Jc.seq ?_
  refine Jc.region ?_
  refine Jl.pv (PR.eql true rfl rfl (by decide)) ?_
  refine Jl.pv (PR.assign rfl) ?_
  refine Jl.nil ?_
  refine Jq.thenN ?_
  refine Jc.condT rfl ?_
  refine Jc.skip ?_
  refine Jq.thenN ?_
  refine Jc.condT rfl ?_
  refine Jc.seq ?_
  refine Jc.region ?_
  refine Jl.pv (PR.assign rfl) ?_
  refine Jl.nil ?_
  refine Jq.thenN ?_
  refine Jc.ret ?_
  refine Jq.blkR ?_
  refine Jq.thenR ?_
  exact Jq.fin () (.inl rfl) rfl (RetVs.tmp rfl RetVs.nil) rfl (by repeat (first | exact Take.nil | apply Take.cons (by repeat (first | exact Del.here | apply Del.there)))) (by repeat (first | exact trivial | refine And.intro (by repeat (first | exact Mem.here | apply Mem.there)) ?_))
/-- A place, or none. -/
abbrev Plc (n : Nat) := { i : Int // i = -1 ∨ ∃ k : Nat, i = k ∧ k < n }
theorem token_ct (b : Br) (z : BrA) (t : Int) (hn : b.its.length ≤ 1000000) : Ct Tryd.prog 43 [b.v z, .int .i64 t] [] (b.rd z) (fun x : Plc b.its.length => .int .i64 x.1) (fun _ => []) (fun _ => []) := by
  obtain ⟨⟨M, cM⟩, ⟨I, cI⟩, ⟨K, cK⟩⟩ := z
  have hl4 := itsV_len b.its
  refine Ct.of _ Tryd.func43 Tryd.ntmps43 rfl rfl (fun X W => ?_)
  refine Jc.seq ?_
  refine Jc.region ?_
  refine Jl.box rfl (by rfl) ?_
  intro b2
  refine Jl.pv (PR.assign rfl) ?_
  refine Jl.nil ?_
  refine Jq.thenN ?_
  refine Jc.seq ?_
  refine Jc.seq ?_
  refine Jc.region ?_
  refine Jl.pv (PR.assign rfl) ?_
  refine Jl.nil ?_
  refine Jq.thenN ?_
  refine Jc.block ?_
  refine Jc.loop (σ := { k : Nat // k ≤ b.its.length }) (fun s => [(5, .int .i64 (s.1 : Int)), (2, .pointer (some ⟨b2, 0, none⟩)), (1, .int .i64 t)]) (fun _ => [.blk b2 30 (b.cs ((M, cM), (I, cI), (K, cK)))]) (fun s => [.rd M (i64s b.cf.ms), .rd I (itsV b.its), .rd K (kpsV b.kps)]) (fun s => b.its.length - s.1) ⟨0, Nat.zero_le _⟩ (by repeat (first | exact trivial | refine And.intro rfl ?_)) rfl (by repeat (first | exact trivial | refine And.intro (by repeat (first | exact Mem.here | apply Mem.there)) ?_)) ?_
  rintro ⟨k, hk⟩
  show Jc _ _ _ _ _ _ [(5, Value.int .i64 (k : Int)), (2, .pointer (some ⟨b2, 0, none⟩)), (1, .int .i64 t)] [.blk b2 30 (b.cs ((M, cM), (I, cI), (K, cK)))] [.rd M (i64s b.cf.ms), .rd I (itsV b.its), .rd K (kpsV b.kps)]
  refine Jc.seq ?_
  refine Jc.seq ?_
  refine Jc.region ?_
  refine Jl.pv (PR.move rfl) ?_
  refine Jl.pv (PR.fieldAddr rfl tfl30_4) ?_
  refine Jl.pv (PR.load1 rfl tsh25 (by repeat (first | exact Has.here | apply Has.there)) (by rfl)) ?_
  refine Jl.pv (PR.len rfl tsl25) ?_
  refine Jl.pv (PR.lss _ rfl rfl rfl) ?_
  refine Jl.nil ?_
  refine Jq.thenN ?_
  refine Jc.cond rfl (fun h0 => ?_) (fun h0 => ?_)
  · try replace h0 := of_decide_eq_true h0
    have hlt : k < b.its.length := by omega
    refine Jc.skip ?_
    refine Jq.thenN ?_
    refine Jc.seq ?_
    refine Jc.block ?_
    refine Jc.seq ?_
    refine Jc.region ?_
    refine Jl.pv (PR.fieldAddr rfl tfl30_4) ?_
    refine Jl.pv (PR.load1 rfl tsh25 (by repeat (first | exact Has.here | apply Has.there)) (by rfl)) ?_
    refine Jl.pv (PR.move rfl) ?_
    refine Jl.pv (PR.idx k rfl rfl tsl25 (by repeat (first | exact Mem.here | apply Mem.there)) (itsV_len _) (by omega) rfl hlt) ?_
    refine Jl.pv (PR.fieldAddrR rfl tfl43_0 (by repeat (first | exact Mem.here | apply Mem.there)) (by omega)) ?_
    refine Jl.pv (PR.loadR rfl tsh3 (by repeat (first | exact Mem.here | apply Mem.there)) (its_f hlt 0 rfl)) ?_
    refine Jl.pv (PR.move rfl) ?_
    refine Jl.pv (PR.eql _ rfl rfl rfl) ?_
    refine Jl.nil ?_
    refine Jq.thenN ?_
    refine Jc.cond rfl (fun h1 => ?_) (fun h1 => ?_)
    · try replace h1 := of_decide_eq_true h1
      refine Jc.seq ?_
      refine Jc.region ?_
      refine Jl.pv (PR.move rfl) ?_
      refine Jl.pv (PR.assign rfl) ?_
      refine Jl.nil ?_
      refine Jq.thenN ?_
      refine Jc.ret ?_
      refine Jq.blkR ?_
      refine Jq.thenR ?_
      refine Jq.thenR ?_
      refine Jq.blkR ?_
      refine Jq.thenR ?_
      exact Jq.fin ⟨(k : Int), .inr ⟨k, rfl, hlt⟩⟩ (.inl rfl) rfl (RetVs.tmp rfl RetVs.nil) rfl (by repeat (first | exact Take.nil | apply Take.cons (by repeat (first | exact Del.here | apply Del.there)))) (by repeat (first | exact trivial | refine And.intro (by repeat (first | exact Mem.here | apply Mem.there)) ?_))
    · try replace h1 := of_decide_eq_false h1
      refine Jc.skip ?_
      refine Jq.blkN ?_
      refine Jq.thenN ?_
      refine Jc.region ?_
      refine Jl.pv (PR.move rfl) ?_
      refine Jl.pv (PR.add ((k + 1 : Nat) : Int) rfl rfl (by rw [w64 (by omega) (by omega)]; rfl)) ?_
      refine Jl.pv (PR.assign rfl) ?_
      refine Jl.nil ?_
      exact Jq.againT ⟨k + 1, hlt⟩ (by simp only; omega) (by repeat (first | exact trivial | refine And.intro rfl ?_)) (by repeat (first | exact Take.nil | apply Take.cons (by repeat (first | exact Del.here | apply Del.there)))) (by repeat (first | exact trivial | refine And.intro (by repeat (first | exact Mem.here | apply Mem.there)) ?_))
  · try replace h0 := of_decide_eq_false h0
    refine Jc.exit ?_
    refine Jq.thenX ?_
    refine Jq.thenX ?_
    refine Jq.blkX ?_
    refine Jq.thenN ?_
    refine Jc.seq ?_
    refine Jc.region ?_
    refine Jl.pv (PR.assign rfl) ?_
    refine Jl.nil ?_
    refine Jq.thenN ?_
    refine Jc.ret ?_
    exact Jq.fin ⟨-1, .inl rfl⟩ (.inl rfl) rfl (RetVs.tmp rfl RetVs.nil) rfl (by repeat (first | exact Take.nil | apply Take.cons (by repeat (first | exact Del.here | apply Del.there)))) (by repeat (first | exact trivial | refine And.intro (by repeat (first | exact Mem.here | apply Mem.there)) ?_))
  -- hint not used: one
theorem find_ct (b : Br) (z : BrA) (t : Int) (hn : b.kps.length ≤ 1000000) : Ct Tryd.prog 44 [b.v z, .int .i64 t] [] (b.rd z) (fun x : Plc b.kps.length => .int .i64 x.1) (fun _ => []) (fun _ => []) := by
  obtain ⟨⟨M, cM⟩, ⟨I, cI⟩, ⟨K, cK⟩⟩ := z
  have hl8 := kpsV_len b.kps
  refine Ct.of _ Tryd.func44 Tryd.ntmps44 rfl rfl (fun X W => ?_)
  refine Jc.seq ?_
  refine Jc.region ?_
  refine Jl.box rfl (by rfl) ?_
  intro b2
  refine Jl.pv (PR.assign rfl) ?_
  refine Jl.nil ?_
  refine Jq.thenN ?_
  refine Jc.seq ?_
  refine Jc.seq ?_
  refine Jc.region ?_
  refine Jl.pv (PR.assign rfl) ?_
  refine Jl.nil ?_
  refine Jq.thenN ?_
  refine Jc.block ?_
  refine Jc.loop (σ := { k : Nat // k ≤ b.kps.length }) (fun s => [(5, .int .i64 (s.1 : Int)), (2, .pointer (some ⟨b2, 0, none⟩)), (1, .int .i64 t)]) (fun _ => [.blk b2 30 (b.cs ((M, cM), (I, cI), (K, cK)))]) (fun s => [.rd M (i64s b.cf.ms), .rd I (itsV b.its), .rd K (kpsV b.kps)]) (fun s => b.kps.length - s.1) ⟨0, Nat.zero_le _⟩ (by repeat (first | exact trivial | refine And.intro rfl ?_)) rfl (by repeat (first | exact trivial | refine And.intro (by repeat (first | exact Mem.here | apply Mem.there)) ?_)) ?_
  rintro ⟨k, hk⟩
  show Jc _ _ _ _ _ _ [(5, Value.int .i64 (k : Int)), (2, .pointer (some ⟨b2, 0, none⟩)), (1, .int .i64 t)] [.blk b2 30 (b.cs ((M, cM), (I, cI), (K, cK)))] [.rd M (i64s b.cf.ms), .rd I (itsV b.its), .rd K (kpsV b.kps)]
  refine Jc.seq ?_
  refine Jc.seq ?_
  refine Jc.region ?_
  refine Jl.pv (PR.move rfl) ?_
  refine Jl.pv (PR.fieldAddr rfl tfl30_5) ?_
  refine Jl.pv (PR.load1 rfl tsh26 (by repeat (first | exact Has.here | apply Has.there)) (by rfl)) ?_
  refine Jl.pv (PR.len rfl tsl26) ?_
  refine Jl.pv (PR.lss _ rfl rfl rfl) ?_
  refine Jl.nil ?_
  refine Jq.thenN ?_
  refine Jc.cond rfl (fun h0 => ?_) (fun h0 => ?_)
  · try replace h0 := of_decide_eq_true h0
    have hlt : k < b.kps.length := by omega
    refine Jc.skip ?_
    refine Jq.thenN ?_
    refine Jc.seq ?_
    refine Jc.block ?_
    refine Jc.seq ?_
    refine Jc.region ?_
    refine Jl.pv (PR.fieldAddr rfl tfl30_5) ?_
    refine Jl.pv (PR.load1 rfl tsh26 (by repeat (first | exact Has.here | apply Has.there)) (by rfl)) ?_
    refine Jl.pv (PR.move rfl) ?_
    refine Jl.pv (PR.idx k rfl rfl tsl26 (by repeat (first | exact Mem.here | apply Mem.there)) (kpsV_len _) (by omega) rfl hlt) ?_
    refine Jl.pv (PR.fieldAddrR rfl tfl38_0 (by repeat (first | exact Mem.here | apply Mem.there)) (by omega)) ?_
    refine Jl.pv (PR.loadR rfl tsh3 (by repeat (first | exact Mem.here | apply Mem.there)) (kps_f hlt 0 rfl)) ?_
    refine Jl.pv (PR.move rfl) ?_
    refine Jl.pv (PR.eql _ rfl rfl rfl) ?_
    refine Jl.nil ?_
    refine Jq.thenN ?_
    refine Jc.cond rfl (fun h1 => ?_) (fun h1 => ?_)
    · try replace h1 := of_decide_eq_true h1
      refine Jc.seq ?_
      refine Jc.region ?_
      refine Jl.pv (PR.move rfl) ?_
      refine Jl.pv (PR.assign rfl) ?_
      refine Jl.nil ?_
      refine Jq.thenN ?_
      refine Jc.ret ?_
      refine Jq.blkR ?_
      refine Jq.thenR ?_
      refine Jq.thenR ?_
      refine Jq.blkR ?_
      refine Jq.thenR ?_
      exact Jq.fin ⟨(k : Int), .inr ⟨k, rfl, hlt⟩⟩ (.inl rfl) rfl (RetVs.tmp rfl RetVs.nil) rfl (by repeat (first | exact Take.nil | apply Take.cons (by repeat (first | exact Del.here | apply Del.there)))) (by repeat (first | exact trivial | refine And.intro (by repeat (first | exact Mem.here | apply Mem.there)) ?_))
    · try replace h1 := of_decide_eq_false h1
      refine Jc.skip ?_
      refine Jq.blkN ?_
      refine Jq.thenN ?_
      refine Jc.region ?_
      refine Jl.pv (PR.move rfl) ?_
      refine Jl.pv (PR.add ((k + 1 : Nat) : Int) rfl rfl (by rw [w64 (by omega) (by omega)]; rfl)) ?_
      refine Jl.pv (PR.assign rfl) ?_
      refine Jl.nil ?_
      exact Jq.againT ⟨k + 1, hlt⟩ (by simp only; omega) (by repeat (first | exact trivial | refine And.intro rfl ?_)) (by repeat (first | exact Take.nil | apply Take.cons (by repeat (first | exact Del.here | apply Del.there)))) (by repeat (first | exact trivial | refine And.intro (by repeat (first | exact Mem.here | apply Mem.there)) ?_))
  · try replace h0 := of_decide_eq_false h0
    refine Jc.exit ?_
    refine Jq.thenX ?_
    refine Jq.thenX ?_
    refine Jq.blkX ?_
    refine Jq.thenN ?_
    refine Jc.seq ?_
    refine Jc.region ?_
    refine Jl.pv (PR.assign rfl) ?_
    refine Jl.nil ?_
    refine Jq.thenN ?_
    refine Jc.ret ?_
    exact Jq.fin ⟨-1, .inl rfl⟩ (.inl rfl) rfl (RetVs.tmp rfl RetVs.nil) rfl (by repeat (first | exact Take.nil | apply Take.cons (by repeat (first | exact Del.here | apply Del.there)))) (by repeat (first | exact trivial | refine And.intro (by repeat (first | exact Mem.here | apply Mem.there)) ?_))
  -- hint not used: one
abbrev KeepR (b : Br) := { a : Nat // a ≤ b.kps.length } × AdC
def Br.kept (b : Br) (x : Kp) (a : Nat) : Br := { b with kps := insL b.kps a x }
theorem keep_ct (b : Br) (z : BrA) (x : Kp) (hn : b.kps.length ≤ 1000000) (hK : b.kps.length ≤ z.2.2.2) : Ct Tryd.prog 45 [b.v z, x.v] [] (b.rd z) (fun y : KeepR b => (b.kept x y.1.1).v (z.1, z.2.1, y.2)) (fun _ => []) (fun y => [.rd y.2.1 (kpsV (insL b.kps y.1.1 x))]) := by
  obtain ⟨⟨M, cM⟩, ⟨I, cI⟩, ⟨K, cK⟩⟩ := z
  have hK' : b.kps.length ≤ cK := hK
  have hl8 := kpsV_len b.kps
  refine Ct.of _ Tryd.func45 Tryd.ntmps45 rfl rfl (fun X W => ?_)
  refine Jc.seq ?_
  refine Jc.region ?_
  refine Jl.box rfl (by rfl) ?_
  intro b2
  refine Jl.box rfl (by rfl) ?_
  intro b3
  refine Jl.alloc tze30 ?_
  intro b4
  refine Jl.nil ?_
  refine Jq.thenN ?_
  refine Jc.seq ?_
  refine Jc.region ?_
  refine Jl.pv (PR.assign rfl) ?_
  refine Jl.nil ?_
  refine Jq.thenN ?_
  refine Jc.seq ?_
  refine Jc.block ?_
  refine Jc.loop (σ := { k : Nat // k ≤ b.kps.length }) (fun s => [(5, .int .i64 (s.1 : Int)), (2, .pointer (some ⟨b2, 0, none⟩)), (3, .pointer (some ⟨b3, 0, none⟩)), (4, .pointer (some ⟨b4, 0, none⟩))]) (fun _ => [.blk b4 30 (bw0.cs nilA), .blk b3 38 x.cs, .blk b2 30 (b.cs ((M, cM), (I, cI), (K, cK)))]) (fun s => [.rd M (i64s b.cf.ms), .rd I (itsV b.its), .rd K (kpsV b.kps)]) (fun s => b.kps.length - s.1) ⟨0, Nat.zero_le _⟩ (by repeat (first | exact trivial | refine And.intro rfl ?_)) rfl (by repeat (first | exact trivial | refine And.intro (by repeat (first | exact Mem.here | apply Mem.there)) ?_)) ?_
  rintro ⟨k, hk⟩
  show Jc _ _ _ _ _ _ [(5, Value.int .i64 (k : Int)), (2, .pointer (some ⟨b2, 0, none⟩)), (3, .pointer (some ⟨b3, 0, none⟩)), (4, .pointer (some ⟨b4, 0, none⟩))] [.blk b4 30 (bw0.cs nilA), .blk b3 38 x.cs, .blk b2 30 (b.cs ((M, cM), (I, cI), (K, cK)))] [.rd M (i64s b.cf.ms), .rd I (itsV b.its), .rd K (kpsV b.kps)]
  have hlk : (insL b.kps k x).length = b.kps.length + 1 := insL_len x hk
  have hlt8 : (kpsV (b.kps.take k)).length = k * 8 := by rw [kpsV_len, List.length_take]; omega
  have hld8 : (kpsV (b.kps.drop k)).length = (b.kps.length - k) * 8 := by rw [kpsV_len, List.length_drop]
  refine Jc.seq ?_
  refine Jc.seq ?_
  refine Jc.drawn [0, 0, 2, 6, 15, 31, 63, 127, 63, 511, 1023, 2047, 63, 4159, 16383, 32767] ([(0, false), (1, false), (2, false), (3, false), (4, false), (5, false), (6, false), (7, false), (8, false), (9, false), (10, false), (11, false), (12, false), (13, false), (14, false), (15, false)], []) [] tmx (by kernel_rfl) ?_
  refine Dh.JH.nil ?_
  refine Dh.JB.pv rfl trivial (fun _ => PR.move rfl) ?_
  refine Dh.JB.pv rfl trivial (fun _ => PR.fieldAddr rfl tfl30_5) ?_
  refine Dh.JB.rd [.blk _ _ _] rfl trivial (by repeat (first | exact Take.nil | apply Take.cons (by repeat (first | exact Del.here | apply Del.there)))) (fun _ => PR.load1 rfl tsh26 Has.here (by rfl)) ?_
  refine Dh.JB.pv rfl trivial (fun _ => PR.len rfl tsl26) ?_
  refine Dh.JB.pv rfl trivial (fun _ => PR.lss _ rfl rfl rfl) ?_
  refine Dh.JB.pv rfl trivial (fun _ => PR.move rfl) ?_
  refine Dh.JB.bsplit (fun g11 => ?_) (fun g11 => ?_)
  · try replace g11 := of_decide_eq_true g11
    have hlt : k < b.kps.length := by omega
    refine Dh.JB.pv rfl ⟨_, rfl, rfl⟩ (fun _ => PR.fieldAddr rfl tfl30_5) ?_
    refine Dh.JB.rd [.blk _ _ _] rfl ⟨_, rfl, rfl⟩ (by repeat (first | exact Take.nil | apply Take.cons (by repeat (first | exact Del.here | apply Del.there)))) (fun _ => PR.load1 rfl tsh26 Has.here (by rfl)) ?_
    refine Dh.JB.pv rfl ⟨_, rfl, rfl⟩ (fun _ => PR.move rfl) ?_
    refine Dh.JB.pv rfl ⟨_, rfl, rfl⟩ (fun _ => PR.idx k rfl rfl tsl26 (by repeat (first | exact Mem.here | apply Mem.there)) (kpsV_len _) (by omega) rfl hlt) ?_
    refine Dh.JB.pv rfl ⟨_, rfl, rfl⟩ (fun _ => PR.fieldAddrR rfl tfl38_0 (by repeat (first | exact Mem.here | apply Mem.there)) (by omega)) ?_
    refine Dh.JB.pv rfl ⟨_, rfl, rfl⟩ (fun _ => PR.loadR rfl tsh3 (by repeat (first | exact Mem.here | apply Mem.there)) (kps_f hlt 0 rfl)) ?_
    refine Dh.JB.pv rfl ⟨_, rfl, rfl⟩ (fun _ => PR.fieldAddr rfl tfl38_0) ?_
    refine Dh.JB.rd [.blk _ _ _] rfl ⟨_, rfl, rfl⟩ (by repeat (first | exact Take.nil | apply Take.cons (by repeat (first | exact Del.here | apply Del.there)))) (fun _ => PR.load1 rfl tsh3 Has.here (by rfl)) ?_
    refine Dh.JB.pv rfl ⟨_, rfl, rfl⟩ (fun _ => PR.leq _ rfl rfl rfl) ?_
    refine Dh.JB.pv rfl trivial (fun _ => PR.pickT rfl rfl) ?_
    refine Dh.JB.nil ?_
    refine Dh.JL.nil ?_
    refine Jq.thenN ?_
    refine Jc.cond rfl (fun h0 => ?_) (fun h0 => ?_)
    · try replace h0 := of_decide_eq_true h0
      refine Jc.skip ?_
      refine Jq.thenN ?_
      refine Jc.block ?_
      refine Jc.region ?_
      refine Jl.pv (PR.move rfl) ?_
      refine Jl.pv (PR.add ((k + 1 : Nat) : Int) rfl rfl (by rw [w64 (by omega) (by omega)]; rfl)) ?_
      refine Jl.pv (PR.assign rfl) ?_
      refine Jl.nil ?_
      refine Jq.blkN ?_
      exact Jq.againT ⟨k + 1, hlt⟩ (by simp only; omega) (by repeat (first | exact trivial | refine And.intro rfl ?_)) (by repeat (first | exact Take.nil | apply Take.cons (by repeat (first | exact Del.here | apply Del.there)))) (by repeat (first | exact trivial | refine And.intro (by repeat (first | exact Mem.here | apply Mem.there)) ?_))
    · try replace h0 := of_decide_eq_false h0
      refine Jc.exit ?_
      refine Jq.thenX ?_
      refine Jq.thenX ?_
      refine Jq.blkX ?_
      refine Jq.thenN ?_
      refine Jc.seq ?_
      refine Jc.drawn [0, 0, 2, 0, 14, 31, 0, 64, 255, 0, 512, 0, 3584, 8191, 16383, 32767] ([], []) [⟨[(0, true), (1, false), (2, false), (3, false), (4, false), (6, false), (7, true), (9, false), (10, false), (11, false), (12, false)], [0], 5⟩, ⟨[], [7], 8⟩, ⟨[], [], 13⟩, ⟨[(14, false)], [], 15⟩] tmx (by kernel_rfl) ?_
      refine Dh.JH.cons ?_
      refine Dh.JB.buildSlice rfl trivial (by rfl) tsl26 tzr26_0 (by rfl) (by rfl) ?_
      refine Dh.JB.pv rfl trivial (fun _ => PR.fieldAddr rfl tfl30_5) ?_
      refine Dh.JB.rd [.blk _ _ _] rfl trivial (by repeat (first | exact Take.nil | apply Take.cons (by repeat (first | exact Del.here | apply Del.there)))) (fun _ => PR.load1 rfl tsh26 Has.here (by rfl)) ?_
      refine Dh.JB.pv rfl trivial (fun _ => PR.move rfl) ?_
      refine Dh.JB.slice 0 k k (kpsV (b.kps.take k)) rfl trivial rfl tsl26 rfl rfl (by repeat (first | exact Mem.here | apply Mem.there)) (by omega) (by omega) hK' (by omega) (by rw [Nat.zero_mul, List.drop_zero, kpsV_take]) ?_
      intro A28 c28 hc28
      clear hc28
      refine Dh.JB.rd [.blk _ _ _] rfl trivial (by repeat (first | exact Take.nil | apply Take.cons (by repeat (first | exact Del.here | apply Del.there)))) (fun _ => PR.loadW rfl tsh38 Has.here (by rfl)) ?_
      refine Dh.JB.buildSlice rfl trivial (by rfl) tsl26 tzr26_1 (by rfl) (by rfl) ?_
      refine Dh.JB.pv rfl trivial (fun _ => PR.fieldAddr rfl tfl30_5) ?_
      refine Dh.JB.rd [.blk _ _ _] rfl trivial (by repeat (first | exact Take.nil | apply Take.cons (by repeat (first | exact Del.here | apply Del.there)))) (fun _ => PR.load1 rfl tsh26 Has.here (by rfl)) ?_
      refine Dh.JB.pv rfl trivial (fun _ => PR.move rfl) ?_
      refine Dh.JB.slice k b.kps.length (b.kps.length - k) (kpsV (b.kps.drop k)) rfl trivial rfl tsl26 rfl rfl (by repeat (first | exact Mem.here | apply Mem.there)) hk (by omega) hK' rfl (by rw [kpsV_drop, List.take_of_length_le (by omega)]) ?_
      intro A36 c36 hc36
      clear hc36
      refine Dh.JB.nil ?_
      refine Dh.JL.sl rfl (by repeat (first | exact Dh.es_here | apply Dh.es_there)) (fun b24 => ?_)
      refine Dh.JL.nil ?_
      refine Dh.JE.mk rfl (fun _ h => by cases h) (fun C4_5 => ?_)
      refine Jl.toRow 8 0 (by repeat (first | exact Swap.here | apply Swap.there)) (by rfl) (by rfl) ?_
      refine Jl.append k (kpsV (b.kps.take k)) rfl rfl rfl tsl26 tze38 (by rfl) (by decide) tby38 (fun _ _ => (by repeat (first | exact Swap.here | apply Swap.there))) (by repeat (first | exact Mem.here | apply Mem.there)) (by omega) rfl (by omega) (kps_one _) (by omega) (by decide) ?_
      intro A29 c29
      refine Jl.nil ?_
      refine Dh.Jq.segV (by repeat (first | exact Dh.FExt.refl | apply Dh.FExt.cons | apply Dh.FExt.app)) ?_ (by repeat (first | exact Dh.KeepL.nil | apply Dh.KeepL.anc (by rfl) | apply Dh.KeepL.keep (by repeat (first | exact Take.nil | apply Take.cons (by repeat (first | exact Del.here | apply Del.there))))))
      refine Dh.JH.cons ?_
      refine Dh.JB.nil ?_
      refine Dh.JL.sl rfl (by repeat (first | exact Dh.es_here | apply Dh.es_there)) (fun b31 => ?_)
      refine Dh.JL.nil ?_
      refine Dh.JE.mk rfl (fun _ h => by cases h) (fun C4_8 => ?_)
      refine Jl.seal (by repeat (first | exact Del.here | apply Del.there)) ?_
      refine Jl.append (k + 1) (kpsV (b.kps.take k) ++ x.cs) rfl rfl rfl tsl26 tze38 (by rfl) (by decide) tby38 (fun _ _ => (by repeat (first | exact Swap.here | apply Swap.there))) (by repeat (first | exact Mem.here | apply Mem.there)) rfl rfl rfl (by simp [Kp.cs, Value.oneCell']) (by omega) (by decide) ?_
      intro A32 c32
      refine Jl.nil ?_
      refine Dh.Jq.segV (by repeat (first | exact Dh.FExt.refl | apply Dh.FExt.cons | apply Dh.FExt.app)) ?_ (by repeat (first | exact Dh.KeepL.nil | apply Dh.KeepL.anc (by rfl) | apply Dh.KeepL.keep (by repeat (first | exact Take.nil | apply Take.cons (by repeat (first | exact Del.here | apply Del.there))))))
      refine Dh.JH.cons ?_
      refine Dh.JB.nil ?_
      refine Dh.JL.nil ?_
      refine Dh.JE.mk rfl (fun _ h => by cases h) (fun C4_13 => ?_)
      refine Jl.append (insL b.kps k x).length (kpsV (insL b.kps k x)) rfl rfl rfl tsl26 tze38 (by rfl) (by decide) tby38 (fun _ _ => (by repeat (first | exact Swap.here | apply Swap.there))) (by repeat (first | exact Mem.here | apply Mem.there)) (by omega) (by rw [insL, kpsV_app, kpsV_app]; simp [kpsV]) (by omega) (kps_one _) (by omega) (by decide) ?_
      intro A37 c37
      refine Jl.nil ?_
      refine Dh.Jq.segV (by repeat (first | exact Dh.FExt.refl | apply Dh.FExt.cons | apply Dh.FExt.app)) ?_ (by repeat (first | exact Dh.KeepL.nil | apply Dh.KeepL.anc (by rfl) | apply Dh.KeepL.keep (by repeat (first | exact Take.nil | apply Take.cons (by repeat (first | exact Del.here | apply Del.there))))))
      refine Dh.JH.cons ?_
      refine Dh.JB.pv rfl trivial (fun _ => PR.fieldAddr rfl tfl30_5) ?_
      refine Dh.JB.nil ?_
      refine Dh.JL.nil ?_
      refine Dh.JE.mk rfl (fun _ h => by cases h) (fun C4_15 => ?_)
      refine Jl.store1 rfl tsh26 rfl (by rfl) (by repeat (first | exact Swap.here | apply Swap.there)) (by rfl) ?_
      refine Jl.nil ?_
      refine Dh.Jq.segN (by repeat (first | exact Dh.FExt.refl | apply Dh.FExt.cons | apply Dh.FExt.app)) ?_ (by repeat (first | exact Dh.KeepL.nil | apply Dh.KeepL.anc (by rfl) | apply Dh.KeepL.keep (by repeat (first | exact Take.nil | apply Take.cons (by repeat (first | exact Del.here | apply Del.there))))))
      refine Dh.JH.nil ?_
      refine Dh.JB.nil ?_
      refine Dh.JL.nil ?_
      refine Jq.thenN ?_
      refine Jc.seq ?_
      refine Jc.region ?_
      refine Jl.pv (PR.loadW rfl tsh30 (by repeat (first | exact Has.here | apply Has.there)) (by rfl)) ?_
      refine Jl.storeW rfl tsh30 rfl (by rfl) (by first | exact Br.cs_one _ _ | simp [Value.oneCell', Kp.cs, Br.cs]) (by repeat (first | exact Swap.here | apply Swap.there)) (by rfl) ?_
      refine Jl.nil ?_
      refine Jq.thenN ?_
      refine Jc.ret ?_
      refine Jq.sealR (by repeat (first | exact Del.here | apply Del.there)) ?_
      exact Jq.fin (⟨k, hk⟩, (A37, c37)) (.inl rfl) rfl (RetVs.cellA rfl (by repeat (first | exact Has.here | apply Has.there)) tsh30 (by rfl) RetVs.nil) rfl (by repeat (first | exact Take.nil | apply Take.cons (by repeat (first | exact Del.here | apply Del.there)))) (by repeat (first | exact trivial | refine And.intro (by repeat (first | exact Mem.here | apply Mem.there)) ?_))
  · try replace g11 := of_decide_eq_false g11
    refine Dh.JB.off rfl ⟨_, rfl, .inr rfl⟩ ?_
    refine Dh.JB.off rfl ⟨_, rfl, .inr rfl⟩ ?_
    refine Dh.JB.off rfl ⟨_, rfl, .inr rfl⟩ ?_
    refine Dh.JB.off rfl ⟨_, rfl, .inr rfl⟩ ?_
    refine Dh.JB.off rfl ⟨_, rfl, .inr rfl⟩ ?_
    refine Dh.JB.off rfl ⟨_, rfl, .inr rfl⟩ ?_
    refine Dh.JB.off rfl ⟨_, rfl, .inr rfl⟩ ?_
    refine Dh.JB.off rfl ⟨_, rfl, .inr rfl⟩ ?_
    refine Dh.JB.off rfl ⟨_, rfl, .inr rfl⟩ ?_
    refine Dh.JB.pv rfl trivial (fun _ => PR.pickF rfl rfl) ?_
    refine Dh.JB.nil ?_
    refine Dh.JL.nil ?_
    refine Jq.thenN ?_
    refine Jc.condF rfl ?_
    refine Jc.exit ?_
    refine Jq.thenX ?_
    refine Jq.thenX ?_
    refine Jq.blkX ?_
    refine Jq.thenN ?_
    refine Jc.seq ?_
    refine Jc.drawn [0, 0, 2, 0, 14, 31, 0, 64, 255, 0, 512, 0, 3584, 8191, 16383, 32767] ([], []) [⟨[(0, true), (1, false), (2, false), (3, false), (4, false), (6, false), (7, true), (9, false), (10, false), (11, false), (12, false)], [0], 5⟩, ⟨[], [7], 8⟩, ⟨[], [], 13⟩, ⟨[(14, false)], [], 15⟩] tmx (by kernel_rfl) ?_
    refine Dh.JH.cons ?_
    refine Dh.JB.buildSlice rfl trivial (by rfl) tsl26 tzr26_0 (by rfl) (by rfl) ?_
    refine Dh.JB.pv rfl trivial (fun _ => PR.fieldAddr rfl tfl30_5) ?_
    refine Dh.JB.rd [.blk _ _ _] rfl trivial (by repeat (first | exact Take.nil | apply Take.cons (by repeat (first | exact Del.here | apply Del.there)))) (fun _ => PR.load1 rfl tsh26 Has.here (by rfl)) ?_
    refine Dh.JB.pv rfl trivial (fun _ => PR.move rfl) ?_
    refine Dh.JB.slice 0 k k (kpsV (b.kps.take k)) rfl trivial rfl tsl26 rfl rfl (by repeat (first | exact Mem.here | apply Mem.there)) (by omega) (by omega) hK' (by omega) (by rw [Nat.zero_mul, List.drop_zero, kpsV_take]) ?_
    intro A28 c28 hc28
    clear hc28
    refine Dh.JB.rd [.blk _ _ _] rfl trivial (by repeat (first | exact Take.nil | apply Take.cons (by repeat (first | exact Del.here | apply Del.there)))) (fun _ => PR.loadW rfl tsh38 Has.here (by rfl)) ?_
    refine Dh.JB.buildSlice rfl trivial (by rfl) tsl26 tzr26_1 (by rfl) (by rfl) ?_
    refine Dh.JB.pv rfl trivial (fun _ => PR.fieldAddr rfl tfl30_5) ?_
    refine Dh.JB.rd [.blk _ _ _] rfl trivial (by repeat (first | exact Take.nil | apply Take.cons (by repeat (first | exact Del.here | apply Del.there)))) (fun _ => PR.load1 rfl tsh26 Has.here (by rfl)) ?_
    refine Dh.JB.pv rfl trivial (fun _ => PR.move rfl) ?_
    refine Dh.JB.slice k b.kps.length (b.kps.length - k) (kpsV (b.kps.drop k)) rfl trivial rfl tsl26 rfl rfl (by repeat (first | exact Mem.here | apply Mem.there)) hk (by omega) hK' rfl (by rw [kpsV_drop, List.take_of_length_le (by omega)]) ?_
    intro A36 c36 hc36
    clear hc36
    refine Dh.JB.nil ?_
    refine Dh.JL.sl rfl (by repeat (first | exact Dh.es_here | apply Dh.es_there)) (fun b24 => ?_)
    refine Dh.JL.nil ?_
    refine Dh.JE.mk rfl (fun _ h => by cases h) (fun C4_5 => ?_)
    refine Jl.toRow 8 0 (by repeat (first | exact Swap.here | apply Swap.there)) (by rfl) (by rfl) ?_
    refine Jl.append k (kpsV (b.kps.take k)) rfl rfl rfl tsl26 tze38 (by rfl) (by decide) tby38 (fun _ _ => (by repeat (first | exact Swap.here | apply Swap.there))) (by repeat (first | exact Mem.here | apply Mem.there)) (by omega) rfl (by omega) (kps_one _) (by omega) (by decide) ?_
    intro A29 c29
    refine Jl.nil ?_
    refine Dh.Jq.segV (by repeat (first | exact Dh.FExt.refl | apply Dh.FExt.cons | apply Dh.FExt.app)) ?_ (by repeat (first | exact Dh.KeepL.nil | apply Dh.KeepL.anc (by rfl) | apply Dh.KeepL.keep (by repeat (first | exact Take.nil | apply Take.cons (by repeat (first | exact Del.here | apply Del.there))))))
    refine Dh.JH.cons ?_
    refine Dh.JB.nil ?_
    refine Dh.JL.sl rfl (by repeat (first | exact Dh.es_here | apply Dh.es_there)) (fun b31 => ?_)
    refine Dh.JL.nil ?_
    refine Dh.JE.mk rfl (fun _ h => by cases h) (fun C4_8 => ?_)
    refine Jl.seal (by repeat (first | exact Del.here | apply Del.there)) ?_
    refine Jl.append (k + 1) (kpsV (b.kps.take k) ++ x.cs) rfl rfl rfl tsl26 tze38 (by rfl) (by decide) tby38 (fun _ _ => (by repeat (first | exact Swap.here | apply Swap.there))) (by repeat (first | exact Mem.here | apply Mem.there)) rfl rfl rfl (by simp [Kp.cs, Value.oneCell']) (by omega) (by decide) ?_
    intro A32 c32
    refine Jl.nil ?_
    refine Dh.Jq.segV (by repeat (first | exact Dh.FExt.refl | apply Dh.FExt.cons | apply Dh.FExt.app)) ?_ (by repeat (first | exact Dh.KeepL.nil | apply Dh.KeepL.anc (by rfl) | apply Dh.KeepL.keep (by repeat (first | exact Take.nil | apply Take.cons (by repeat (first | exact Del.here | apply Del.there))))))
    refine Dh.JH.cons ?_
    refine Dh.JB.nil ?_
    refine Dh.JL.nil ?_
    refine Dh.JE.mk rfl (fun _ h => by cases h) (fun C4_13 => ?_)
    refine Jl.append (insL b.kps k x).length (kpsV (insL b.kps k x)) rfl rfl rfl tsl26 tze38 (by rfl) (by decide) tby38 (fun _ _ => (by repeat (first | exact Swap.here | apply Swap.there))) (by repeat (first | exact Mem.here | apply Mem.there)) (by omega) (by rw [insL, kpsV_app, kpsV_app]; simp [kpsV]) (by omega) (kps_one _) (by omega) (by decide) ?_
    intro A37 c37
    refine Jl.nil ?_
    refine Dh.Jq.segV (by repeat (first | exact Dh.FExt.refl | apply Dh.FExt.cons | apply Dh.FExt.app)) ?_ (by repeat (first | exact Dh.KeepL.nil | apply Dh.KeepL.anc (by rfl) | apply Dh.KeepL.keep (by repeat (first | exact Take.nil | apply Take.cons (by repeat (first | exact Del.here | apply Del.there))))))
    refine Dh.JH.cons ?_
    refine Dh.JB.pv rfl trivial (fun _ => PR.fieldAddr rfl tfl30_5) ?_
    refine Dh.JB.nil ?_
    refine Dh.JL.nil ?_
    refine Dh.JE.mk rfl (fun _ h => by cases h) (fun C4_15 => ?_)
    refine Jl.store1 rfl tsh26 rfl (by rfl) (by repeat (first | exact Swap.here | apply Swap.there)) (by rfl) ?_
    refine Jl.nil ?_
    refine Dh.Jq.segN (by repeat (first | exact Dh.FExt.refl | apply Dh.FExt.cons | apply Dh.FExt.app)) ?_ (by repeat (first | exact Dh.KeepL.nil | apply Dh.KeepL.anc (by rfl) | apply Dh.KeepL.keep (by repeat (first | exact Take.nil | apply Take.cons (by repeat (first | exact Del.here | apply Del.there))))))
    refine Dh.JH.nil ?_
    refine Dh.JB.nil ?_
    refine Dh.JL.nil ?_
    refine Jq.thenN ?_
    refine Jc.seq ?_
    refine Jc.region ?_
    refine Jl.pv (PR.loadW rfl tsh30 (by repeat (first | exact Has.here | apply Has.there)) (by rfl)) ?_
    refine Jl.storeW rfl tsh30 rfl (by rfl) (by first | exact Br.cs_one _ _ | simp [Value.oneCell', Kp.cs, Br.cs]) (by repeat (first | exact Swap.here | apply Swap.there)) (by rfl) ?_
    refine Jl.nil ?_
    refine Jq.thenN ?_
    refine Jc.ret ?_
    refine Jq.sealR (by repeat (first | exact Del.here | apply Del.there)) ?_
    exact Jq.fin (⟨k, hk⟩, (A37, c37)) (.inl rfl) rfl (RetVs.cellA rfl (by repeat (first | exact Has.here | apply Has.there)) tsh30 (by rfl) RetVs.nil) rfl (by repeat (first | exact Take.nil | apply Take.cons (by repeat (first | exact Del.here | apply Del.there)))) (by repeat (first | exact trivial | refine And.intro (by repeat (first | exact Mem.here | apply Mem.there)) ?_))
end Go.Proofs.YtiebgcahdnaekaaDoor
