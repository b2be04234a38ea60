/-
Contracts of pages: what is shown, a page, all, an answer.
-/
import Derived.Test.YtoackajhekdckaaClB
import Derived.Test.YtoackajhekdckaaPgP
namespace Go.Proofs.Ytoackajhekdckaa
set_option linter.unusedVariables false
open Go.RowKit
attribute [local irreducible] Res.blk Res.row Fact.rd Res.mapI
theorem shown_ct (c : Cl) (x : AdC) (be : Int) (hw : c.Wf) : Ct Try.prog 19 [c.v x, .int .i64 be] [] [.rd x.1 (bxsV c.bs)] (fun b : Nat × Nat => .func (.func 22) #[] #[.pointer (some ⟨b.1, 0, none⟩), .pointer (some ⟨b.2, 0, none⟩)]) (fun b => [.blk b.1 24 (shCs c x), .blk b.2 3 [.int .i64 be]]) (fun _ => []) := by
  refine Ct.of _ Try.func19 Try.ntmps19 rfl rfl (fun X W => ?_)
  refine Jc.seq ?_
  refine Jc.region ?_
  refine Jl.box rfl (by rfl) ?_
  intro b2
  refine Jl.box rfl (by rfl) ?_
  intro b3
  refine Jl.pv (PR.assign rfl) ?_
  refine Jl.nil ?_
  refine Jq.thenN ?_
  refine Jc.seq ?_
  refine Jc.seq ?_
  refine Jc.region ?_
  refine Jl.pv (PR.loadW rfl tsh24 (by repeat (first | exact Has.here | apply Has.there)) (by rfl)) ?_
  refine Jl.call (right_ct c x hw) en21 (by rfl) (by repeat (first | exact Take.nil | apply Take.cons (by repeat (first | exact Del.here | apply Del.there)))) (by repeat (first | exact trivial | refine And.intro (by repeat (first | exact Mem.here | apply Mem.there)) ?_)) ?_
  rintro ⟨⟩
  refine Jl.pv (PR.not rfl) ?_
  refine Jl.nil ?_
  refine Jq.thenN ?_
  refine Jc.cond rfl (fun h0 => ?_) (fun h0 => ?_)
  · try replace h0 := of_decide_eq_true h0
    refine Jc.region ?_
    refine Jl.pv (PR.fieldAddr rfl tfl24_0) ?_
    refine Jl.store1 rfl tsh22 rfl (by rfl) (by repeat (first | exact Swap.here | apply Swap.there)) (by rfl) ?_
    refine Jl.nil ?_
    refine Jq.thenN ?_
    refine Jc.seq ?_
    refine Jc.region ?_
    refine Jl.pv (PR.makeFunc rfl rfl) ?_
    refine Jl.pv (PR.assign rfl) ?_
    refine Jl.nil ?_
    refine Jq.thenN ?_
    refine Jc.ret ?_
    rw [shCs_no (not_true h0)]
    exact Jq.fin (b2, b3) (.inl rfl) rfl (RetVs.tmp rfl RetVs.nil) rfl (by repeat (first | exact Take.nil | apply Take.cons (by repeat (first | exact Del.here | apply Del.there)))) (by repeat (first | exact trivial | refine And.intro (by repeat (first | exact Mem.here | apply Mem.there)) ?_))
  · try replace h0 := of_decide_eq_false h0
    refine Jc.skip ?_
    refine Jq.thenN ?_
    refine Jc.seq ?_
    refine Jc.region ?_
    refine Jl.pv (PR.makeFunc rfl rfl) ?_
    refine Jl.pv (PR.assign rfl) ?_
    refine Jl.nil ?_
    refine Jq.thenN ?_
    refine Jc.ret ?_
    rw [shCs_ok (not_false h0)]
    exact Jq.fin (b2, b3) (.inl rfl) rfl (RetVs.tmp rfl RetVs.nil) rfl (by repeat (first | exact Take.nil | apply Take.cons (by repeat (first | exact Del.here | apply Del.there)))) (by repeat (first | exact trivial | refine And.intro (by repeat (first | exact Mem.here | apply Mem.there)) ?_))
  -- hint not used: one
theorem shown1_it (be : Int) (c : Cl) (x : AdC) (bc bi : Nat) (hn : c.bs.length ≤ 1000000) :
    It Try.prog 22 [.pointer (some ⟨bc, 0, none⟩), .pointer (some ⟨bi, 0, none⟩)] [.blk bc 24 (c.cs x), .blk bi 3 [.int .i64 be]] [.rd x.1 (bxsV c.bs)] (c.bs.countP (Bx.sh be)) (snY ((c.bs.filter (Bx.sh be)).map Bx.seen)) := by
  obtain ⟨A, cA⟩ := x
  refine It.of _ Try.func22 Try.ntmps22 rfl rfl (by rfl) (by simp only [List.mem_singleton]; rintro φ rfl; exact Fact.rd_old _ _) (fun W l cl clx hy => ?_)
  have hlb : ∀ b : Bx, decide (((b.lb.toNat : Nat) : Int) = 1) = decide (b.lb = 1) := fun b => decide_eq_decide.2 ⟨fun h => UInt8.toNat_inj.1 (show b.lb.toNat = 1 by omega), fun h => by rw [h]; rfl⟩
  refine Jc.seq ?_
  refine Jc.region ?_
  refine Jl.pv (PR.fieldAddr rfl tfl24_0) ?_
  refine Jl.pv (PR.load1 rfl tsh22 (by repeat (first | exact Has.here | apply Has.there)) (by rfl)) ?_
  refine Jl.pv (PR.len rfl tsl22) ?_
  refine Jl.pv (PR.move rfl) ?_
  refine Jl.nil ?_
  refine Jq.thenN ?_
  refine Jc.block ?_
  refine Jc.loop (σ := { k : Nat // k ≤ c.bs.length }) (fun s => [(10, .int .i64 (s.1 : Int)), (9, .int .i64 (c.bs.length : Int)), (8, .slice A c.bs.length cA), (2, .pointer (some ⟨bi, 0, none⟩)), (0, .func (.yield l) #[] #[])]) (fun _ => [.blk bc 24 (c.cs (A, cA)), .blk bi 3 [.int .i64 be]]) (fun s => [cl ((c.bs.take s.1).countP (Bx.sh be)), .rd A (bxsV c.bs)]) (fun s => c.bs.length - s.1) ⟨0, Nat.zero_le _⟩ (by repeat (first | exact trivial | refine And.intro rfl ?_)) rfl (by repeat (first | exact trivial | refine And.intro (by repeat (first | exact Mem.here | apply Mem.there)) ?_)) ?_
  rintro ⟨k, hk⟩
  show Jc _ _ _ _ _ _ [(10, Value.int .i64 (k : Int)), (9, .int .i64 (c.bs.length : Int)), (8, .slice A c.bs.length cA), (2, .pointer (some ⟨bi, 0, none⟩)), (0, .func (.yield l) #[] #[])] [.blk bc 24 (c.cs (A, cA)), .blk bi 3 [.int .i64 be]] [cl ((c.bs.take k).countP (Bx.sh be)), .rd A (bxsV c.bs)]
  refine Jc.seq ?_
  refine Jc.region ?_
  refine Jl.pv (PR.lss _ rfl rfl rfl) ?_
  refine Jl.nil ?_
  refine Jq.thenN ?_
  refine Jc.seq ?_
  refine Jc.cond rfl (fun h0 => ?_) (fun h0 => ?_)
  · try replace h0 := of_decide_eq_true h0
    have hlt : k < c.bs.length := by omega
    refine Jc.skip ?_
    refine Jq.thenN ?_
    refine Jc.seq ?_
    refine Jc.block ?_
    refine Jc.seq ?_
    refine Jc.region ?_
    refine Jl.pv (PR.idx k rfl rfl tsl22 (by repeat (first | exact Mem.here | apply Mem.there)) (bxsV_len _) (by omega) rfl hlt) ?_
    refine Jl.pv (PR.loadRA rfl tsh33 (by repeat (first | exact Mem.here | apply Mem.there)) (by decide) (bxs_at hlt)) ?_
    refine Jl.alloc tze33 ?_
    intro b5
    refine Jl.storeW rfl tsh33 rfl (by rfl) (by simp [Value.oneCell', Bx.cs]) (by repeat (first | exact Swap.here | apply Swap.there)) (by rfl) ?_
    refine Jl.nil ?_
    refine Jq.thenN ?_
    refine Jc.seq ?_
    refine Jc.region ?_
    refine Jl.pv (PR.fieldAddr rfl tfl33_0) ?_
    refine Jl.pv (PR.load1 rfl tsh3 (by repeat (first | exact Has.here | apply Has.there)) (by rfl)) ?_
    refine Jl.pv (PR.fieldAddr rfl tfl33_1) ?_
    refine Jl.pv (PR.load1 rfl tsh3 (by repeat (first | exact Has.here | apply Has.there)) (by rfl)) ?_
    refine Jl.pv (PR.fieldAddr rfl tfl33_2) ?_
    refine Jl.pv (PR.load1 rfl tsh3 (by repeat (first | exact Has.here | apply Has.there)) (by rfl)) ?_
    refine Jl.pv (PR.fieldAddr rfl tfl33_3) ?_
    refine Jl.pv (PR.load1 rfl tsh3 (by repeat (first | exact Has.here | apply Has.there)) (by rfl)) ?_
    refine Jl.pv (PR.fieldAddr rfl tfl33_5) ?_
    refine Jl.pv (PR.load1 rfl tsh4 (by repeat (first | exact Has.here | apply Has.there)) (by rfl)) ?_
    refine Jl.pv (PR.fieldAddr rfl tfl33_7) ?_
    refine Jl.pv (PR.load1 rfl tsh4 (by repeat (first | exact Has.here | apply Has.there)) (by rfl)) ?_
    refine Jl.pv (PR.fieldAddr rfl tfl33_8) ?_
    refine Jl.pv (PR.load1 rfl tsh5 (by repeat (first | exact Has.here | apply Has.there)) (by rfl)) ?_
    refine Jl.pv (PR.eql (decide (c.bs[k].lb = 1)) rfl rfl (hlb _)) ?_
    refine Jl.pv (PR.build (by rfl) tze35 tpl35_0_1_2_3_4_5_6 (by rfl)) ?_
    refine Jl.alloc tze35 ?_
    intro b6
    refine Jl.storeW rfl tsh35 rfl (by rfl) (by simp [Value.oneCell', Bx.cs]) (by repeat (first | exact Swap.here | apply Swap.there)) (by rfl) ?_
    refine Jl.nil ?_
    refine Jq.thenN ?_
    refine Jc.seq ?_
    refine Jc.region ?_
    refine Jl.pv (PR.fieldAddr rfl tfl33_4) ?_
    refine Jl.pv (PR.load1 rfl tsh4 (by repeat (first | exact Has.here | apply Has.there)) (by rfl)) ?_
    refine Jl.pv (PR.move rfl) ?_
    refine Jl.bsplit (fun g32 => ?_) (fun g32 => ?_)
    · try replace g32 := of_decide_eq_true g32
      refine Jl.on rfl rfl ?_
      refine Jl.pv (PR.fieldAddr rfl tfl33_6) ?_
      refine Jl.on rfl rfl ?_
      refine Jl.pv (PR.load1 rfl tsh4 (by repeat (first | exact Has.here | apply Has.there)) (by rfl)) ?_
      refine Jl.on rfl rfl ?_
      refine Jl.pv (PR.not rfl) ?_
      refine Jl.pv (PR.pickT rfl rfl) ?_
      refine Jl.pv (PR.move rfl) ?_
      refine Jl.bsplit (fun g37 => ?_) (fun g37 => ?_)
      · try replace g37 := of_decide_eq_true g37
        refine Jl.on rfl rfl ?_
        refine Jl.pv (PR.fieldAddr rfl tfl33_0) ?_
        refine Jl.on rfl rfl ?_
        refine Jl.pv (PR.load1 rfl tsh3 (by repeat (first | exact Has.here | apply Has.there)) (by rfl)) ?_
        refine Jl.on rfl rfl ?_
        refine Jl.pv (PR.load1 rfl tsh3 (by repeat (first | exact Has.here | apply Has.there)) (by rfl)) ?_
        refine Jl.on rfl rfl ?_
        refine Jl.pv (PR.gtr _ rfl rfl rfl) ?_
        refine Jl.pv (PR.pickT rfl rfl) ?_
        refine Jl.pv (PR.move rfl) ?_
        refine Jl.bsplit (fun g43 => ?_) (fun g43 => ?_)
        · try replace g43 := of_decide_eq_true g43
          have hq : Bx.sh be c.bs[k] = true := by simp_all [Bx.sh]
          have hcn := take_yes hlt hq
          refine Jl.on rfl rfl ?_
          refine Jl.pv (PR.move rfl) ?_
          refine Jl.on rfl rfl ?_
          refine Jl.pv (PR.loadW rfl tsh35 (by repeat (first | exact Has.here | apply Has.there)) (by rfl)) ?_
          refine Jl.on rfl rfl ?_
          refine hy _ _ _ _ _ _ _ _ _ _ _ _ _ _ ((c.bs.take k).countP (Bx.sh be)) (take_lt _ hlt hq) rfl (by rw [snY_fil _ hlt hq]; rfl) (by repeat (first | exact Mem.here | apply Mem.there)) rfl ?_ ?_
          · refine Jl.on rfl rfl ?_
            refine Jl.pv (PR.not rfl) ?_
            refine Jl.pv (PR.pickT rfl rfl) ?_
            refine Jl.nil ?_
            refine Jq.thenN ?_
            refine Jc.condF rfl ?_
            refine Jc.skip ?_
            refine Jq.blkN ?_
            refine Jq.thenN ?_
            refine Jc.region ?_
            refine Jl.pv (PR.add ((k + 1 : Nat) : Int) rfl rfl (by rw [w64 (by omega) (by omega)]; rfl)) ?_
            refine Jl.pv (PR.move rfl) ?_
            refine Jl.nil ?_
            rw [← hcn]
            exact Jq.againT ⟨k + 1, hlt⟩ (by simp only; omega) (by repeat (first | exact trivial | refine And.intro rfl ?_)) (by repeat (first | exact Take.nil | apply Take.cons (by repeat (first | exact Del.here | apply Del.there)))) (by repeat (first | exact trivial | refine And.intro (by repeat (first | exact Mem.here | apply Mem.there)) ?_))
          · refine Jl.on rfl rfl ?_
            refine Jl.pv (PR.not rfl) ?_
            refine Jl.pv (PR.pickT rfl rfl) ?_
            refine Jl.nil ?_
            refine Jq.thenN ?_
            refine Jc.condT rfl ?_
            refine Jc.ret ?_
            refine Jq.blkR ?_
            refine Jq.thenR ?_
            refine Jq.thenR ?_
            refine Jq.blkR ?_
            exact Jq.itStop (.inl rfl) (take_lt _ hlt hq) (by repeat (first | exact Mem.here | apply Mem.there))
        · try replace g43 := of_decide_eq_false g43
          have hcn := take_no (q := Bx.sh be) hlt (by simp_all [Bx.sh])
          refine Jl.offS rfl rfl rfl ?_
          refine Jl.offS rfl rfl rfl ?_
          refine Jl.offS rfl rfl rfl ?_
          refine Jl.offS rfl rfl rfl ?_
          refine Jl.pv (PR.pickF rfl rfl) ?_
          refine Jl.nil ?_
          refine Jq.thenN ?_
          refine Jc.condF rfl ?_
          refine Jc.skip ?_
          refine Jq.blkN ?_
          refine Jq.thenN ?_
          refine Jc.region ?_
          refine Jl.pv (PR.add ((k + 1 : Nat) : Int) rfl rfl (by rw [w64 (by omega) (by omega)]; rfl)) ?_
          refine Jl.pv (PR.move rfl) ?_
          refine Jl.nil ?_
          rw [← hcn]
          exact Jq.againT ⟨k + 1, hlt⟩ (by simp only; omega) (by repeat (first | exact trivial | refine And.intro rfl ?_)) (by repeat (first | exact Take.nil | apply Take.cons (by repeat (first | exact Del.here | apply Del.there)))) (by repeat (first | exact trivial | refine And.intro (by repeat (first | exact Mem.here | apply Mem.there)) ?_))
      · try replace g37 := of_decide_eq_false g37
        have hcn := take_no (q := Bx.sh be) hlt (by simp_all [Bx.sh])
        refine Jl.offS rfl rfl rfl ?_
        refine Jl.offS rfl rfl rfl ?_
        refine Jl.offS rfl rfl rfl ?_
        refine Jl.offS rfl rfl rfl ?_
        refine Jl.pv (PR.pickF rfl rfl) ?_
        refine Jl.pv (PR.move rfl) ?_
        refine Jl.offS rfl rfl rfl ?_
        refine Jl.offS rfl rfl rfl ?_
        refine Jl.offS rfl rfl rfl ?_
        refine Jl.offS rfl rfl rfl ?_
        refine Jl.pv (PR.pickF rfl rfl) ?_
        refine Jl.nil ?_
        refine Jq.thenN ?_
        refine Jc.condF rfl ?_
        refine Jc.skip ?_
        refine Jq.blkN ?_
        refine Jq.thenN ?_
        refine Jc.region ?_
        refine Jl.pv (PR.add ((k + 1 : Nat) : Int) rfl rfl (by rw [w64 (by omega) (by omega)]; rfl)) ?_
        refine Jl.pv (PR.move rfl) ?_
        refine Jl.nil ?_
        rw [← hcn]
        exact Jq.againT ⟨k + 1, hlt⟩ (by simp only; omega) (by repeat (first | exact trivial | refine And.intro rfl ?_)) (by repeat (first | exact Take.nil | apply Take.cons (by repeat (first | exact Del.here | apply Del.there)))) (by repeat (first | exact trivial | refine And.intro (by repeat (first | exact Mem.here | apply Mem.there)) ?_))
    · try replace g32 := of_decide_eq_false g32
      have hcn := take_no (q := Bx.sh be) hlt (by simp_all [Bx.sh])
      refine Jl.offS rfl rfl rfl ?_
      refine Jl.offS rfl rfl rfl ?_
      refine Jl.offS rfl rfl rfl ?_
      refine Jl.pv (PR.pickF rfl rfl) ?_
      refine Jl.pv (PR.move rfl) ?_
      refine Jl.offS rfl rfl rfl ?_
      refine Jl.offS rfl rfl rfl ?_
      refine Jl.offS rfl rfl rfl ?_
      refine Jl.offS rfl rfl rfl ?_
      refine Jl.pv (PR.pickF rfl rfl) ?_
      refine Jl.pv (PR.move rfl) ?_
      refine Jl.offS rfl rfl rfl ?_
      refine Jl.offS rfl rfl rfl ?_
      refine Jl.offS rfl rfl rfl ?_
      refine Jl.offS rfl rfl rfl ?_
      refine Jl.pv (PR.pickF rfl rfl) ?_
      refine Jl.nil ?_
      refine Jq.thenN ?_
      refine Jc.condF rfl ?_
      refine Jc.skip ?_
      refine Jq.blkN ?_
      refine Jq.thenN ?_
      refine Jc.region ?_
      refine Jl.pv (PR.add ((k + 1 : Nat) : Int) rfl rfl (by rw [w64 (by omega) (by omega)]; rfl)) ?_
      refine Jl.pv (PR.move rfl) ?_
      refine Jl.nil ?_
      rw [← hcn]
      exact Jq.againT ⟨k + 1, hlt⟩ (by simp only; omega) (by repeat (first | exact trivial | refine And.intro rfl ?_)) (by repeat (first | exact Take.nil | apply Take.cons (by repeat (first | exact Del.here | apply Del.there)))) (by repeat (first | exact trivial | refine And.intro (by repeat (first | exact Mem.here | apply Mem.there)) ?_))
  · try replace h0 := of_decide_eq_false h0
    refine Jc.exit ?_
    refine Jq.thenX ?_
    refine Jq.thenX ?_
    refine Jq.blkX ?_
    rw [List.take_of_length_le (show c.bs.length ≤ k by omega)]; exact Jq.itDone (.inr rfl) (by repeat (first | exact Mem.here | apply Mem.there))
theorem next_ct (A : Option Addr) (cA : Nat) (l : List Sn) (be : Int) (hn : l.length ≤ 1000000) : Ct Try.prog 11 [.slice A l.length cA, .int .i64 be] [] [.rd A (snsV l)] (fun _ : Unit => .int .i64 (nxt l be)) (fun _ => []) (fun _ => []) := by
  refine Ct.of _ Try.func11 Try.ntmps11 rfl rfl (fun X W => ?_)
  refine Jc.seq ?_
  refine Jc.region ?_
  refine Jl.pv (PR.assign rfl) ?_
  refine Jl.nil ?_
  refine Jq.thenN ?_
  refine Jc.seq ?_
  refine Jc.seq ?_
  refine Jc.region ?_
  refine Jl.pv (PR.move rfl) ?_
  refine Jl.pv (PR.len rfl tsl28) ?_
  refine Jl.pv (PR.move rfl) ?_
  refine Jl.nil ?_
  refine Jq.thenN ?_
  refine Jc.block ?_
  refine Jc.loop (σ := { k : Nat // k ≤ l.length }) (fun s => [(9, .int .i64 (s.1 : Int)), (8, .int .i64 (l.length : Int)), (7, .slice A l.length cA), (1, .int .i64 (nxt (l.take s.1) be))]) (fun _ => []) (fun _ => [.rd A (snsV l)]) (fun s => l.length - s.1) ⟨0, Nat.zero_le _⟩ (by repeat (first | exact trivial | refine And.intro rfl ?_)) rfl (by repeat (first | exact trivial | refine And.intro (by repeat (first | exact Mem.here | apply Mem.there)) ?_)) ?_
  rintro ⟨k, hk⟩
  show Jc _ _ _ _ _ _ [(9, Value.int .i64 (k : Int)), (8, .int .i64 (l.length : Int)), (7, .slice A l.length cA), (1, .int .i64 (nxt (l.take k) be))] [] [.rd A (snsV l)]
  refine Jc.seq ?_
  refine Jc.region ?_
  refine Jl.pv (PR.lss _ rfl rfl rfl) ?_
  refine Jl.nil ?_
  refine Jq.thenN ?_
  refine Jc.seq ?_
  refine Jc.cond rfl (fun h0 => ?_) (fun h0 => ?_)
  · try replace h0 := of_decide_eq_true h0
    have hlt : k < l.length := by omega
    refine Jc.skip ?_
    refine Jq.thenN ?_
    refine Jc.seq ?_
    refine Jc.block ?_
    refine Jc.seq ?_
    refine Jc.region ?_
    refine Jl.pv (PR.idx k rfl rfl tsl28 (by repeat (first | exact Mem.here | apply Mem.there)) (snsV_len _) (by omega) rfl hlt) ?_
    refine Jl.pv (PR.loadRA rfl tsh35 (by repeat (first | exact Mem.here | apply Mem.there)) (by decide) (sns_at hlt)) ?_
    refine Jl.alloc tze35 ?_
    intro b6
    refine Jl.storeW rfl tsh35 rfl (by rfl) (by simp [Value.oneCell', Sn.cs]) (by repeat (first | exact Swap.here | apply Swap.there)) (by rfl) ?_
    refine Jl.nil ?_
    refine Jq.thenN ?_
    refine Jc.region ?_
    refine Jl.pv (PR.move rfl) ?_
    refine Jl.pv (PR.fieldAddr rfl tfl35_0) ?_
    refine Jl.pv (PR.load1 rfl tsh3 (by repeat (first | exact Has.here | apply Has.there)) (by rfl)) ?_
    refine Jl.pv (PR.max2 (nxt (l.take (k + 1)) be) rfl rfl (nxt_take hlt be).symm) ?_
    refine Jl.pv (PR.assign rfl) ?_
    refine Jl.nil ?_
    refine Jq.blkN ?_
    refine Jq.thenN ?_
    refine Jc.region ?_
    refine Jl.pv (PR.add ((k + 1 : Nat) : Int) rfl rfl (by rw [w64 (by omega) (by omega)]; rfl)) ?_
    refine Jl.pv (PR.move rfl) ?_
    refine Jl.nil ?_
    exact Jq.againT ⟨k + 1, hlt⟩ (by simp only; omega) (by repeat (first | exact trivial | refine And.intro rfl ?_)) (by repeat (first | exact Take.nil | apply Take.cons (by repeat (first | exact Del.here | apply Del.there)))) (by repeat (first | exact trivial | refine And.intro (by repeat (first | exact Mem.here | apply Mem.there)) ?_))
  · try replace h0 := of_decide_eq_false h0
    refine Jc.exit ?_
    refine Jq.thenX ?_
    refine Jq.thenX ?_
    refine Jq.blkX ?_
    refine Jq.thenN ?_
    refine Jc.seq ?_
    refine Jc.region ?_
    refine Jl.pv (PR.move rfl) ?_
    refine Jl.pv (PR.assign rfl) ?_
    refine Jl.nil ?_
    refine Jq.thenN ?_
    refine Jc.ret ?_
    exact Jq.fin () (.inl rfl) rfl (RetVs.tmp rfl RetVs.nil) (by rw [List.take_of_length_le (by omega)]; rfl) (by repeat (first | exact Take.nil | apply Take.cons (by repeat (first | exact Del.here | apply Del.there)))) (by repeat (first | exact trivial | refine And.intro (by repeat (first | exact Mem.here | apply Mem.there)) ?_))
end Go.Proofs.Ytoackajhekdckaa
