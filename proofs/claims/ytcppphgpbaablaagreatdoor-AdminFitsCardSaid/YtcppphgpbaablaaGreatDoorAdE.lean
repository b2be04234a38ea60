/-
Contracts of brains: All, Apply.
-/
import Derived.Test.YtcppphgpbaablaaGreatDoorAdD
namespace Go.Proofs.YtcppphgpbaablaaGreatDoor
set_option linter.unusedVariables false
open Go.RowKit
attribute [local irreducible] Res.blk Res.row Fact.rd Res.mapV
def rcvals (zs : Rcs) (k : Nat) : List Value := match zs[k]? with
  | some z => [z.2.v z.1]
  | none => [Rc.zero.v (none, 0)]
theorem rcvals_at {zs : Rcs} {k : Nat} (h : k < zs.length) : rcvals zs k = [zs[k].2.v zs[k].1] := by rw [rcvals, List.getElem?_eq_getElem h]
theorem rcvals_len (zs : Rcs) (k : Nat) : (rcvals zs k).length = 1 := by unfold rcvals; split <;> rfl
theorem records_ct (L : Option Addr) (n cL : Nat) : Ct Tryz.prog 61 [.slice L n cL] [] [] (fun b : Nat => .func (.func 69) #[] #[.pointer (some ⟨b, 0, none⟩)]) (fun b => [.blk b 107 [.slice L n cL]]) (fun _ => []) := by
  refine Ct.of _ Tryz.func61 Tryz.ntmps61 rfl rfl (fun X W => ?_)
  refine Jc.seq ?_
  refine Jc.region ?_
  refine Jl.box rfl (by rfl) ?_
  intro b1
  refine Jl.pv (PR.assign rfl) ?_
  refine Jl.nil ?_
  refine Jq.thenN ?_
  refine Jc.seq ?_
  refine Jc.region ?_
  refine Jl.pv (PR.makeFunc rfl rfl) ?_
  refine Jl.pv (PR.assign rfl) ?_
  refine Jl.nil ?_
  refine Jq.thenN ?_
  refine Jc.ret ?_
  exact Jq.fin b1 (.inl rfl) rfl (RetVs.tmp rfl RetVs.nil) rfl (by repeat (first | exact Take.nil | apply Take.cons (by repeat (first | exact Del.here | apply Del.there)))) (by repeat (first | exact trivial | refine And.intro (by repeat (first | exact Mem.here | apply Mem.there)) ?_))
theorem records1_it (L : Option Addr) (cL b0 : Nat) (zs : Rcs) (hn : zs.length ≤ 1000000) : It Tryz.prog 69 [.pointer (some ⟨b0, 0, none⟩)] [.blk b0 107 [.slice L zs.length cL]] [.rd L (rcsV zs)] zs.length (rcvals zs) := by
  refine It.of _ Tryz.func69 Tryz.ntmps69 rfl rfl (by rfl) (by simp only [List.mem_singleton]; rintro φ rfl; exact Fact.rd_old _ _) (fun W l cl clx hy => ?_)
  have hrl := rcsV_len zs
  refine Jc.seq ?_
  refine Jc.region ?_
  refine Jl.pv (PR.load1 rfl tsh107 (by repeat (first | exact Has.here | apply Has.there)) (by rfl)) ?_
  refine Jl.pv (PR.len rfl tsl107) ?_
  refine Jl.pv (PR.move rfl) ?_
  refine Jl.nil ?_
  refine Jq.thenN ?_
  refine Jc.block ?_
  refine Jc.loop (σ := { k : Nat // k ≤ zs.length }) (fun s => [(7, .int .i64 (s.1 : Int)), (6, .int .i64 (zs.length : Int)), (5, .slice L zs.length cL), (0, .func (.yield l) #[] #[])]) (fun _ => [.blk b0 107 [.slice L zs.length cL]]) (fun s => [cl s.1, .rd L (rcsV zs)]) (fun s => zs.length - s.1) ⟨0, Nat.zero_le _⟩ (by repeat (first | exact trivial | refine And.intro rfl ?_)) rfl (by repeat (first | exact trivial | refine And.intro (by repeat (first | exact Mem.here | apply Mem.there)) ?_)) ?_
  rintro ⟨k, hk⟩
  show Jc _ _ _ _ _ _ [(7, Value.int .i64 (k : Int)), (6, .int .i64 (zs.length : Int)), (5, .slice L zs.length cL), (0, .func (.yield l) #[] #[])] [.blk b0 107 [.slice L zs.length cL]] [cl k, .rd L (rcsV zs)]
  refine Jc.seq ?_
  refine Jc.region ?_
  refine Jl.pv (PR.lss _ rfl rfl rfl) ?_
  refine Jl.nil ?_
  refine Jq.thenN ?_
  refine Jc.seq ?_
  refine Jc.cond rfl (fun h0 => ?_) (fun h0 => ?_)
  · try replace h0 := of_decide_eq_true h0
    have hlt : k < zs.length := by omega
    refine Jc.skip ?_
    refine Jq.thenN ?_
    refine Jc.seq ?_
    refine Jc.block ?_
    refine Jc.seq ?_
    refine Jc.region ?_
    refine Jl.pv (PR.idx k rfl rfl tsl107 (by repeat (first | exact Mem.here | apply Mem.there)) (rcsV_len _) (by omega) rfl hlt) ?_
    refine Jl.pv (PR.loadRA rfl tsh36 (by repeat (first | exact Mem.here | apply Mem.there)) (by decide) (rcs_at hlt)) ?_
    refine Jl.alloc tze36 ?_
    intro b4
    refine Jl.storeW rfl tsh36 rfl (by rfl) (by simp [Value.oneCell', Rc.cs]) (by repeat (first | exact Swap.here | apply Swap.there)) (by rfl) ?_
    refine Jl.nil ?_
    refine Jq.thenN ?_
    refine Jc.seq ?_
    refine Jc.region ?_
    refine Jl.pv (PR.move rfl) ?_
    refine Jl.pv (PR.loadW rfl tsh36 (by repeat (first | exact Has.here | apply Has.there)) (by rfl)) ?_
    refine hy _ _ _ _ _ _ _ _ _ _ _ _ _ _ k (by omega) rfl (by rw [rcvals_at hlt]; rfl) (by repeat (first | exact Mem.here | apply Mem.there)) rfl ?_ ?_
    · refine Jl.pv (PR.not rfl) ?_
      refine Jl.nil ?_
      refine Jq.thenN ?_
      refine Jc.condF rfl ?_
      refine Jc.skip ?_
      refine Jq.blkN ?_
      refine Jq.thenN ?_
      refine Jc.region ?_
      refine Jl.pv (PR.add ((k + 1 : Nat) : Int) rfl rfl (by rw [w64 (by omega) (by omega)]; rfl)) ?_
      refine Jl.pv (PR.move rfl) ?_
      refine Jl.nil ?_
      exact Jq.againT ⟨k + 1, hlt⟩ (by simp only; omega) (by repeat (first | exact trivial | refine And.intro rfl ?_)) (by repeat (first | exact Take.nil | apply Take.cons (by repeat (first | exact Del.here | apply Del.there)))) (by repeat (first | exact trivial | refine And.intro (by repeat (first | exact Mem.here | apply Mem.there)) ?_))
    refine Jl.pv (PR.not rfl) ?_
    refine Jl.nil ?_
    refine Jq.thenN ?_
    refine Jc.condT rfl ?_
    refine Jc.ret ?_
    refine Jq.blkR ?_
    refine Jq.thenR ?_
    refine Jq.thenR ?_
    refine Jq.blkR ?_
    exact Jq.itStop (k := k) (.inl rfl) (by omega) (by repeat (first | exact Mem.here | apply Mem.there))
  try replace h0 := of_decide_eq_false h0
  obtain rfl : k = zs.length := by omega
  refine Jc.exit ?_
  refine Jq.thenX ?_
  refine Jq.thenX ?_
  refine Jq.blkX ?_
  exact Jq.itDone (.inr rfl) (by repeat (first | exact Mem.here | apply Mem.there))
/-- The brain behind the first k records. -/
def allK (b : Br) (zs : Rcs) (k : Nat) : Br := (zs.take k).foldl (fun b z => b.apply z.2) b
theorem allK_succ (b : Br) {zs : Rcs} {k : Nat} (h : k < zs.length) : allK b zs (k + 1) = (allK b zs k).apply zs[k].2 := by
  rw [allK, List.take_succ_eq_append_getElem h, List.foldl_append]; rfl
theorem allK_end (b : Br) (zs : Rcs) : allK b zs zs.length = zs.foldl (fun b z => b.apply z.2) b := by rw [allK, List.take_length]
/-- What must be known of a record at a brain. -/
structure StepOk (φ : Fact) (b : Br) (r : Rc) (x : AdC) : Prop where
  len : r.l.length ≤ 1000
  cap : r.l.length ≤ x.2
  deed : ∀ z, r.k.toNat ≠ 2 → dT r.k.toNat = true → (r.l.length : Int) = dM r.k.toNat → numsOk r.l = true → DeedOk φ b z r x
  no : r.k.toNat ≠ 2 → ¬ (dT r.k.toNat = true ∧ (r.l.length : Int) = dM r.k.toNat) → b.deed r.k.toNat r.l = b
theorem ball_ct (φ : Fact) (b : Br) (z : BrA) (L : Option Addr) (cL : Nat) (zs : Rcs) (hn : b.its.length ≤ 1000000) (hm : b.kps.length ≤ 1000000) (hms : b.cf.ms.length ≤ 1000000) (hz : zs.length ≤ 1000000) (hS : ∀ k (h : k < zs.length), StepOk φ (allK b zs k) zs[k].2 zs[k].1) :
    Ct Tryz.prog 50 [b.v z, .slice L zs.length cL] [] (b.rd z ++ [.rd L (rcsV zs), .rcs zs, .lim, φ]) (fun x : BrA => (allK b zs zs.length).v x) (fun x => (allK b zs zs.length).rows x) (fun _ => []) := by
  obtain ⟨⟨M, cM⟩, ⟨I, cI⟩, ⟨K, cK⟩⟩ := z
  refine Ct.of _ Tryz.func50 Tryz.ntmps50 rfl rfl (fun X W => ?_)
  refine Jc.seq ?_
  refine Jc.region ?_
  refine Jl.box rfl (by rfl) ?_
  intro b2
  refine Jl.alloc tze30 ?_
  intro b4
  refine Jl.nil ?_
  refine Jq.thenN ?_
  refine Jc.seq ?_
  refine Jc.region ?_
  refine Jl.pv (PR.loadW rfl tsh30 (by repeat (first | exact Has.here | apply Has.there)) (by rfl)) ?_
  refine Jl.call (bown_ct b ((M, cM), (I, cI), (K, cK)) hn hm hms) en18 (by rfl) (by repeat (first | exact Take.nil | apply Take.cons (by repeat (first | exact Del.here | apply Del.there)))) (by repeat (first | exact trivial | refine And.intro (by repeat (first | exact Mem.here | apply Mem.there)) ?_)) ?_
  rintro ⟨⟨A1, c1⟩, ⟨A2, c2⟩, ⟨A3, c3⟩⟩
  refine Jl.storeW rfl tsh30 rfl (by rfl) (by first | exact Br.cs_one _ _ | simp [Value.oneCell', Rc.cs]) (by repeat (first | exact Swap.here | apply Swap.there)) (by rfl) ?_
  refine Jl.nil ?_
  refine Jq.thenN ?_
  refine Jc.seq ?_
  refine Jc.seq ?_
  refine Jc.region ?_
  refine Jl.pv (PR.move rfl) ?_
  refine Jl.call (records_ct L zs.length cL) en61 (by rfl) (by repeat (first | exact Take.nil | apply Take.cons (by repeat (first | exact Del.here | apply Del.there)))) (by repeat (first | exact trivial | refine And.intro (by repeat (first | exact Mem.here | apply Mem.there)) ?_)) ?_
  rintro b9
  refine Jl.nil ?_
  refine Jq.thenN ?_
  refine Jc.block ?_
  refine Jc.lessR (rs := .blk b9 107 [.slice L zs.length cL] :: .blk b4 30 ((⟨0, 0, false, Cf.zero, [], [], ⟨0, 0, 0, 0, false, 0, 0⟩⟩ : Br).cs ((none, 0), (none, 0), (none, 0))) :: (allK b zs 0).st b2 ((A1, c1), (A2, c2), (A3, c3))) (by repeat (first | exact Take.nil | apply Take.cons (by repeat (first | exact Del.here | apply Del.there)))) ?_
  refine Jc.range (σ := Nat × BrA) (τ := Empty) (Inv := fun k s => s.1 = k) (Rs := fun s => .blk b4 30 ((⟨0, 0, false, Cf.zero, [], [], ⟨0, 0, 0, 0, false, 0, 0⟩⟩ : Br).cs ((none, 0), (none, 0), (none, 0))) :: (allK b zs s.1).st b2 s.2) (Φs := fun _ => [.rd L (rcsV zs), .rcs zs, .lim, φ]) (InvX := fun _ _ x => x.elim) (RsX := fun x => x.elim) (ΦsX := fun x => x.elim) (vals := rcvals zs) rfl en69 (records1_it L cL b9 zs hz) (by repeat (first | exact Take.nil | apply Take.cons (by repeat (first | exact Del.here | apply Del.there)))) (by repeat (first | exact trivial | refine And.intro (by repeat (first | exact Mem.here | apply Mem.there)) ?_)) (rcvals_len zs) rfl (0, ((A1, c1), (A2, c2), (A3, c3))) rfl rfl (by repeat (first | exact trivial | refine And.intro (by repeat (first | exact Mem.here | apply Mem.there)) ?_)) ?_ ?_ ?_
  · rintro k ⟨j, z'⟩ hk hj l C1
    obtain rfl : j = k := hj
    rw [rcvals_at hk]
    refine Jc.fact (.rd zs[j].1.1 (i64s zs[j].2.l)) (φ := .rcs zs) (by repeat (first | exact Mem.here | apply Mem.there)) (fun X W h => h _ (List.getElem_mem hk)) ?_
    show Jc _ _ _ _ _ _ (psetL [10] [zs[j].2.v zs[j].1] _) (.blk b4 30 ((⟨0, 0, false, Cf.zero, [], [], ⟨0, 0, 0, 0, false, 0, 0⟩⟩ : Br).cs ((none, 0), (none, 0), (none, 0))) :: (allK b zs j).st b2 z') [.rd zs[j].1.1 (i64s zs[j].2.l), .rd L (rcsV zs), .rcs zs, .lim, φ]
    have hs := hS j hk
    refine Jc.region ?_
    refine Jl.alloc tze36 ?_
    intro b5
    refine Jl.storeW rfl tsh36 rfl (by rfl) (by first | exact Br.cs_one _ _ | simp [Value.oneCell', Rc.cs]) (by repeat (first | exact Swap.here | apply Swap.there)) (by rfl) ?_
    refine Jl.nil ?_
    refine Jq.assigned (fun C2 => ?_)
    refine Jc.block ?_
    refine Jc.region ?_
    refine Jl.pv (PR.loadW rfl tsh36 (by repeat (first | exact Has.here | apply Has.there)) (by rfl)) ?_
    refine Jl.call (apply_ct φ (allK b zs j) z' b2 zs[j].2 zs[j].1 hs.len hs.cap (hs.deed z') hs.no) en62 (by rfl) (by repeat (first | exact Take.nil | apply Take.cons (by repeat (first | exact Del.here | apply Del.there)))) (by repeat (first | exact trivial | refine And.intro (by repeat (first | exact Mem.here | apply Mem.there)) ?_)) ?_
    rintro z''
    refine Jl.nil ?_
    refine Jq.blkN ?_
    rw [← allK_succ b hk]
    refine Jq.lessR (rs := .blk b4 30 ((⟨0, 0, false, Cf.zero, [], [], ⟨0, 0, 0, 0, false, 0, 0⟩⟩ : Br).cs ((none, 0), (none, 0), (none, 0))) :: (allK b zs (j + 1)).st b2 z'') (by repeat (first | exact Take.nil | apply Take.cons (by repeat (first | exact Del.here | apply Del.there)))) ?_
    exact Jq.next (j + 1, z'') rfl rfl (by repeat (first | exact trivial | refine And.intro (by repeat (first | exact Mem.here | apply Mem.there)) ?_))
  · rintro ⟨j, z'⟩ D0 hj
    obtain rfl : j = zs.length := hj
    refine Jq.blkN ?_
    refine Jq.thenN ?_
    refine Jc.seq ?_
    refine Jc.region ?_
    refine Jl.pv (PR.loadW rfl tsh30 (by repeat (first | exact Has.here | apply Has.there)) (by rfl)) ?_
    refine Jl.storeW rfl tsh30 rfl (by rfl) (by first | exact Br.cs_one _ _ | simp [Value.oneCell', Rc.cs]) (by repeat (first | exact Swap.here | apply Swap.there)) (by rfl) ?_
    refine Jl.nil ?_
    refine Jq.thenN ?_
    refine Jc.ret ?_
    exact Jq.finM (Ds := [D0]) z' (.inl rfl) rfl (by repeat (first | exact Take.nil | apply Take.cons (by repeat (first | exact Del.here | apply Del.there)))) (RetVs.cellA rfl (by repeat (first | exact Has.here | apply Has.there)) tsh30 (by rfl) RetVs.nil) rfl (by repeat (first | exact Take.nil | apply Take.cons (by repeat (first | exact Del.here | apply Del.there)))) (by repeat (first | exact trivial | refine And.intro (by repeat (first | exact Mem.here | apply Mem.there)) ?_))
  exact fun _ _ t => t.elim
theorem bapply_ct (φ : Fact) (b : Br) (z : BrA) (r : Rc) (x : AdC) (hn : b.its.length ≤ 1000000) (hm : b.kps.length ≤ 1000000) (hms : b.cf.ms.length ≤ 1000000) (hS : StepOk φ b r x) :
    Ct Tryz.prog 19 [b.v z, r.v x] [] (b.rd z ++ [.rd x.1 (i64s r.l), .lim, φ]) (fun y : BrA => (b.apply r).v y) (fun y => (b.apply r).rows y) (fun _ => []) := by
  obtain ⟨⟨M, cM⟩, ⟨I, cI⟩, ⟨K, cK⟩⟩ := z
  obtain ⟨A, cA⟩ := x
  refine Ct.of _ Tryz.func19 Tryz.ntmps19 rfl rfl (fun X W => ?_)
  refine Jc.seq ?_
  refine Jc.region ?_
  refine Jl.box rfl (by rfl) ?_
  intro b2
  refine Jl.box rfl (by rfl) ?_
  intro b3
  refine Jl.alloc tze30 ?_
  intro b4
  refine Jl.nil ?_
  refine Jq.thenN ?_
  refine Jc.seq ?_
  refine Jc.region ?_
  refine Jl.pv (PR.loadW rfl tsh30 (by repeat (first | exact Has.here | apply Has.there)) (by rfl)) ?_
  refine Jl.pv (PR.loadW rfl tsh36 (by repeat (first | exact Has.here | apply Has.there)) (by rfl)) ?_
  refine Jl.buildSlice (by rfl) tsl107 tzr107_1 (by rfl) (by rfl) ?_
  intro b7
  refine Jl.seal (by repeat (first | exact Del.here | apply Del.there)) ?_
  refine Jl.fact (.rcs [((A, cA), r)]) (φ := .rd A (i64s r.l)) (by repeat (first | exact Mem.here | apply Mem.there)) (fun X W h z hz => by rw [List.mem_singleton] at hz; subst hz; exact h) ?_
  refine Jl.call (ball_ct φ b ((M, cM), (I, cI), (K, cK)) (some ⟨b7, 0, none⟩) 1 [((A, cA), r)] hn hm hms (by simp) (fun k h => by obtain rfl : k = 0 := (by simp at h; omega); exact hS)) en50 (by rfl) (by repeat (first | exact Take.nil | apply Take.cons (by repeat (first | exact Del.here | apply Del.there)))) (by repeat (first | exact trivial | refine And.intro (by repeat (first | exact Mem.here | apply Mem.there)) ?_)) ?_
  rintro y
  refine Jl.storeW rfl tsh30 rfl (by rfl) (by first | exact Br.cs_one _ _ | simp [Value.oneCell', Rc.cs]) (by repeat (first | exact Swap.here | apply Swap.there)) (by rfl) ?_
  refine Jl.nil ?_
  refine Jq.thenN ?_
  refine Jc.ret ?_
  exact Jq.fin y (.inl rfl) rfl (RetVs.cellA rfl (by repeat (first | exact Has.here | apply Has.there)) tsh30 (by rfl) RetVs.nil) rfl (by repeat (first | exact Take.nil | apply Take.cons (by repeat (first | exact Del.here | apply Del.there)))) (by repeat (first | exact trivial | refine And.intro (by repeat (first | exact Mem.here | apply Mem.there)) ?_))
end Go.Proofs.YtcppphgpbaablaaGreatDoor
