/-
The law of orders AdminFits.
-/
import Derived.Test.YtcppphgpbaablaaGreatDoorAdX2
import Derived.Test.YtcppphgpbaablaaGreatDoorAdW
namespace Go.Proofs.YtcppphgpbaablaaGreatDoor
set_option linter.unusedVariables false
open Go.RowKit
attribute [local irreducible] Res.blk Res.row Fact.rd Res.mapV
def agr (b : Br) (o : Rc) : Bool := b.great || decide (45 < o.l.length)
theorem agreat_ct (b : Br) (z : BrA) (o : Rc) (x : AdC) : Ct Tryz.prog 4 [b.v z, o.v x] [] [] (fun _ : Unit => .bool (agr b o)) (fun _ => []) (fun _ => []) := by
  refine Ct.of _ Tryz.func4 Tryz.ntmps4 rfl rfl (fun X W => ?_)
  refine Jc.seq ?_
  refine Jc.region ?_
  refine Jl.box rfl (by rfl) ?_
  intro b2
  refine Jl.box rfl (by rfl) ?_
  intro b3
  refine Jl.pv (PR.assign rfl) ?_
  refine Jl.nil ?_
  refine Jq.thenN ?_
  refine Jc.seq ?_
  refine Jc.region ?_
  refine Jl.pv (PR.loadW rfl tsh30 (by repeat (first | exact Has.here | apply Has.there)) (by rfl)) ?_
  refine Jl.call (brgreat_ct b z) en12 (by rfl) (by repeat (first | exact Take.nil | apply Take.cons (by repeat (first | exact Del.here | apply Del.there)))) (by repeat (first | exact trivial | refine And.intro (by repeat (first | exact Mem.here | apply Mem.there)) ?_)) ?_
  rintro ⟨⟩
  refine Jl.pv (PR.move rfl) ?_
  refine Jl.bsplit (fun g7 => ?_) (fun g7 => ?_)
  · try replace g7 := of_decide_eq_true g7
    refine Jl.offS rfl rfl rfl ?_
    refine Jl.offS rfl rfl rfl ?_
    refine Jl.offS rfl rfl rfl ?_
    refine Jl.offS rfl rfl rfl ?_
    refine Jl.pv (PR.pickT rfl rfl) ?_
    refine Jl.pv (PR.assign rfl) ?_
    refine Jl.nil ?_
    refine Jq.thenN ?_
    refine Jc.ret ?_
    exact Jq.fin () (.inl rfl) rfl (RetVs.tmp rfl RetVs.nil) (congrArg Value.bool (show agr b o = true by simp only [agr, Br.great, Bool.or_eq_true, decide_eq_true_eq]; exact .inl g7)) (by repeat (first | exact Take.nil | apply Take.cons (by repeat (first | exact Del.here | apply Del.there)))) (by repeat (first | exact trivial | refine And.intro (by repeat (first | exact Mem.here | apply Mem.there)) ?_))
  try replace g7 := of_decide_eq_false g7
  refine Jl.on rfl rfl ?_
  refine Jl.pv (PR.fieldAddr rfl tfl32_1) ?_
  refine Jl.on rfl rfl ?_
  refine Jl.pv (PR.load1 rfl tsh22 (by repeat (first | exact Has.here | apply Has.there)) (by rfl)) ?_
  refine Jl.on rfl rfl ?_
  refine Jl.pv (PR.len rfl tsl22) ?_
  refine Jl.on rfl rfl ?_
  refine Jl.pv (PR.gtr _ rfl rfl rfl) ?_
  refine Jl.pv (PR.pickF rfl rfl) ?_
  refine Jl.pv (PR.assign rfl) ?_
  refine Jl.nil ?_
  refine Jq.thenN ?_
  refine Jc.ret ?_
  exact Jq.fin () (.inl rfl) rfl (RetVs.tmp rfl RetVs.nil) (congrArg Value.bool (by rw [Bool.eq_iff_iff]; simp only [agr, Br.great, Bool.or_eq_true, decide_eq_true_eq]; omega)) (by repeat (first | exact Take.nil | apply Take.cons (by repeat (first | exact Del.here | apply Del.there)))) (by repeat (first | exact trivial | refine And.intro (by repeat (first | exact Mem.here | apply Mem.there)) ?_))
  -- hint not used: one
/-- No more launches and instances; and no more marks than there were, or numbers. -/
def LenOk (b T : Br) (n : Nat) : Prop := T.its = b.its ∧ T.kps.length = b.kps.length ∧ (T.cf.ms.length = b.cf.ms.length ∨ T.cf.ms.length ≤ n)
theorem len_self (b : Br) (n : Nat) : LenOk b b n := ⟨rfl, rfl, .inl rfl⟩
theorem len_set (b : Br) (i : Nat) (x : Kp) (n : Nat) : LenOk b (b.onK1 i x) n := ⟨rfl, by simp [Br.onK1], .inl rfl⟩
theorem len_guard (b : Br) (a c : Int) (n : Nat) : LenOk b (b.guard a c) n := by
  unfold Br.guard
  split
  · exact len_self b n
  · split
    · exact len_set b _ _ n
    · exact len_self b n
theorem len_compl (b : Br) (a : Int) (n : Nat) : LenOk b (b.compl a) n := by
  unfold Br.compl
  split
  · exact len_self b n
  · exact len_set b _ _ n
theorem len_begin (b : Br) (a c : Int) (n : Nat) : LenOk b (b.begin1 a c) n := by
  unfold Br.begin1
  split
  · exact ⟨rfl, rfl, .inl rfl⟩
  · exact len_self b n
theorem len_canc (b : Br) (n : Nat) : LenOk b b.canc n := by
  unfold Br.canc
  split
  · exact ⟨rfl, rfl, .inl rfl⟩
  · exact len_self b n
theorem len_roll (b : Br) (n : Nat) : LenOk b b.roll n := by
  unfold Br.roll
  split
  · exact ⟨rfl, rfl, .inl rfl⟩
  · exact len_self b n
theorem len_go (b : Br) (n : Nat) : LenOk b b.go1 n := by
  unfold Br.go1
  split
  · split
    · exact ⟨rfl, rfl, .inl rfl⟩
    · exact len_self b n
  · exact len_self b n
theorem len_group (b : Br) (l : List Int) : LenOk b (b.group l) l.length := by
  have := cfOf_ms l
  unfold Br.group
  split
  · refine ⟨rfl, rfl, .inr ?_⟩
    show (if b.set = true then { cfOf l with ve := b.cf.ve } else cfOf l).ms.length ≤ _
    split <;> exact this
  · exact len_self b _
theorem apply_len {b : Br} {r : Rc} (hk : r.k.toNat = 2 ∨ admK r.k.toNat = true) : LenOk b (b.apply r) r.l.length := by
  by_cases hnum : numsOk r.l = true
  · by_cases h2 : r.k.toNat = 2
    · rw [show b.apply r = b.group r.l by rw [Br.apply, if_pos hnum, if_pos h2]]
      exact len_group b r.l
    · have hk' := hk.resolve_left h2
      rw [show b.apply r = b.deed r.k.toNat r.l by rw [Br.apply, if_pos hnum, if_neg h2]]
      by_cases hq : (r.l.length : Int) = dM r.k.toNat
      · obtain ⟨k, l⟩ := r
        simp only [admK, Bool.or_eq_true, decide_eq_true_eq] at hk'
        simp only at hk' hq ⊢
        have hk2 : k.toNat = 9 ∨ k.toNat = 10 ∨ k.toNat = 11 ∨ k.toNat = 12 ∨ k.toNat = 13 ∨ k.toNat = 15 := by omega
        rcases hk2 with h | h | h | h | h | h <;> rw [h] at hq ⊢
        · obtain ⟨a, c, rfl⟩ := len2 hq
          exact len_guard b a c _
        · obtain ⟨a, rfl⟩ := len1 hq
          exact len_compl b a _
        · obtain ⟨a, c, rfl⟩ := len2 hq
          exact len_begin b a c _
        · obtain rfl := len0 hq
          exact len_canc b _
        · obtain rfl := len0 hq
          exact len_roll b _
        · obtain rfl := len0 hq
          exact len_go b _
      · rw [deed_no h2 (fun h => hq h.2)]
        exact len_self b _
  · rw [show b.apply r = b by rw [Br.apply, if_neg hnum]]
    exact len_self b _
theorem doo_len {b : Br} {o : Rc} {now : Int} : (b.doo o now).its = b.its ∧ (b.doo o now).kps.length = b.kps.length ∧ ((b.doo o now).cf.ms.length = b.cf.ms.length ∨ (b.doo o now).cf.ms.length ≤ o.l.length + 2) := by
  unfold Br.doo
  split
  · rename_i h
    have hk := ask_kind h
    have hl := apply_len (b := b) hk.1
    exact ⟨hl.1, hl.2.1, hl.2.2.imp id fun h => by omega⟩
  · exact ⟨rfl, rfl, .inl rfl⟩
theorem adminFits_ct (b : Br) (z : BrA) (o : Rc) (x : AdC) (now : Int) (hc : o.l.length ≤ x.2) (hi : i64in o.l) : Ct Tryz.prog 3 [b.v z, o.v x, .int .i64 now] [] [.rd z.1.1 (i64s b.cf.ms), .rd z.2.1.1 (itsV b.its), .rd z.2.2.1 (kpsV b.kps), .rd x.1 (i64s o.l), .lim, .anames] (fun _ : Unit => .bool true) (fun _ => []) (fun _ => []) := by
  obtain ⟨⟨M, cM⟩, ⟨I, cI⟩, ⟨K, cK⟩⟩ := z
  obtain ⟨L, cL⟩ := x
  by_cases hgr : agr b o = true
  · skip
    refine Ct.of _ Tryz.func3 Tryz.ntmps3 rfl rfl (fun X W => ?_)
    refine Jc.seq ?_
    refine Jc.region ?_
    refine Jl.box rfl (by rfl) ?_
    intro b3
    refine Jl.box rfl (by rfl) ?_
    intro b4
    refine Jl.pv (PR.assign rfl) ?_
    refine Jl.nil ?_
    refine Jq.thenN ?_
    refine Jc.seq ?_
    refine Jc.seq ?_
    refine Jc.region ?_
    refine Jl.pv (PR.loadW rfl tsh30 (by repeat (first | exact Has.here | apply Has.there)) (by rfl)) ?_
    refine Jl.pv (PR.loadW rfl tsh32 (by repeat (first | exact Has.here | apply Has.there)) (by rfl)) ?_
    refine Jl.call (agreat_ct b ((M, cM), (I, cI), (K, cK)) o (L, cL)) en4 (by rfl) (by repeat (first | exact Take.nil | apply Take.cons (by repeat (first | exact Del.here | apply Del.there)))) (by repeat (first | exact trivial | refine And.intro (by repeat (first | exact Mem.here | apply Mem.there)) ?_)) ?_
    rintro ⟨⟩
    refine Jl.as (.bool true) (congrArg Value.bool hgr) ?_
    refine Jl.pv (PR.move rfl) ?_
    refine Jl.offS rfl rfl rfl ?_
    refine Jl.offS rfl rfl rfl ?_
    refine Jl.offS rfl rfl rfl ?_
    refine Jl.pv (PR.pickT rfl rfl) ?_
    refine Jl.nil ?_
    refine Jq.thenN ?_
    refine Jc.condT rfl ?_
    refine Jc.seq ?_
    refine Jc.region ?_
    refine Jl.call awakes_ct en6 (by rfl) (by repeat (first | exact Take.nil | apply Take.cons (by repeat (first | exact Del.here | apply Del.there)))) (by repeat (first | exact trivial | refine And.intro (by repeat (first | exact Mem.here | apply Mem.there)) ?_)) ?_
    rintro ⟨⟩
    refine Jl.pv (PR.assign rfl) ?_
    refine Jl.nil ?_
    refine Jq.thenN ?_
    refine Jc.ret ?_
    refine Jq.thenR ?_
    exact Jq.fin () (.inl rfl) rfl (RetVs.tmp rfl RetVs.nil) rfl (by repeat (first | exact Take.nil | apply Take.cons (by repeat (first | exact Del.here | apply Del.there)))) (by repeat (first | exact trivial | refine And.intro (by repeat (first | exact Mem.here | apply Mem.there)) ?_))
    -- hint not used: one
  have hgr' : b.great = false ∧ o.l.length ≤ 45 := by simpa [agr] using hgr
  obtain ⟨hn, hm, hms⟩ := great_no hgr'.1
  have hol := hgr'.2
  obtain ⟨d1, d2, d3⟩ := doo_len (b := b) (o := o) (now := now)
  have e1 : (b.doo o now).its.length ≤ 1000000 := by rw [d1]; omega
  have e2 : (b.doo o now).kps.length ≤ 1000000 := by omega
  have e3 : (b.doo o now).cf.ms.length ≤ 1000000 := by omega
  refine Ct.of _ Tryz.func3 Tryz.ntmps3 rfl rfl (fun X W => ?_)
  refine Jc.seq ?_
  refine Jc.region ?_
  refine Jl.box rfl (by rfl) ?_
  intro b3
  refine Jl.box rfl (by rfl) ?_
  intro b4
  refine Jl.pv (PR.assign rfl) ?_
  refine Jl.nil ?_
  refine Jq.thenN ?_
  refine Jc.seq ?_
  refine Jc.seq ?_
  refine Jc.region ?_
  refine Jl.pv (PR.loadW rfl tsh30 (by repeat (first | exact Has.here | apply Has.there)) (by rfl)) ?_
  refine Jl.pv (PR.loadW rfl tsh32 (by repeat (first | exact Has.here | apply Has.there)) (by rfl)) ?_
  refine Jl.call (agreat_ct b ((M, cM), (I, cI), (K, cK)) o (L, cL)) en4 (by rfl) (by repeat (first | exact Take.nil | apply Take.cons (by repeat (first | exact Del.here | apply Del.there)))) (by repeat (first | exact trivial | refine And.intro (by repeat (first | exact Mem.here | apply Mem.there)) ?_)) ?_
  rintro ⟨⟩
  refine Jl.as (.bool false) (congrArg Value.bool (by simpa using hgr)) ?_
  refine Jl.pv (PR.move rfl) ?_
  refine Jl.on rfl rfl ?_
  refine Jl.pv (PR.loadW rfl tsh30 (by repeat (first | exact Has.here | apply Has.there)) (by rfl)) ?_
  refine Jl.on rfl rfl ?_
  refine Jl.call (brright_ct b ((M, cM), (I, cI), (K, cK)) (by omega) (by omega) (by omega)) en5 (by rfl) (by repeat (first | exact Take.nil | apply Take.cons (by repeat (first | exact Del.here | apply Del.there)))) (by repeat (first | exact trivial | refine And.intro (by repeat (first | exact Mem.here | apply Mem.there)) ?_)) ?_
  rintro ⟨⟩
  refine Jl.on rfl rfl ?_
  refine Jl.pv (PR.not rfl) ?_
  refine Jl.pv (PR.pickF rfl rfl) ?_
  refine Jl.nil ?_
  refine Jq.thenN ?_
  refine Jc.cond rfl (fun h0 => ?_) (fun h0 => ?_)
  · try replace h0 := of_decide_eq_true h0
    refine Jc.seq ?_
    refine Jc.region ?_
    refine Jl.call awakes_ct en6 (by rfl) (by repeat (first | exact Take.nil | apply Take.cons (by repeat (first | exact Del.here | apply Del.there)))) (by repeat (first | exact trivial | refine And.intro (by repeat (first | exact Mem.here | apply Mem.there)) ?_)) ?_
    rintro ⟨⟩
    refine Jl.pv (PR.assign rfl) ?_
    refine Jl.nil ?_
    refine Jq.thenN ?_
    refine Jc.ret ?_
    refine Jq.thenR ?_
    exact Jq.fin () (.inl rfl) rfl (RetVs.tmp rfl RetVs.nil) rfl (by repeat (first | exact Take.nil | apply Take.cons (by repeat (first | exact Del.here | apply Del.there)))) (by repeat (first | exact trivial | refine And.intro (by repeat (first | exact Mem.here | apply Mem.there)) ?_))
  try replace h0 := of_decide_eq_false h0
  have hok : b.Ok := okB_iff.1 (by simpa using h0)
  have haf := ask_fits hok o now
  refine Jc.skip ?_
  refine Jq.thenN ?_
  refine Jc.seq ?_
  refine Jc.region ?_
  refine Jl.pv (PR.loadW rfl tsh30 (by repeat (first | exact Has.here | apply Has.there)) (by rfl)) ?_
  refine Jl.pv (PR.loadW rfl tsh32 (by repeat (first | exact Has.here | apply Has.there)) (by rfl)) ?_
  refine Jl.pv (PR.move rfl) ?_
  refine Jl.call (acheck_ct b ((M, cM), (I, cI), (K, cK)) o (L, cL) now (by omega) hc (by omega) (fun _ => hi)) en7 (by rfl) (by repeat (first | exact Take.nil | apply Take.cons (by repeat (first | exact Del.here | apply Del.there)))) (by repeat (first | exact trivial | refine And.intro (by repeat (first | exact Mem.here | apply Mem.there)) ?_)) ?_
  rintro ⟨⟨A24, c24⟩, h24⟩
  refine Jl.pv (PR.move rfl) ?_
  refine Jl.pv (PR.extract rfl (by rfl)) ?_
  refine Jl.pv (PR.extract rfl (by rfl)) ?_
  refine Jl.alloc tze36 ?_
  intro b7
  refine Jl.storeW rfl tsh36 rfl (by rfl) (by first | exact Br.cs_one _ _ | simp [Value.oneCell', Rc.cs]) (by repeat (first | exact Swap.here | apply Swap.there)) (by rfl) ?_
  refine Jl.pv (PR.assign rfl) ?_
  refine Jl.nil ?_
  refine Jq.thenN ?_
  refine Jc.seq ?_
  refine Jc.region ?_
  refine Jl.pv (PR.loadW rfl tsh30 (by repeat (first | exact Has.here | apply Has.there)) (by rfl)) ?_
  refine Jl.pv (PR.loadW rfl tsh32 (by repeat (first | exact Has.here | apply Has.there)) (by rfl)) ?_
  refine Jl.pv (PR.move rfl) ?_
  refine Jl.call (adoo_ct b ((M, cM), (I, cI), (K, cK)) o (L, cL) now (by omega) hc (fun _ => hi) (by omega) (by omega) (by omega)) en8 (by rfl) (by repeat (first | exact Take.nil | apply Take.cons (by repeat (first | exact Del.here | apply Del.there)))) (by repeat (first | exact trivial | refine And.intro (by repeat (first | exact Mem.here | apply Mem.there)) ?_)) ?_
  rintro ⟨⟨M1, m1⟩, ⟨I1, i1⟩, ⟨K1, k1⟩⟩
  refine Jl.pv (PR.move rfl) ?_
  refine Jl.pv (PR.extract rfl (by rfl)) ?_
  refine Jl.pv (PR.extract rfl (by rfl)) ?_
  refine Jl.alloc tze30 ?_
  intro b9
  refine Jl.storeW rfl tsh30 rfl (by rfl) (by first | exact Br.cs_one _ _ | simp [Value.oneCell', Rc.cs]) (by repeat (first | exact Swap.here | apply Swap.there)) (by rfl) ?_
  refine Jl.pv (PR.assign rfl) ?_
  refine Jl.nil ?_
  refine Jq.thenN ?_
  refine Jc.seq ?_
  refine Jc.seq ?_
  refine Jc.region ?_
  refine Jl.pv (PR.move rfl) ?_
  refine Jl.pv (PR.move rfl) ?_
  refine Jl.pv (PR.neq false rfl rfl (by simp)) ?_
  refine Jl.pv (PR.move rfl) ?_
  refine Jl.on rfl rfl ?_
  refine Jl.pv (PR.loadW rfl tsh30 (by repeat (first | exact Has.here | apply Has.there)) (by rfl)) ?_
  refine Jl.on rfl rfl ?_
  refine Jl.call (brright_ct (b.doo o now) ((M1, m1), (I1, i1), (K1, k1)) e1 e2 e3) en5 (by rfl) (by repeat (first | exact Take.nil | apply Take.cons (by repeat (first | exact Del.here | apply Del.there)))) (by repeat (first | exact trivial | refine And.intro (by repeat (first | exact Mem.here | apply Mem.there)) ?_)) ?_
  rintro ⟨⟩
  refine Jl.as (.bool true) (congrArg Value.bool (okB_yes (doo_ok hok o now))) ?_
  refine Jl.on rfl rfl ?_
  refine Jl.pv (PR.not rfl) ?_
  refine Jl.pv (PR.pickF rfl rfl) ?_
  refine Jl.nil ?_
  refine Jq.thenN ?_
  refine Jc.condF rfl ?_
  refine Jc.skip ?_
  refine Jq.thenN ?_
  refine Jc.seq ?_
  refine Jc.seq ?_
  refine Jc.region ?_
  refine Jl.pv (PR.move rfl) ?_
  refine Jl.pv (PR.neq _ rfl rfl rfl) ?_
  refine Jl.nil ?_
  refine Jq.thenN ?_
  refine Jc.cond rfl (fun h1 => ?_) (fun h1 => ?_)
  · try replace h1 := of_decide_eq_true h1
    have hz := haf.1 h1
    refine Jc.seq ?_
    refine Jc.region ?_
    refine Jl.pv (PR.loadW rfl tsh30 (by repeat (first | exact Has.here | apply Has.there)) (by rfl)) ?_
    refine Jl.pv (PR.loadW rfl tsh30 (by repeat (first | exact Has.here | apply Has.there)) (by rfl)) ?_
    refine Jl.call (brsame_at (a := b.doo o now) (b := b) (x := ((M1, m1), (I1, i1), (K1, k1))) (y := ((M, cM), (I, cI), (K, cK))) e1 e2 e3 (if_neg h1)) en9 (by rfl) (by repeat (first | exact Take.nil | apply Take.cons (by repeat (first | exact Del.here | apply Del.there)))) (by repeat (first | exact trivial | refine And.intro (by repeat (first | exact Mem.here | apply Mem.there)) ?_)) ?_
    rintro ⟨⟩
    refine Jl.as (.bool true) (congrArg Value.bool rfl) ?_
    refine Jl.pv (PR.move rfl) ?_
    refine Jl.on rfl rfl ?_
    refine Jl.pv (PR.fieldAddr rfl tfl36_0) ?_
    refine Jl.on rfl rfl ?_
    refine Jl.pv (PR.load1 rfl tsh5 (by repeat (first | exact Has.here | apply Has.there)) (by rfl)) ?_
    refine Jl.on rfl rfl ?_
    refine Jl.pv (PR.eql true rfl rfl (by rw [hz]; rfl)) ?_
    refine Jl.pv (PR.pickT rfl rfl) ?_
    refine Jl.pv (PR.move rfl) ?_
    refine Jl.on rfl rfl ?_
    refine Jl.pv (PR.fieldAddr rfl tfl36_1) ?_
    refine Jl.on rfl rfl ?_
    refine Jl.pv (PR.load1 rfl tsh22 (by repeat (first | exact Has.here | apply Has.there)) (by rfl)) ?_
    refine Jl.on rfl rfl ?_
    refine Jl.pv (PR.len rfl tsl22) ?_
    refine Jl.on rfl rfl ?_
    refine Jl.pv (PR.eql true rfl rfl (by rw [hz]; rfl)) ?_
    refine Jl.pv (PR.pickT rfl rfl) ?_
    refine Jl.pv (PR.move rfl) ?_
    refine Jl.on rfl rfl ?_
    refine Jl.call awakes_ct en6 (by rfl) (by repeat (first | exact Take.nil | apply Take.cons (by repeat (first | exact Del.here | apply Del.there)))) (by repeat (first | exact trivial | refine And.intro (by repeat (first | exact Mem.here | apply Mem.there)) ?_)) ?_
    rintro ⟨⟩
    refine Jl.pv (PR.pickT rfl rfl) ?_
    refine Jl.pv (PR.assign rfl) ?_
    refine Jl.nil ?_
    refine Jq.thenN ?_
    refine Jc.ret ?_
    refine Jq.thenR ?_
    exact Jq.fin () (.inl rfl) rfl (RetVs.tmp rfl RetVs.nil) rfl (by repeat (first | exact Take.nil | apply Take.cons (by repeat (first | exact Del.here | apply Del.there)))) (by repeat (first | exact trivial | refine And.intro (by repeat (first | exact Mem.here | apply Mem.there)) ?_))
  try replace h1 := of_decide_eq_false h1
  have he : (b.ask o now).2 = 0 := Decidable.of_not_not h1
  have hk := ask_kind he
  refine Jc.skip ?_
  refine Jq.thenN ?_
  refine Jc.seq ?_
  refine Jc.drawn [0, 1, 3, 7, 7, 7, 55, 127, 255, 511, 1023, 2047, 4095] ([(11, false), (12, false)], []) [⟨[(0, false)], [], 1⟩, ⟨[(2, false), (3, false), (4, false), (5, false)], [], 6⟩, ⟨[], [], 7⟩, ⟨[(8, false), (9, false)], [], 10⟩] tmx (by kernel_rfl) ?_
  refine Dh.JH.cons ?_
  refine Dh.JB.rd [.blk _ _ _] rfl trivial (by repeat (first | exact Take.nil | apply Take.cons (by repeat (first | exact Del.here | apply Del.there)))) (fun _ => PR.loadW rfl tsh36 Has.here (by rfl)) ?_
  refine Dh.JB.nil ?_
  refine Dh.JL.nil ?_
  refine Dh.JE.mk rfl (fun _ h => by cases h) (fun C9_1 => ?_)
  refine Jl.call (rright_ct (b.ask o now).1 (A24, c24) (by omega)) en10 (by rfl) (by repeat (first | exact Take.nil | apply Take.cons (by repeat (first | exact Del.here | apply Del.there)))) (by repeat (first | exact trivial | refine And.intro (by repeat (first | exact Mem.here | apply Mem.there)) ?_)) ?_
  rintro ⟨⟩
  refine Jl.as (.bool true) (congrArg Value.bool (haf.2 he).1) ?_
  refine Jl.nil ?_
  refine Dh.Jq.segV (by repeat (first | exact Dh.FExt.refl | apply Dh.FExt.cons | apply Dh.FExt.app)) ?_ (by repeat (first | exact Dh.KeepL.nil | apply Dh.KeepL.anc (by rfl) | apply Dh.KeepL.keep (by repeat (first | exact Take.nil | apply Take.cons (by repeat (first | exact Del.here | apply Del.there))))))
  refine Dh.JH.cons ?_
  refine Dh.JB.pv rfl trivial (fun _ => PR.move rfl) ?_
  refine Dh.JB.rd [.blk _ _ _] rfl ⟨_, rfl, rfl⟩ (by repeat (first | exact Take.nil | apply Take.cons (by repeat (first | exact Del.here | apply Del.there)))) (fun _ => PR.loadW rfl tsh30 Has.here (by rfl)) ?_
  refine Dh.JB.rd [.blk _ _ _] rfl ⟨_, rfl, rfl⟩ (by repeat (first | exact Take.nil | apply Take.cons (by repeat (first | exact Del.here | apply Del.there)))) (fun _ => PR.loadW rfl tsh30 Has.here (by rfl)) ?_
  refine Dh.JB.rd [.blk _ _ _] rfl ⟨_, rfl, rfl⟩ (by repeat (first | exact Take.nil | apply Take.cons (by repeat (first | exact Del.here | apply Del.there)))) (fun _ => PR.loadW rfl tsh36 Has.here (by rfl)) ?_
  refine Dh.JB.nil ?_
  refine Dh.JL.nil ?_
  refine Dh.JE.mk rfl (fun _ h => by cases h) (fun C9_6 => ?_)
  refine Jl.on rfl rfl ?_
  refine Jl.call (rapply_adm b ((M, cM), (I, cI), (K, cK)) (b.ask o now).1 (A24, c24) (by omega) (by omega) (by omega) (by omega) h24 hk.1) en11 (by rfl) (by repeat (first | exact Take.nil | apply Take.cons (by repeat (first | exact Del.here | apply Del.there)))) (by repeat (first | exact trivial | refine And.intro (by repeat (first | exact Mem.here | apply Mem.there)) ?_)) ?_
  rintro ⟨⟨M2, m2⟩, ⟨I2, i2⟩, ⟨K2, k2⟩⟩
  refine Jl.sealR (by repeat (first | exact Del.here | apply Del.there)) ?_
  refine Jl.sealR (by repeat (first | exact Del.here | apply Del.there)) ?_
  refine Jl.sealR (by repeat (first | exact Del.here | apply Del.there)) ?_
  refine Jl.nil ?_
  refine Dh.Jq.segV (by repeat (first | exact Dh.FExt.refl | apply Dh.FExt.cons | apply Dh.FExt.app)) ?_ (by repeat (first | exact Dh.KeepL.nil | apply Dh.KeepL.anc (by rfl) | apply Dh.KeepL.keep (by repeat (first | exact Take.nil | apply Take.cons (by repeat (first | exact Del.here | apply Del.there))))))
  refine Dh.JH.cons ?_
  refine Dh.JB.nil ?_
  refine Dh.JL.nil ?_
  refine Dh.JE.mk rfl (fun _ h => by cases h) (fun C9_7 => ?_)
  refine Jl.on rfl rfl ?_
  refine Jl.call (brsame_at (a := b.doo o now) (b := b.apply (b.ask o now).1) (x := ((M1, m1), (I1, i1), (K1, k1))) (y := ((M2, m2), (I2, i2), (K2, k2))) e1 e2 e3 (if_pos he)) en9 (by rfl) (by repeat (first | exact Take.nil | apply Take.cons (by repeat (first | exact Del.here | apply Del.there)))) (by repeat (first | exact trivial | refine And.intro (by repeat (first | exact Mem.here | apply Mem.there)) ?_)) ?_
  rintro ⟨⟩
  refine Jl.as (.bool true) (congrArg Value.bool rfl) ?_
  refine Jl.nil ?_
  refine Dh.Jq.segV (by repeat (first | exact Dh.FExt.refl | apply Dh.FExt.cons | apply Dh.FExt.app)) ?_ (by repeat (first | exact Dh.KeepL.nil | apply Dh.KeepL.anc (by rfl) | apply Dh.KeepL.keep (by repeat (first | exact Take.nil | apply Take.cons (by repeat (first | exact Del.here | apply Del.there))))))
  refine Dh.JH.cons ?_
  refine Dh.JB.pv rfl trivial (fun _ => PR.pickT rfl rfl) ?_
  refine Dh.JB.pv rfl trivial (fun _ => PR.move rfl) ?_
  refine Dh.JB.nil ?_
  refine Dh.JL.nil ?_
  refine Dh.JE.mk rfl (fun _ h => by cases h) (fun C9_10 => ?_)
  refine Jl.on rfl rfl ?_
  refine Jl.call awakes_ct en6 (by rfl) (by repeat (first | exact Take.nil | apply Take.cons (by repeat (first | exact Del.here | apply Del.there)))) (by repeat (first | exact trivial | refine And.intro (by repeat (first | exact Mem.here | apply Mem.there)) ?_)) ?_
  rintro ⟨⟩
  refine Jl.nil ?_
  refine Dh.Jq.segV (by repeat (first | exact Dh.FExt.refl | apply Dh.FExt.cons | apply Dh.FExt.app)) ?_ (by repeat (first | exact Dh.KeepL.nil | apply Dh.KeepL.anc (by rfl) | apply Dh.KeepL.keep (by repeat (first | exact Take.nil | apply Take.cons (by repeat (first | exact Del.here | apply Del.there))))))
  refine Dh.JH.nil ?_
  refine Dh.JB.pv rfl trivial (fun _ => PR.pickT rfl rfl) ?_
  refine Dh.JB.pv rfl trivial (fun _ => PR.assign rfl) ?_
  refine Dh.JB.nil ?_
  refine Dh.JL.nil ?_
  refine Jq.thenN ?_
  refine Jc.ret ?_
  exact Jq.fin () (.inl rfl) rfl (RetVs.tmp rfl RetVs.nil) rfl (by repeat (first | exact Take.nil | apply Take.cons (by repeat (first | exact Del.here | apply Del.there)))) (by repeat (first | exact trivial | refine And.intro (by repeat (first | exact Mem.here | apply Mem.there)) ?_))
end Go.Proofs.YtcppphgpbaablaaGreatDoor
