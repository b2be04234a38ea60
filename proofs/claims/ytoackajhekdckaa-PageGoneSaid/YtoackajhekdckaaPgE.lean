/-
The laws of pages: PageRest.
-/
import Derived.Test.YtoackajhekdckaaPgD
namespace Go.Proofs.Ytoackajhekdckaa
set_option linter.unusedVariables false
open Go.RowKit
attribute [local irreducible] Res.blk Res.row Fact.rd Res.mapI
theorem great_ct (c : Cl) (x : AdC) : Ct Try.prog 7 [c.v x] [] [] (fun _ : Unit => .bool (decide (60 < c.bs.length))) (fun _ => []) (fun _ => []) := by
  refine Ct.of _ Try.func7 Try.ntmps7 rfl rfl (fun X W => ?_)
  refine Jc.seq ?_
  refine Jc.region ?_
  refine Jl.box rfl (by rfl) ?_
  intro b1
  refine Jl.pv (PR.assign rfl) ?_
  refine Jl.nil ?_
  refine Jq.thenN ?_
  refine Jc.seq ?_
  refine Jc.region ?_
  refine Jl.pv (PR.fieldAddr rfl tfl24_0) ?_
  refine Jl.pv (PR.load1 rfl tsh22 (by repeat (first | exact Has.here | apply Has.there)) (by rfl)) ?_
  refine Jl.pv (PR.len rfl tsl22) ?_
  refine Jl.pv (PR.gtr (decide (60 < c.bs.length)) rfl rfl (by rw [decide_eq_decide]; omega)) ?_
  refine Jl.pv (PR.assign rfl) ?_
  refine Jl.nil ?_
  refine Jq.thenN ?_
  refine Jc.ret ?_
  exact Jq.fin () (.inl rfl) rfl (RetVs.tmp rfl RetVs.nil) rfl (by repeat (first | exact Take.nil | apply Take.cons (by repeat (first | exact Del.here | apply Del.there)))) (by repeat (first | exact trivial | refine And.intro (by repeat (first | exact Mem.here | apply Mem.there)) ?_))
theorem shw_rest {c : Cl} (h : c.Ok) (be : Int) : shw c be = (shw c 0).filter fun x => decide (be < x.id) := by
  rw [shw_ok (Cl.ok_iff.2 h), shw_ok (Cl.ok_iff.2 h), List.filter_map, List.filter_filter]
  congr 1
  refine List.filter_congr fun b hb => ?_
  obtain ⟨i, hi, rfl⟩ := List.mem_iff_getElem.1 hb
  have h1 := (h.bs i hi).1.1
  have h2 : (0 : Int) < c.bs[i].id := by omega
  simp only [Bx.sh, Bx.seen, Function.comp]
  rw [decide_eq_true h2]
  cases c.bs[i].tag <;> cases c.bs[i].gone <;> (try simp) <;> exact decide_eq_decide.2 Iff.rfl
/-- Those of the first so many of which it is so. -/
def rst (q : Sn → Bool) (l : List Sn) (k : Nat) : List Sn := (l.take k).filter q
theorem rst_yes {q : Sn → Bool} {l : List Sn} {k : Nat} (h : k < l.length) (hb : q l[k] = true) : rst q l (k + 1) = rst q l k ++ [l[k]] := by
  rw [rst, List.take_succ_eq_append_getElem h, List.filter_append]
  simp [rst, hb]
theorem rst_no {q : Sn → Bool} {l : List Sn} {k : Nat} (h : k < l.length) (hb : q l[k] = false) : rst q l (k + 1) = rst q l k := by
  rw [rst, List.take_succ_eq_append_getElem h, List.filter_append]
  simp [rst, hb]
theorem rst_le (q : Sn → Bool) (l : List Sn) (k : Nat) : (rst q l k).length ≤ l.length := by
  have h1 := List.length_filter_le q (l.take k)
  rw [List.length_take] at h1
  unfold rst; omega
theorem take_len3 (s : List Sn) : s.take (s.take 3).length = s.take 3 := by rw [List.length_take, ← List.take_eq_take_min]
theorem pageRest_ct (c : Cl) (x : AdC) (be call : Int) (hw : c.Wf) : Ct Try.prog 6 [c.v x, .int .i64 be, .int .i64 call] [] [.rd x.1 (bxsV c.bs)] (fun _ : Unit => .bool true) (fun _ => []) (fun _ => []) := by
  have hl60 := shw_len c 0
  obtain ⟨al, hal⟩ : ∃ al, shw c 0 = al := ⟨_, rfl⟩
  obtain ⟨s, hs⟩ : ∃ s, shw c be = s := ⟨_, rfl⟩
  rw [hal] at hl60
  obtain ⟨qb, hqb⟩ : ∃ q : Sn → Bool, q = fun x => decide (be < x.id) := ⟨_, rfl⟩
  refine Ct.of _ Try.func6 Try.ntmps6 rfl rfl (fun X W => ?_)
  refine Jc.seq ?_
  refine Jc.region ?_
  refine Jl.box rfl (by rfl) ?_
  intro b3
  refine Jl.pv (PR.assign rfl) ?_
  refine Jl.nil ?_
  refine Jq.thenN ?_
  refine Jc.seq ?_
  refine Jc.seq ?_
  refine Jc.region ?_
  refine Jl.pv (PR.loadW rfl tsh24 (by repeat (first | exact Has.here | apply Has.there)) (by rfl)) ?_
  refine Jl.call (great_ct c x) en7 (by rfl) (by repeat (first | exact Take.nil | apply Take.cons (by repeat (first | exact Del.here | apply Del.there)))) (by repeat (first | exact trivial | refine And.intro (by repeat (first | exact Mem.here | apply Mem.there)) ?_)) ?_
  rintro ⟨⟩
  refine Jl.pv (PR.move rfl) ?_
  refine Jl.bsplit (fun g16 => ?_) (fun g16 => ?_)
  · try replace g16 := of_decide_eq_true g16
    refine Jl.offS rfl rfl rfl ?_
    refine Jl.offS rfl rfl rfl ?_
    refine Jl.offS rfl rfl rfl ?_
    refine Jl.pv (PR.pickT rfl rfl) ?_
    refine Jl.nil ?_
    refine Jq.thenN ?_
    refine Jc.condT rfl ?_
    refine Jc.seq ?_
    refine Jc.region ?_
    refine Jl.call pgwakes_ct en9 (by rfl) (by repeat (first | exact Take.nil | apply Take.cons (by repeat (first | exact Del.here | apply Del.there)))) (by repeat (first | exact trivial | refine And.intro (by repeat (first | exact Mem.here | apply Mem.there)) ?_)) ?_
    rintro ⟨⟩
    refine Jl.pv (PR.assign rfl) ?_
    refine Jl.nil ?_
    refine Jq.thenN ?_
    refine Jc.ret ?_
    refine Jq.thenR ?_
    exact Jq.fin () (.inl rfl) rfl (RetVs.tmp rfl RetVs.nil) rfl (by repeat (first | exact Take.nil | apply Take.cons (by repeat (first | exact Del.here | apply Del.there)))) (by repeat (first | exact trivial | refine And.intro (by repeat (first | exact Mem.here | apply Mem.there)) ?_))
  · try replace g16 := of_decide_eq_false g16
    refine Jl.on rfl rfl ?_
    refine Jl.pv (PR.loadW rfl tsh24 (by repeat (first | exact Has.here | apply Has.there)) (by rfl)) ?_
    refine Jl.on rfl rfl ?_
    refine Jl.call (rright'_ct c x) en8 (by rfl) (by repeat (first | exact Take.nil | apply Take.cons (by repeat (first | exact Del.here | apply Del.there)))) (by repeat (first | exact trivial | refine And.intro (by repeat (first | exact Mem.here | apply Mem.there)) ?_)) ?_
    rintro ⟨⟩
    refine Jl.on rfl rfl ?_
    refine Jl.pv (PR.not rfl) ?_
    refine Jl.pv (PR.pickF rfl rfl) ?_
    refine Jl.nil ?_
    refine Jq.thenN ?_
    refine Jc.cond rfl (fun h0 => ?_) (fun h0 => ?_)
    · try replace h0 := of_decide_eq_true h0
      refine Jc.seq ?_
      refine Jc.region ?_
      refine Jl.call pgwakes_ct en9 (by rfl) (by repeat (first | exact Take.nil | apply Take.cons (by repeat (first | exact Del.here | apply Del.there)))) (by repeat (first | exact trivial | refine And.intro (by repeat (first | exact Mem.here | apply Mem.there)) ?_)) ?_
      rintro ⟨⟩
      refine Jl.pv (PR.assign rfl) ?_
      refine Jl.nil ?_
      refine Jq.thenN ?_
      refine Jc.ret ?_
      refine Jq.thenR ?_
      exact Jq.fin () (.inl rfl) rfl (RetVs.tmp rfl RetVs.nil) rfl (by repeat (first | exact Take.nil | apply Take.cons (by repeat (first | exact Del.here | apply Del.there)))) (by repeat (first | exact trivial | refine And.intro (by repeat (first | exact Mem.here | apply Mem.there)) ?_))
    · try replace h0 := of_decide_eq_false h0
      have hok : c.Ok := Cl.ok_iff.1 (not_false h0)
      have hsr : s = rst qb al al.length := by rw [← hs, ← hal, shw_rest hok be, rst, List.take_length, hqb]
      have hsl := rst_le qb al al.length
      rw [← hsr] at hsl
      refine Jc.skip ?_
      refine Jq.thenN ?_
      refine Jc.seq ?_
      refine Jc.region ?_
      refine Jl.pv (PR.loadW rfl tsh24 (by repeat (first | exact Has.here | apply Has.there)) (by rfl)) ?_
      refine Jl.pv (PR.move rfl) ?_
      refine Jl.call (of_at (be := be) hw hs rfl rfl rfl) en10 (by rfl) (by repeat (first | exact Take.nil | apply Take.cons (by repeat (first | exact Del.here | apply Del.there)))) (by repeat (first | exact trivial | refine And.intro (by repeat (first | exact Mem.here | apply Mem.there)) ?_)) ?_
      rintro ⟨A25, c25⟩
      refine Jl.sealR (by repeat (first | exact Del.here | apply Del.there)) ?_
      refine Jl.pv (PR.move rfl) ?_
      refine Jl.pv (PR.extract rfl (by rfl)) ?_
      refine Jl.pv (PR.extract rfl (by rfl)) ?_
      refine Jl.pv (PR.assign rfl) ?_
      refine Jl.pv (PR.assign rfl) ?_
      refine Jl.nil ?_
      refine Jq.thenN ?_
      refine Jc.seq ?_
      refine Jc.region ?_
      refine Jl.pv (PR.loadW rfl tsh24 (by repeat (first | exact Has.here | apply Has.there)) (by rfl)) ?_
      refine Jl.call (all_at hw hal rfl) en14 (by rfl) (by repeat (first | exact Take.nil | apply Take.cons (by repeat (first | exact Del.here | apply Del.there)))) (by repeat (first | exact trivial | refine And.intro (by repeat (first | exact Mem.here | apply Mem.there)) ?_)) ?_
      rintro ⟨A29, c29⟩
      refine Jl.sealR (by repeat (first | exact Del.here | apply Del.there)) ?_
      refine Jl.pv (PR.assign rfl) ?_
      refine Jl.nil ?_
      refine Jq.thenN ?_
      refine Jc.seq ?_
      refine Jc.region ?_
      refine Jl.pv (PR.assign rfl) ?_
      refine Jl.nil ?_
      refine Jq.thenN ?_
      refine Jc.seq ?_
      refine Jc.seq ?_
      refine Jc.region ?_
      refine Jl.pv (PR.assign rfl) ?_
      refine Jl.nil ?_
      refine Jq.thenN ?_
      refine Jc.block ?_
      refine Jc.nilRow 35 7 ?_
      refine Jc.loop (σ := { k : Nat // k ≤ al.length } × AdC) (fun z => [(11, .int .i64 (z.1.1 : Int)), (10, .slice z.2.1 (rst qb al z.1.1).length z.2.2), (9, .slice A29 al.length c29), (8, .bool (decide (3 < s.length))), (7, .slice A25 (s.take 3).length c25), (3, .pointer (some ⟨b3, 0, none⟩)), (2, .int .i64 call), (1, .int .i64 be)]) (fun z => [.row 35 7 (.slice z.2.1 (rst qb al z.1.1).length z.2.2) (rst qb al z.1.1).length (snsV (rst qb al z.1.1)), .blk b3 24 (c.cs x)]) (fun _ => [.rd A29 (snsV al), .rd A25 (snsV (s.take 3)), .rd x.1 (bxsV c.bs)]) (fun z => al.length - z.1.1) ⟨⟨0, Nat.zero_le _⟩, none, 0⟩ (by repeat (first | exact trivial | refine And.intro rfl ?_)) rfl (by repeat (first | exact trivial | refine And.intro (by repeat (first | exact Mem.here | apply Mem.there)) ?_)) ?_
      rintro ⟨⟨k, hk⟩, A', c'⟩
      show Jc _ _ _ _ _ _ [(11, Value.int .i64 (k : Int)), (10, .slice A' (rst qb al k).length c'), (9, .slice A29 al.length c29), (8, .bool (decide (3 < s.length))), (7, .slice A25 (s.take 3).length c25), (3, .pointer (some ⟨b3, 0, none⟩)), (2, .int .i64 call), (1, .int .i64 be)] [.row 35 7 (.slice A' (rst qb al k).length c') (rst qb al k).length (snsV (rst qb al k)), .blk b3 24 (c.cs x)] [.rd A29 (snsV al), .rd A25 (snsV (s.take 3)), .rd x.1 (bxsV c.bs)]
      refine Jc.seq ?_
      refine Jc.seq ?_
      refine Jc.region ?_
      refine Jl.pv (PR.move rfl) ?_
      refine Jl.pv (PR.move rfl) ?_
      refine Jl.pv (PR.len rfl tsl28) ?_
      refine Jl.pv (PR.lss _ rfl rfl rfl) ?_
      refine Jl.nil ?_
      refine Jq.thenN ?_
      refine Jc.cond rfl (fun h1 => ?_) (fun h1 => ?_)
      · try replace h1 := of_decide_eq_true h1
        have hlt : k < al.length := by omega
        refine Jc.skip ?_
        refine Jq.thenN ?_
        refine Jc.seq ?_
        refine Jc.block ?_
        refine Jc.seq ?_
        refine Jc.region ?_
        refine Jl.pv (PR.move rfl) ?_
        refine Jl.pv (PR.move rfl) ?_
        refine Jl.pv (PR.idx k rfl rfl tsl28 (by repeat (first | exact Mem.here | apply Mem.there)) (snsV_len _) (by omega) rfl hlt) ?_
        refine Jl.pv (PR.fieldAddrR rfl tfl35_0 (by repeat (first | exact Mem.here | apply Mem.there)) (by rw [snsV_len]; omega)) ?_
        refine Jl.pv (PR.loadR rfl tsh3 (by repeat (first | exact Mem.here | apply Mem.there)) (sns_f hlt 0 rfl)) ?_
        refine Jl.pv (PR.move rfl) ?_
        refine Jl.pv (PR.gtr _ rfl rfl rfl) ?_
        refine Jl.nil ?_
        refine Jq.thenN ?_
        refine Jc.cond rfl (fun h2 => ?_) (fun h2 => ?_)
        · try replace h2 := of_decide_eq_true h2
          have hst : snsV (rst qb al (k + 1)) = snsV (rst qb al k) ++ al[k].cs := by rw [rst_yes hlt (by rw [hqb]; exact decide_eq_true h2), snsV_app]; simp [snsV]
          have hsn : (rst qb al (k + 1)).length = (rst qb al k).length + 1 := by rw [rst_yes hlt (by rw [hqb]; exact decide_eq_true h2)]; simp
          have hsk := rst_le qb al (k + 1)
          refine Jc.region ?_
          refine Jl.pv (PR.move rfl) ?_
          refine Jl.pv (PR.move rfl) ?_
          refine Jl.pv (PR.move rfl) ?_
          refine Jl.pv (PR.idx k rfl rfl tsl28 (by repeat (first | exact Mem.here | apply Mem.there)) (snsV_len _) (by omega) rfl hlt) ?_
          refine Jl.pv (PR.loadRA rfl tsh35 (by repeat (first | exact Mem.here | apply Mem.there)) (by decide) (sns_at hlt)) ?_
          refine Jl.buildSlice (by rfl) tsl28 tzr28_1 (by rfl) (by rfl) ?_
          intro b48
          refine Jl.seal (by repeat (first | exact Del.here | apply Del.there)) ?_
          refine Jl.append (rst qb al (k + 1)).length (snsV (rst qb al (k + 1))) rfl rfl rfl tsl28 tze35 (by rfl) (by decide) tby35 (fun _ _ => (by repeat (first | exact Swap.here | apply Swap.there))) (by repeat (first | exact Mem.here | apply Mem.there)) hsn.symm hst.symm rfl (by simp [Value.oneCell', Sn.cs]) (by omega) (by decide) ?_
          intro A49 c49
          refine Jl.pv (PR.assign rfl) ?_
          refine Jl.nil ?_
          refine Jq.blkN ?_
          refine Jq.thenN ?_
          refine Jc.region ?_
          refine Jl.pv (PR.move rfl) ?_
          refine Jl.pv (PR.add ((k + 1 : Nat) : Int) rfl rfl (by rw [w64 (by omega) (by omega)]; rfl)) ?_
          refine Jl.pv (PR.assign rfl) ?_
          refine Jl.nil ?_
          exact Jq.againT ⟨⟨k + 1, hlt⟩, A49, c49⟩ (by simp only; omega) (by repeat (first | exact trivial | refine And.intro rfl ?_)) (by repeat (first | exact Take.nil | apply Take.cons (by repeat (first | exact Del.here | apply Del.there)))) (by repeat (first | exact trivial | refine And.intro (by repeat (first | exact Mem.here | apply Mem.there)) ?_))
        · try replace h2 := of_decide_eq_false h2
          refine Jc.skip ?_
          refine Jq.blkN ?_
          refine Jq.thenN ?_
          refine Jc.region ?_
          refine Jl.pv (PR.move rfl) ?_
          refine Jl.pv (PR.add ((k + 1 : Nat) : Int) rfl rfl (by rw [w64 (by omega) (by omega)]; rfl)) ?_
          refine Jl.pv (PR.assign rfl) ?_
          refine Jl.nil ?_
          have hsn := rst_no (q := qb) hlt (by rw [hqb]; exact decide_eq_false h2)
          rw [← hsn]
          exact Jq.againT ⟨⟨k + 1, hlt⟩, A', c'⟩ (by simp only; omega) (by repeat (first | exact trivial | refine And.intro rfl ?_)) (by repeat (first | exact Take.nil | apply Take.cons (by repeat (first | exact Del.here | apply Del.there)))) (by repeat (first | exact trivial | refine And.intro (by repeat (first | exact Mem.here | apply Mem.there)) ?_))
      · try replace h1 := of_decide_eq_false h1
        obtain rfl : k = al.length := by omega
        rw [← hsr]
        refine Jc.exit ?_
        refine Jq.thenX ?_
        refine Jq.thenX ?_
        refine Jq.blkX ?_
        refine Jq.thenN ?_
        refine Jc.seq ?_
        refine Jc.region ?_
        refine Jl.pv (PR.move rfl) ?_
        refine Jl.sealC (by repeat (first | exact Del.here | apply Del.there)) (fun hc => ?_)
        refine Jl.pv (PR.len rfl tsl28) ?_
        refine Jl.pv (PR.min2 (((s.take 3).length : Nat) : Int) rfl rfl (by rw [List.length_take]; omega)) ?_
        refine Jl.pv (PR.assign rfl) ?_
        refine Jl.nil ?_
        refine Jq.thenN ?_
        refine Jc.seq ?_
        refine Jc.region ?_
        refine Jl.pv (PR.loadW rfl tsh24 (by repeat (first | exact Has.here | apply Has.there)) (by rfl)) ?_
        refine Jl.pv (PR.move rfl) ?_
        refine Jl.pv (PR.move rfl) ?_
        refine Jl.pv (PR.build (by rfl) tze46 tpl46_0_1_2 (by rfl)) ?_
        refine Jl.call (answer_at (call := call) hw hs rfl rfl rfl) en16 (by rfl) (by repeat (first | exact Take.nil | apply Take.cons (by repeat (first | exact Del.here | apply Del.there)))) (by repeat (first | exact trivial | refine And.intro (by repeat (first | exact Mem.here | apply Mem.there)) ?_)) ?_
        rintro ⟨A57, c57⟩
        refine Jl.sealR (by repeat (first | exact Del.here | apply Del.there)) ?_
        refine Jl.alloc tze43 ?_
        intro b13
        refine Jl.storeW rfl tsh43 rfl (by rfl) (by first | exact Cl.cs_one _ _ | simp [Value.oneCell', Sn.cs]) (by repeat (first | exact Swap.here | apply Swap.there)) (by rfl) ?_
        refine Jl.nil ?_
        refine Jq.thenN ?_
        refine Jc.seq ?_
        refine Jc.region ?_
        refine Jl.pv (PR.move rfl) ?_
        refine Jl.pv (PR.move rfl) ?_
        refine Jl.pv (PR.move rfl) ?_
        refine Jl.slice 0 (s.take 3).length (s.take 3).length (snsV (s.take 3)) rfl tsl28 rfl rfl (by repeat (first | exact Mem.here | apply Mem.there)) (by omega) (by rw [List.length_take]; omega) hc rfl (by rw [Nat.zero_mul, List.drop_zero, snsV_take, take_len3]) ?_
        intro A61 c61 hc61
        clear hc61
        refine Jl.call (psame_eq (a := s.take 3) (b := s.take 3) (x := (A25, c25)) (y := (A61, c61)) rfl rfl rfl (by rw [List.length_take]; omega)) en13 (by rfl) (by repeat (first | exact Take.nil | apply Take.cons (by repeat (first | exact Del.here | apply Del.there)))) (by repeat (first | exact trivial | refine And.intro (by repeat (first | exact Mem.here | apply Mem.there)) ?_)) ?_
        rintro ⟨⟩
        refine Jl.as (.bool true) (congrArg Value.bool rfl) ?_
        refine Jl.pv (PR.move rfl) ?_
        refine Jl.on rfl rfl ?_
        refine Jl.pv (PR.move rfl) ?_
        refine Jl.on rfl rfl ?_
        refine Jl.pv (PR.move rfl) ?_
        refine Jl.on rfl rfl ?_
        refine Jl.pv (PR.len rfl tsl28) ?_
        refine Jl.on rfl rfl ?_
        refine Jl.pv (PR.move rfl) ?_
        refine Jl.on rfl rfl ?_
        refine Jl.pv (PR.gtr _ rfl rfl rfl) ?_
        refine Jl.on rfl rfl ?_
        refine Jl.pv (PR.beql true Try.underlying4 rfl rfl (by simp [List.length_take]; omega)) ?_
        refine Jl.pv (PR.pickT rfl rfl) ?_
        refine Jl.pv (PR.move rfl) ?_
        refine Jl.on rfl rfl ?_
        refine Jl.pv (PR.fieldAddr rfl tfl43_4) ?_
        refine Jl.on rfl rfl ?_
        refine Jl.pv (PR.load1 rfl tsh28 (by repeat (first | exact Has.here | apply Has.there)) (by rfl)) ?_
        refine Jl.on rfl rfl ?_
        refine Jl.pv (PR.move rfl) ?_
        refine Jl.on rfl rfl ?_
        refine Jl.call (psame_eq (a := s.take 3) (b := s.take 3) (x := (A57, c57)) (y := (A25, c25)) rfl rfl rfl (by rw [List.length_take]; omega)) en13 (by rfl) (by repeat (first | exact Take.nil | apply Take.cons (by repeat (first | exact Del.here | apply Del.there)))) (by repeat (first | exact trivial | refine And.intro (by repeat (first | exact Mem.here | apply Mem.there)) ?_)) ?_
        rintro ⟨⟩
        refine Jl.as (.bool true) (congrArg Value.bool rfl) ?_
        refine Jl.pv (PR.pickT rfl rfl) ?_
        refine Jl.pv (PR.move rfl) ?_
        refine Jl.on rfl rfl ?_
        refine Jl.pv (PR.fieldAddr rfl tfl43_5) ?_
        refine Jl.on rfl rfl ?_
        refine Jl.pv (PR.load1 rfl tsh4 (by repeat (first | exact Has.here | apply Has.there)) (by rfl)) ?_
        refine Jl.on rfl rfl ?_
        refine Jl.pv (PR.move rfl) ?_
        refine Jl.on rfl rfl ?_
        refine Jl.pv (PR.beql true Try.underlying4 rfl rfl (by simp)) ?_
        refine Jl.pv (PR.pickT rfl rfl) ?_
        refine Jl.pv (PR.move rfl) ?_
        refine Jl.on rfl rfl ?_
        refine Jl.pv (PR.fieldAddr rfl tfl43_0) ?_
        refine Jl.on rfl rfl ?_
        refine Jl.pv (PR.load1 rfl tsh3 (by repeat (first | exact Has.here | apply Has.there)) (by rfl)) ?_
        refine Jl.on rfl rfl ?_
        refine Jl.pv (PR.move rfl) ?_
        refine Jl.on rfl rfl ?_
        refine Jl.pv (PR.eql true rfl rfl (by simp)) ?_
        refine Jl.pv (PR.pickT rfl rfl) ?_
        refine Jl.pv (PR.move rfl) ?_
        refine Jl.on rfl rfl ?_
        refine Jl.pv (PR.fieldAddr rfl tfl43_3) ?_
        refine Jl.on rfl rfl ?_
        refine Jl.pv (PR.load1 rfl tsh3 (by repeat (first | exact Has.here | apply Has.there)) (by rfl)) ?_
        refine Jl.on rfl rfl ?_
        refine Jl.pv (PR.move rfl) ?_
        refine Jl.on rfl rfl ?_
        refine Jl.pv (PR.eql true rfl rfl (by simp)) ?_
        refine Jl.pv (PR.pickT rfl rfl) ?_
        refine Jl.pv (PR.move rfl) ?_
        refine Jl.on rfl rfl ?_
        refine Jl.pv (PR.fieldAddr rfl tfl43_2) ?_
        refine Jl.on rfl rfl ?_
        refine Jl.pv (PR.load1 rfl tsh5 (by repeat (first | exact Has.here | apply Has.there)) (by rfl)) ?_
        refine Jl.on rfl rfl ?_
        refine Jl.pv (PR.eql true rfl rfl (by decide)) ?_
        refine Jl.pv (PR.pickT rfl rfl) ?_
        refine Jl.pv (PR.move rfl) ?_
        refine Jl.on rfl rfl ?_
        refine Jl.call pgwakes_ct en9 (by rfl) (by repeat (first | exact Take.nil | apply Take.cons (by repeat (first | exact Del.here | apply Del.there)))) (by repeat (first | exact trivial | refine And.intro (by repeat (first | exact Mem.here | apply Mem.there)) ?_)) ?_
        rintro ⟨⟩
        refine Jl.pv (PR.pickT rfl rfl) ?_
        refine Jl.pv (PR.assign rfl) ?_
        refine Jl.nil ?_
        refine Jq.thenN ?_
        refine Jc.ret ?_
        exact Jq.fin () (.inl rfl) rfl (RetVs.tmp rfl RetVs.nil) rfl (by repeat (first | exact Take.nil | apply Take.cons (by repeat (first | exact Del.here | apply Del.there)))) (by repeat (first | exact trivial | refine And.intro (by repeat (first | exact Mem.here | apply Mem.there)) ?_))
end Go.Proofs.Ytoackajhekdckaa
