/-
The law LogParts.
-/
import Derived.Test.YtcohgnagffibcaaDoorLgD
namespace Go.Proofs.YtcohgnagffibcaaDoor
set_option linter.unusedVariables false
open Go.RowKit
attribute [local irreducible] Res.blk Res.row Fact.rd
theorem okAll_app (l m : Rcs) : okAll (l ++ m) = (okAll l && okAll m) := by simp [okAll, List.all_append]
theorem rcsN_app (l m : Rcs) : rcsN (l ++ m) = rcsN l ++ rcsN m := by simp [rcsN]
theorem rcsV_app (l m : Rcs) : rcsV (l ++ m) = rcsV l ++ rcsV m := by simp [rcsV]
theorem rcsV_one (l : Rcs) : ∀ u ∈ rcsV l, u.oneCell' = true := by
  intro u hu
  obtain ⟨z, _, hz⟩ := List.mem_flatMap.1 hu
  simp only [Rc.cs, List.mem_cons, List.not_mem_nil, or_false] at hz
  rcases hz with rfl | rfl <;> rfl
theorem rcs_app {l m : Rcs} {X : Nat → Prop} {W : World} (h : (Fact.rcs l).p X W) (k : (Fact.rcs m).p X W) : (Fact.rcs (l ++ m)).p X W := fun z hz => (List.mem_append.1 hz).elim (h z) (k z)
theorem addE_cases (d : Dk) (zs : Rcs) : (okAll zs = false ∧ addE d zs = 2 ∧ addD d zs = d.own) ∨ (okAll zs = true ∧ ¬ d.fits (recsB (rcsN zs)) ∧ addE d zs = 30 ∧ addD d zs = d.own) ∨ (okAll zs = true ∧ d.fits (recsB (rcsN zs)) ∧ addE d zs = 0 ∧ addD d zs = ⟨d.own.b ++ recsB (rcsN zs), d.own.s, d.own.r⟩) := by
  unfold addE addD
  cases h : okAll zs with
  | false => left; simp
  | true =>
    right
    by_cases hf : d.fits (recsB (rcsN zs))
    · right; simp [hf, Dk.appE, Dk.app]
    · left; simp [hf, Dk.appE, Dk.app]
theorem add_own {d : Dk} {zs : Rcs} (h : addE d zs ≠ 0) : addD d zs = d.own := by
  rcases addE_cases d zs with h1 | h1 | h1
  · exact h1.2.2
  · exact h1.2.2.2
  · exact absurd h1.2.2.1 h
theorem add_two {d : Dk} {zs : Rcs} (h : addE d zs ≠ 0) : (decide (addE d zs = 2) == !okAll zs) = true := by
  rcases addE_cases d zs with h1 | h1 | h1
  · rw [h1.1, h1.2.1]; rfl
  · rw [h1.1, h1.2.2.1]; rfl
  · exact absurd h1.2.2.1 h
theorem add_parts {d : Dk} {l m : Rcs} (h : addE d (l ++ m) = 0) : addE d l = 0 ∧ addE (addD d l) m = 0 ∧ addD (addD d l) m = addD d (l ++ m) ∧ okAll l = true ∧ okAll m = true ∧ okAll (l ++ m) = true ∧ addD d (l ++ m) = ⟨d.own.b ++ recsB (rcsN (l ++ m)), d.own.s, d.own.r⟩ ∧ addD d l = ⟨d.own.b ++ recsB (rcsN l), d.own.s, d.own.r⟩ := by
  rcases addE_cases d (l ++ m) with h1 | h1 | h1
  · rw [h1.2.1] at h; cases h
  · rw [h1.2.2.1] at h; cases h
  · obtain ⟨g1, g2, _, g4⟩ := h1
    have g1' := g1
    rw [okAll_app, Bool.and_eq_true] at g1'
    have hr : recsB (rcsN (l ++ m)) = recsB (rcsN l) ++ recsB (rcsN m) := by rw [rcsN_app, recsB_app]
    have f1 : d.fits (recsB (rcsN l)) := by
      unfold Dk.fits at g2 ⊢
      rw [hr] at g2
      simp only [List.length_append] at g2 ⊢
      omega
    have hof := d.own_fit
    have e1 : addD d l = ⟨d.own.b ++ recsB (rcsN l), d.own.s, d.own.r⟩ := by rw [addD, if_pos g1'.1, Dk.app, if_pos f1]
    have ok1 : (addD d l).ok := by
      rw [addD, if_pos g1'.1]; exact Dk.app_ok d _
    have o1 : (addD d l).own = addD d l := Dk.ok_own ok1
    have f2 : (addD d l).fits (recsB (rcsN m)) := by
      unfold Dk.fits at g2 ⊢
      rw [o1, e1]
      rw [hr] at g2
      simp only [List.length_append] at g2 ⊢
      omega
    refine ⟨by rw [addE, if_pos g1'.1, Dk.appE, if_pos f1], by rw [addE, if_pos g1'.2, Dk.appE, if_pos f2], ?_, g1'.1, g1'.2, g1, g4, e1⟩
    rw [g4, hr, addD, if_pos g1'.2, Dk.app, if_pos f2, o1, e1, List.append_assoc]
theorem addD_len (d : Dk) (zs : Rcs) (h : zs.length ≤ 90) : (addD d zs).b.length ≤ d.b.length + 91260 := by
  have h0 := d.own_len
  have h1 := recsB_len (rcsN zs)
  have h2 : (rcsN zs).length = zs.length := by simp [rcsN]
  rcases addE_cases d zs with h3 | h3 | h3
  · rw [h3.2.2]; omega
  · rw [h3.2.2.2]; omega
  · rw [h3.2.2.2]; simp only [List.length_append]; omega
theorem recsN_len (zs : Rcs) (h : zs.length ≤ 90) : (recsB (rcsN zs)).length ≤ 91260 := by
  have h1 := recsB_len (rcsN zs)
  have h2 : (rcsN zs).length = zs.length := by simp [rcsN]
  omega
theorem wadd {a b : Nat} (h1 : a ≤ 1000000) (h2 : b ≤ 1000000) : IntKind.i64.wrap ((a : Int) + (b : Int)) = ((a + b : Nat) : Int) := by
  rw [w64 (by omega) (by omega)]; rfl
theorem logParts_ct (d : Dk) (x : AdC) (l m : Rcs) (y z : AdC) (mm : Nat → AdC) (hc : d.b.length ≤ x.2) : Ct Tryd.prog 6 [d.v x, .slice y.1 l.length y.2, .slice z.1 m.length z.2] [] [.rd x.1 (u8s d.b), .rd y.1 (rcsV l), .rcs l, .rd z.1 (rcsV m), .rcs m, .many mm] (fun _ : Unit => .bool true) (fun _ => []) (fun _ => []) := by
  obtain ⟨A, c⟩ := x
  obtain ⟨L, cL⟩ := y
  obtain ⟨M, cM⟩ := z
  have hc' : d.b.length ≤ c := hc
  refine Ct.of _ Tryd.func6 Tryd.ntmps6 rfl rfl (fun X W => ?_)
  refine Jc.seq ?_
  refine Jc.region ?_
  refine Jl.box rfl (by rfl) ?_
  intro b3
  refine Jl.pv (PR.assign rfl) ?_
  refine Jl.nil ?_
  refine Jq.thenN ?_
  refine Jc.seq ?_
  refine Jc.seq ?_
  refine Jc.region ?_
  refine Jl.pv (PR.loadW rfl tsh24 (by repeat (first | exact Has.here | apply Has.there)) (by rfl)) ?_
  refine Jl.pv (PR.move rfl) ?_
  refine Jl.call (lgreat_ct d (A, c) L cL l) en8 (by rfl) (by repeat (first | exact Take.nil | apply Take.cons (by repeat (first | exact Del.here | apply Del.there)))) (by repeat (first | exact trivial | refine And.intro (by repeat (first | exact Mem.here | apply Mem.there)) ?_)) ?_
  rintro ⟨⟩
  refine Jl.pv (PR.move rfl) ?_
  refine Jl.bsplit (fun g16 => ?_) (fun g16 => ?_)
  · try replace g16 := of_decide_eq_true g16
    refine Jl.offS rfl rfl rfl ?_
    refine Jl.offS rfl rfl rfl ?_
    refine Jl.offS rfl rfl rfl ?_
    refine Jl.pv (PR.pickT rfl rfl) ?_
    refine Jl.pv (PR.move rfl) ?_
    refine Jl.offS rfl rfl rfl ?_
    refine Jl.offS rfl rfl rfl ?_
    refine Jl.offS rfl rfl rfl ?_
    refine Jl.offS rfl rfl rfl ?_
    refine Jl.offS rfl rfl rfl ?_
    refine Jl.offS rfl rfl rfl ?_
    refine Jl.pv (PR.pickT rfl rfl) ?_
    refine Jl.nil ?_
    refine Jq.thenN ?_
    refine Jc.condT rfl ?_
    refine Jc.seq ?_
    refine Jc.region ?_
    refine Jl.call (lgwakes_ct mm) en9 (by rfl) (by repeat (first | exact Take.nil | apply Take.cons (by repeat (first | exact Del.here | apply Del.there)))) (by repeat (first | exact trivial | refine And.intro (by repeat (first | exact Mem.here | apply Mem.there)) ?_)) ?_
    rintro ⟨⟩
    refine Jl.pv (PR.assign rfl) ?_
    refine Jl.nil ?_
    refine Jq.thenN ?_
    refine Jc.ret ?_
    refine Jq.thenR ?_
    exact Jq.fin () (.inl rfl) rfl (RetVs.tmp rfl RetVs.nil) rfl (by repeat (first | exact Take.nil | apply Take.cons (by repeat (first | exact Del.here | apply Del.there)))) (by repeat (first | exact trivial | refine And.intro (by repeat (first | exact Mem.here | apply Mem.there)) ?_))
  · try replace g16 := of_decide_eq_false g16
    refine Jl.on rfl rfl ?_
    refine Jl.pv (PR.loadW rfl tsh24 (by repeat (first | exact Has.here | apply Has.there)) (by rfl)) ?_
    refine Jl.on rfl rfl ?_
    refine Jl.pv (PR.move rfl) ?_
    refine Jl.on rfl rfl ?_
    refine Jl.call (lgreat_ct d (A, c) M cM m) en8 (by rfl) (by repeat (first | exact Take.nil | apply Take.cons (by repeat (first | exact Del.here | apply Del.there)))) (by repeat (first | exact trivial | refine And.intro (by repeat (first | exact Mem.here | apply Mem.there)) ?_)) ?_
    rintro ⟨⟩
    refine Jl.pv (PR.pickF rfl rfl) ?_
    refine Jl.pv (PR.move rfl) ?_
    refine Jl.bsplit (fun g21 => ?_) (fun g21 => ?_)
    · try replace g21 := of_decide_eq_true g21
      refine Jl.offS rfl rfl rfl ?_
      refine Jl.offS rfl rfl rfl ?_
      refine Jl.offS rfl rfl rfl ?_
      refine Jl.offS rfl rfl rfl ?_
      refine Jl.offS rfl rfl rfl ?_
      refine Jl.offS rfl rfl rfl ?_
      refine Jl.pv (PR.pickT rfl rfl) ?_
      refine Jl.nil ?_
      refine Jq.thenN ?_
      refine Jc.condT rfl ?_
      refine Jc.seq ?_
      refine Jc.region ?_
      refine Jl.call (lgwakes_ct mm) en9 (by rfl) (by repeat (first | exact Take.nil | apply Take.cons (by repeat (first | exact Del.here | apply Del.there)))) (by repeat (first | exact trivial | refine And.intro (by repeat (first | exact Mem.here | apply Mem.there)) ?_)) ?_
      rintro ⟨⟩
      refine Jl.pv (PR.assign rfl) ?_
      refine Jl.nil ?_
      refine Jq.thenN ?_
      refine Jc.ret ?_
      refine Jq.thenR ?_
      exact Jq.fin () (.inl rfl) rfl (RetVs.tmp rfl RetVs.nil) rfl (by repeat (first | exact Take.nil | apply Take.cons (by repeat (first | exact Del.here | apply Del.there)))) (by repeat (first | exact trivial | refine And.intro (by repeat (first | exact Mem.here | apply Mem.there)) ?_))
    · try replace g21 := of_decide_eq_false g21
      refine Jl.on rfl rfl ?_
      refine Jl.pv (PR.move rfl) ?_
      refine Jl.on rfl rfl ?_
      refine Jl.pv (PR.len rfl tsl25) ?_
      refine Jl.on rfl rfl ?_
      refine Jl.pv (PR.move rfl) ?_
      refine Jl.on rfl rfl ?_
      refine Jl.pv (PR.len rfl tsl25) ?_
      refine Jl.on rfl rfl ?_
      refine Jl.pv (PR.add ((l.length + m.length : Nat) : Int) rfl rfl (by have h1 := lgGreat_no g16; have h2 := lgGreat_no g21; rw [w64 (by omega) (by omega)]; rfl)) ?_
      refine Jl.on rfl rfl ?_
      refine Jl.pv (PR.gtr _ rfl rfl rfl) ?_
      refine Jl.pv (PR.pickF rfl rfl) ?_
      refine Jl.nil ?_
      refine Jq.thenN ?_
      refine Jc.cond rfl (fun h0 => ?_) (fun h0 => ?_)
      · try replace h0 := of_decide_eq_true h0
        refine Jc.seq ?_
        refine Jc.region ?_
        refine Jl.call (lgwakes_ct mm) en9 (by rfl) (by repeat (first | exact Take.nil | apply Take.cons (by repeat (first | exact Del.here | apply Del.there)))) (by repeat (first | exact trivial | refine And.intro (by repeat (first | exact Mem.here | apply Mem.there)) ?_)) ?_
        rintro ⟨⟩
        refine Jl.pv (PR.assign rfl) ?_
        refine Jl.nil ?_
        refine Jq.thenN ?_
        refine Jc.ret ?_
        refine Jq.thenR ?_
        exact Jq.fin () (.inl rfl) rfl (RetVs.tmp rfl RetVs.nil) rfl (by repeat (first | exact Take.nil | apply Take.cons (by repeat (first | exact Del.here | apply Del.there)))) (by repeat (first | exact trivial | refine And.intro (by repeat (first | exact Mem.here | apply Mem.there)) ?_))
      · try replace h0 := of_decide_eq_false h0
        obtain ⟨hd, hn, hl⟩ := lgGreat_no g16
        obtain ⟨_, hn2, hl2⟩ := lgGreat_no g21
        have hn3 : (l ++ m).length = l.length + m.length := List.length_append
        have hll : ∀ z ∈ l, z.2.l.length ≤ 1000000 := fun z hz => by have := hl z hz; omega
        have hlm : ∀ z ∈ m, z.2.l.length ≤ 1000000 := fun z hz => by have := hl2 z hz; omega
        have hla : ∀ z ∈ l ++ m, z.2.l.length ≤ 1000000 := fun z hz => (List.mem_append.1 hz).elim (hll z) (hlm z)
        have hv1 := rcsV_len l
        have hv2 := rcsV_len m
        have hb1 := addD_len d l (by omega)
        have hb2 := addD_len d (l ++ m) (by omega)
        have hb3 := addD_len (addD d l) m (by omega)
        refine Jc.skip ?_
        refine Jq.thenN ?_
        refine Jc.seq ?_
        refine Jc.region ?_
        refine Jl.buildSlice (by rfl) tsl25 tzr25_0 (by rfl) (by rfl) ?_
        intro b30
        refine Jl.pv (PR.move rfl) ?_
        refine Jl.toRow 2 0 (by repeat (first | exact Swap.here | apply Swap.there)) (by rfl) (by rfl) ?_
        refine Jl.append l.length (rcsV l) rfl rfl rfl tsl25 tze43 (by rfl) (by decide) tby43 (fun _ _ => (by repeat (first | exact Swap.here | apply Swap.there))) (by repeat (first | exact Mem.here | apply Mem.there)) (by omega) rfl (by omega) (rcsV_one _) (by omega) (by decide) ?_
        intro A32 c32
        refine Jl.pv (PR.move rfl) ?_
        refine Jl.append (l ++ m).length (rcsV (l ++ m)) rfl rfl rfl tsl25 tze43 (by rfl) (by decide) tby43 (fun _ _ => (by repeat (first | exact Swap.here | apply Swap.there))) (by repeat (first | exact Mem.here | apply Mem.there)) hn3.symm (by rw [rcsV_app]) (by omega) (rcsV_one _) (by omega) (by decide) ?_
        intro A34 c34
        refine Jl.sealR (by repeat (first | exact Del.here | apply Del.there)) ?_
        refine Jl.fact2' (.rcs (l ++ m)) (φ := .rcs l) (ψ := .rcs m) (by repeat (first | exact Mem.here | apply Mem.there)) (by repeat (first | exact Mem.here | apply Mem.there)) (fun X W h1 h2 => rcs_app h1 h2) ?_
        refine Jl.pv (PR.assign rfl) ?_
        refine Jl.nil ?_
        refine Jq.thenN ?_
        refine Jc.seq ?_
        refine Jc.region ?_
        refine Jl.pv (PR.loadW rfl tsh24 (by repeat (first | exact Has.here | apply Has.there)) (by rfl)) ?_
        refine Jl.pv (PR.move rfl) ?_
        refine Jl.call (add_ct d (A, c) A34 c34 (l ++ m) mm (by omega) hc (by omega) hla) en12 (by rfl) (by repeat (first | exact Take.nil | apply Take.cons (by repeat (first | exact Del.here | apply Del.there)))) (by repeat (first | exact trivial | refine And.intro (by repeat (first | exact Mem.here | apply Mem.there)) ?_)) ?_
        rintro ⟨A38, c38⟩
        refine Jl.sealC (by repeat (first | exact Del.here | apply Del.there)) (fun hc38 => ?_)
        refine Jl.pv (PR.move rfl) ?_
        refine Jl.pv (PR.extract rfl (by rfl)) ?_
        refine Jl.pv (PR.extract rfl (by rfl)) ?_
        refine Jl.alloc tze24 ?_
        intro b8
        refine Jl.storeW rfl tsh24 rfl (by rfl) (by simp [Value.oneCell', Dk.cs, Rc.cs]) (by repeat (first | exact Swap.here | apply Swap.there)) (by rfl) ?_
        refine Jl.pv (PR.assign rfl) ?_
        refine Jl.nil ?_
        refine Jq.thenN ?_
        refine Jc.seq ?_
        refine Jc.region ?_
        refine Jl.pv (PR.loadW rfl tsh24 (by repeat (first | exact Has.here | apply Has.there)) (by rfl)) ?_
        refine Jl.pv (PR.move rfl) ?_
        refine Jl.call (add_ct d (A, c) L cL l mm (by omega) hc (by omega) hll) en12 (by rfl) (by repeat (first | exact Take.nil | apply Take.cons (by repeat (first | exact Del.here | apply Del.there)))) (by repeat (first | exact trivial | refine And.intro (by repeat (first | exact Mem.here | apply Mem.there)) ?_)) ?_
        rintro ⟨A44, c44⟩
        refine Jl.sealC (by repeat (first | exact Del.here | apply Del.there)) (fun hc44 => ?_)
        refine Jl.pv (PR.move rfl) ?_
        refine Jl.pv (PR.extract rfl (by rfl)) ?_
        refine Jl.pv (PR.extract rfl (by rfl)) ?_
        refine Jl.alloc tze24 ?_
        intro b10
        refine Jl.storeW rfl tsh24 rfl (by rfl) (by simp [Value.oneCell', Dk.cs, Rc.cs]) (by repeat (first | exact Swap.here | apply Swap.there)) (by rfl) ?_
        refine Jl.pv (PR.assign rfl) ?_
        refine Jl.nil ?_
        refine Jq.thenN ?_
        refine Jc.seq ?_
        refine Jc.region ?_
        refine Jl.pv (PR.loadW rfl tsh24 (by repeat (first | exact Has.here | apply Has.there)) (by rfl)) ?_
        refine Jl.pv (PR.move rfl) ?_
        refine Jl.call (add_ct (addD d l) (A44, c44) M cM m mm (by omega) hc44 (by omega) hlm) en12 (by rfl) (by repeat (first | exact Take.nil | apply Take.cons (by repeat (first | exact Del.here | apply Del.there)))) (by repeat (first | exact trivial | refine And.intro (by repeat (first | exact Mem.here | apply Mem.there)) ?_)) ?_
        rintro ⟨A50, c50⟩
        refine Jl.sealC (by repeat (first | exact Del.here | apply Del.there)) (fun hc50 => ?_)
        refine Jl.pv (PR.move rfl) ?_
        refine Jl.pv (PR.extract rfl (by rfl)) ?_
        refine Jl.pv (PR.extract rfl (by rfl)) ?_
        refine Jl.storeW rfl tsh24 rfl (by rfl) (by simp [Value.oneCell', Dk.cs, Rc.cs]) (by repeat (first | exact Swap.here | apply Swap.there)) (by rfl) ?_
        refine Jl.pv (PR.assign rfl) ?_
        refine Jl.nil ?_
        refine Jq.thenN ?_
        refine Jc.seq ?_
        refine Jc.seq ?_
        refine Jc.region ?_
        refine Jl.pv (PR.move rfl) ?_
        refine Jl.pv (PR.neq _ rfl rfl rfl) ?_
        refine Jl.nil ?_
        refine Jq.thenN ?_
        refine Jc.cond rfl (fun h1 => ?_) (fun h1 => ?_)
        · try replace h1 := of_decide_eq_true h1
          refine Jc.seq ?_
          refine Jc.region ?_
          refine Jl.pv (PR.loadW rfl tsh24 (by repeat (first | exact Has.here | apply Has.there)) (by rfl)) ?_
          refine Jl.pv (PR.loadW rfl tsh24 (by repeat (first | exact Has.here | apply Has.there)) (by rfl)) ?_
          refine Jl.call (rsame_ct A38 A c38 c (addD d (l ++ m)) d (by omega) (by omega) hc38 hc) en17 (by rfl) (by repeat (first | exact Take.nil | apply Take.cons (by repeat (first | exact Del.here | apply Del.there)))) (by repeat (first | exact trivial | refine And.intro (by repeat (first | exact Mem.here | apply Mem.there)) ?_)) ?_
          rintro ⟨⟩
          refine Jl.as (.bool true) (congrArg Value.bool (by rw [add_own h1, d.own_own]; simp)) ?_
          refine Jl.pv (PR.move rfl) ?_
          refine Jl.on rfl rfl ?_
          refine Jl.pv (PR.move rfl) ?_
          refine Jl.on rfl rfl ?_
          refine Jl.pv (PR.eql (decide (addE d (l ++ m) = 2)) rfl rfl rfl) ?_
          refine Jl.on rfl rfl ?_
          refine Jl.pv (PR.move rfl) ?_
          refine Jl.on rfl rfl ?_
          refine Jl.call (rallR_ct A34 c34 (l ++ m) (by omega) hla) en27 (by rfl) (by repeat (first | exact Take.nil | apply Take.cons (by repeat (first | exact Del.here | apply Del.there)))) (by repeat (first | exact trivial | refine And.intro (by repeat (first | exact Mem.here | apply Mem.there)) ?_)) ?_
          rintro ⟨⟩
          refine Jl.on rfl rfl ?_
          refine Jl.pv (PR.not rfl) ?_
          refine Jl.on rfl rfl ?_
          refine Jl.pv (PR.beql true Tryd.underlying4 rfl rfl (add_two h1)) ?_
          refine Jl.pv (PR.pickT rfl rfl) ?_
          refine Jl.pv (PR.move rfl) ?_
          refine Jl.on rfl rfl ?_
          refine Jl.call (lgwakes_ct mm) en9 (by rfl) (by repeat (first | exact Take.nil | apply Take.cons (by repeat (first | exact Del.here | apply Del.there)))) (by repeat (first | exact trivial | refine And.intro (by repeat (first | exact Mem.here | apply Mem.there)) ?_)) ?_
          rintro ⟨⟩
          refine Jl.as (.bool true) (congrArg Value.bool rfl) ?_
          refine Jl.pv (PR.pickT rfl rfl) ?_
          refine Jl.pv (PR.assign rfl) ?_
          refine Jl.nil ?_
          refine Jq.thenN ?_
          refine Jc.ret ?_
          refine Jq.thenR ?_
          exact Jq.fin () (.inl rfl) rfl (RetVs.tmp rfl RetVs.nil) rfl (by repeat (first | exact Take.nil | apply Take.cons (by repeat (first | exact Del.here | apply Del.there)))) (by repeat (first | exact trivial | refine And.intro (by repeat (first | exact Mem.here | apply Mem.there)) ?_))
        · try replace h1 := of_decide_eq_false h1
          obtain ⟨p1, p2, p3, p4, p5, p6, p7, p8⟩ := add_parts (d := d) (l := l) (m := m) (by simpa using h1)
          refine Jc.skip ?_
          refine Jq.thenN ?_
          refine Jc.seq ?_
          refine Jc.drawn [0, 1, 3, 7, 15, 31, 63, 127, 127, 511, 1023, 2047, 4095, 8191, 4095, 32767, 4095, 131071, 262143, 524287, 1048575, 2097151, 4194303, 8388607, 16777215, 4194303, 37748735, 104857599, 239075327, 4194303, 641728511, 2118123519, 4294967295, 8589934591, 17179869183, 34359738367, 68719476735, 137438953471] ([(36, false), (37, false)], []) [⟨[(0, false), (1, false), (2, false), (3, false), (4, false), (5, false), (6, false), (7, false), (8, false)], [], 9⟩, ⟨[(10, false), (11, false), (12, false), (14, false), (16, false)], [], 13⟩, ⟨[], [], 15⟩, ⟨[], [], 17⟩, ⟨[(18, false), (19, false), (20, false), (21, false), (22, false), (23, false), (24, false), (25, false), (29, false)], [], 26⟩, ⟨[(27, false), (28, false)], [], 30⟩, ⟨[(31, false), (32, false), (33, false), (34, false)], [], 35⟩] tmx (by kernel_rfl) ?_
          refine Dh.JH.cons ?_
          refine Dh.JB.pv rfl trivial (fun _ => PR.move rfl) ?_
          refine Dh.JB.pv rfl trivial (fun _ => PR.eql true rfl rfl (decide_eq_true p1)) ?_
          refine Dh.JB.pv rfl trivial (fun _ => PR.move rfl) ?_
          refine Dh.JB.pv rfl ⟨_, rfl, rfl⟩ (fun _ => PR.move rfl) ?_
          refine Dh.JB.pv rfl ⟨_, rfl, rfl⟩ (fun _ => PR.eql true rfl rfl (decide_eq_true p2)) ?_
          refine Dh.JB.pv rfl trivial (fun _ => PR.pickT rfl rfl) ?_
          refine Dh.JB.pv rfl trivial (fun _ => PR.move rfl) ?_
          refine Dh.JB.rd [.blk _ _ _] rfl ⟨_, rfl, rfl⟩ (by repeat (first | exact Take.nil | apply Take.cons (by repeat (first | exact Del.here | apply Del.there)))) (fun _ => PR.loadW rfl tsh24 Has.here (by rfl)) ?_
          refine Dh.JB.rd [.blk _ _ _] rfl ⟨_, rfl, rfl⟩ (by repeat (first | exact Take.nil | apply Take.cons (by repeat (first | exact Del.here | apply Del.there)))) (fun _ => PR.loadW rfl tsh24 Has.here (by rfl)) ?_
          refine Dh.JB.nil ?_
          refine Dh.JL.nil ?_
          refine Dh.JE.mk rfl (fun _ h => by cases h) (fun C9_9 => ?_)
          refine Jl.on rfl rfl ?_
          refine Jl.call (rsame_ct A38 A50 c38 c50 (addD d (l ++ m)) (addD (addD d l) m) (by omega) (by omega) hc38 hc50) en17 (by rfl) (by repeat (first | exact Take.nil | apply Take.cons (by repeat (first | exact Del.here | apply Del.there)))) (by repeat (first | exact trivial | refine And.intro (by repeat (first | exact Mem.here | apply Mem.there)) ?_)) ?_
          rintro ⟨⟩
          refine Jl.as (.bool true) (congrArg Value.bool (by rw [p3]; simp)) ?_
          refine Jl.nil ?_
          refine Dh.Jq.segV (by repeat (first | exact Dh.FExt.refl | apply Dh.FExt.cons | apply Dh.FExt.app)) ?_ (by repeat (first | exact Dh.KeepL.nil | apply Dh.KeepL.anc (by rfl) | apply Dh.KeepL.keep (by repeat (first | exact Take.nil | apply Take.cons (by repeat (first | exact Del.here | apply Del.there))))))
          refine Dh.JH.cons ?_
          refine Dh.JB.pv rfl trivial (fun _ => PR.pickT rfl rfl) ?_
          refine Dh.JB.pv rfl trivial (fun _ => PR.move rfl) ?_
          refine Dh.JB.pv rfl ⟨_, rfl, rfl⟩ (fun _ => PR.move rfl) ?_
          refine Dh.JB.pv rfl ⟨_, rfl, rfl⟩ (fun _ => PR.move rfl) ?_
          refine Dh.JB.pv rfl ⟨_, rfl, rfl⟩ (fun _ => PR.move rfl) ?_
          refine Dh.JB.nil ?_
          refine Dh.JL.nil ?_
          refine Dh.JE.mk rfl (fun _ h => by cases h) (fun C9_13 => ?_)
          refine Jl.on rfl rfl ?_
          refine Jl.call (long_at (l ++ m) mm rfl (by omega) hla (if_pos p6)) en20 (by rfl) (by repeat (first | exact Take.nil | apply Take.cons (by repeat (first | exact Del.here | apply Del.there)))) (by repeat (first | exact trivial | refine And.intro (by repeat (first | exact Mem.here | apply Mem.there)) ?_)) ?_
          rintro ⟨⟩
          refine Jl.nil ?_
          refine Dh.Jq.segV (by repeat (first | exact Dh.FExt.refl | apply Dh.FExt.cons | apply Dh.FExt.app)) ?_ (by repeat (first | exact Dh.KeepL.nil | apply Dh.KeepL.anc (by rfl) | apply Dh.KeepL.keep (by repeat (first | exact Take.nil | apply Take.cons (by repeat (first | exact Del.here | apply Del.there))))))
          refine Dh.JH.cons ?_
          refine Dh.JB.nil ?_
          refine Dh.JL.nil ?_
          refine Dh.JE.mk rfl (fun _ h => by cases h) (fun C9_15 => ?_)
          refine Jl.on rfl rfl ?_
          refine Jl.call (long_at l mm rfl (by omega) hll (if_pos p4)) en20 (by rfl) (by repeat (first | exact Take.nil | apply Take.cons (by repeat (first | exact Del.here | apply Del.there)))) (by repeat (first | exact trivial | refine And.intro (by repeat (first | exact Mem.here | apply Mem.there)) ?_)) ?_
          rintro ⟨⟩
          refine Jl.nil ?_
          refine Dh.Jq.segV (by repeat (first | exact Dh.FExt.refl | apply Dh.FExt.cons | apply Dh.FExt.app)) ?_ (by repeat (first | exact Dh.KeepL.nil | apply Dh.KeepL.anc (by rfl) | apply Dh.KeepL.keep (by repeat (first | exact Take.nil | apply Take.cons (by repeat (first | exact Del.here | apply Del.there))))))
          refine Dh.JH.cons ?_
          refine Dh.JB.nil ?_
          refine Dh.JL.nil ?_
          refine Dh.JE.mk rfl (fun _ h => by cases h) (fun C9_17 => ?_)
          refine Jl.on rfl rfl ?_
          refine Jl.call (long_at m mm rfl (by omega) hlm (if_pos p5)) en20 (by rfl) (by repeat (first | exact Take.nil | apply Take.cons (by repeat (first | exact Del.here | apply Del.there)))) (by repeat (first | exact trivial | refine And.intro (by repeat (first | exact Mem.here | apply Mem.there)) ?_)) ?_
          rintro ⟨⟩
          refine Jl.nil ?_
          refine Dh.Jq.segV (by repeat (first | exact Dh.FExt.refl | apply Dh.FExt.cons | apply Dh.FExt.app)) ?_ (by repeat (first | exact Dh.KeepL.nil | apply Dh.KeepL.anc (by rfl) | apply Dh.KeepL.keep (by repeat (first | exact Take.nil | apply Take.cons (by repeat (first | exact Del.here | apply Del.there))))))
          refine Dh.JH.cons ?_
          refine Dh.JB.pv rfl ⟨_, rfl, rfl⟩ (fun _ => PR.add (((recsB (rcsN l)).length + (recsB (rcsN m)).length : Nat) : Int) rfl rfl (wadd (a := (recsB (rcsN l)).length) (b := (recsB (rcsN m)).length) (Nat.le_trans (recsN_len l (by omega)) (by decide)) (Nat.le_trans (recsN_len m (by omega)) (by decide)))) ?_
          refine Dh.JB.pv rfl ⟨_, rfl, rfl⟩ (fun _ => PR.eql true rfl rfl (decide_eq_true (by rw [rcsN_app, recsB_app, List.length_append]))) ?_
          refine Dh.JB.pv rfl trivial (fun _ => PR.pickT rfl rfl) ?_
          refine Dh.JB.pv rfl trivial (fun _ => PR.move rfl) ?_
          refine Dh.JB.pv rfl ⟨_, rfl, rfl⟩ (fun _ => PR.fieldAddr rfl tfl24_0) ?_
          refine Dh.JB.rd [.blk _ _ _] rfl ⟨_, rfl, rfl⟩ (by repeat (first | exact Take.nil | apply Take.cons (by repeat (first | exact Del.here | apply Del.there)))) (fun _ => PR.load1 rfl tsh22 Has.here (by rfl)) ?_
          refine Dh.JB.pv rfl ⟨_, rfl, rfl⟩ (fun _ => PR.len rfl tsl22) ?_
          refine Dh.JB.rd [.blk _ _ _] rfl ⟨_, rfl, rfl⟩ (by repeat (first | exact Take.nil | apply Take.cons (by repeat (first | exact Del.here | apply Del.there)))) (fun _ => PR.loadW rfl tsh24 Has.here (by rfl)) ?_
          refine Dh.JB.pv rfl ⟨_, rfl, rfl⟩ (fun _ => PR.move rfl) ?_
          refine Dh.JB.nil ?_
          refine Dh.JL.nil ?_
          refine Dh.JE.mk rfl (fun _ h => by cases h) (fun C9_26 => ?_)
          refine Jl.on rfl rfl ?_
          refine Jl.call (rown_ct A c d (by omega) hc) en28 (by rfl) (by repeat (first | exact Take.nil | apply Take.cons (by repeat (first | exact Del.here | apply Del.there)))) (by repeat (first | exact trivial | refine And.intro (by repeat (first | exact Mem.here | apply Mem.there)) ?_)) ?_
          rintro ⟨A95, c95⟩
          refine Jl.nil ?_
          refine Dh.Jq.segV (by repeat (first | exact Dh.FExt.refl | apply Dh.FExt.cons | apply Dh.FExt.app)) ?_ (by repeat (first | exact Dh.KeepL.nil | apply Dh.KeepL.anc (by rfl) | apply Dh.KeepL.keep (by repeat (first | exact Take.nil | apply Take.cons (by repeat (first | exact Del.here | apply Del.there))))))
          refine Dh.JH.cons ?_
          refine Dh.JB.pv rfl ⟨_, rfl, rfl⟩ (fun _ => PR.field1 rfl tfl24_0 ⟨_, _, Tryd.underlying24, rfl, tsh22⟩ (by rfl)) ?_
          refine Dh.JB.pv rfl ⟨_, rfl, rfl⟩ (fun _ => PR.len rfl tsl22) ?_
          refine Dh.JB.nil ?_
          refine Dh.JL.nil ?_
          refine Dh.JE.mk rfl (fun _ h => by cases h) (fun C9_30 => ?_)
          refine Jl.on rfl rfl ?_
          refine Jl.call (long_at (l ++ m) mm rfl (by omega) hla (if_pos p6)) en20 (by rfl) (by repeat (first | exact Take.nil | apply Take.cons (by repeat (first | exact Del.here | apply Del.there)))) (by repeat (first | exact trivial | refine And.intro (by repeat (first | exact Mem.here | apply Mem.there)) ?_)) ?_
          rintro ⟨⟩
          refine Jl.nil ?_
          refine Dh.Jq.segV (by repeat (first | exact Dh.FExt.refl | apply Dh.FExt.cons | apply Dh.FExt.app)) ?_ (by repeat (first | exact Dh.KeepL.nil | apply Dh.KeepL.anc (by rfl) | apply Dh.KeepL.keep (by repeat (first | exact Take.nil | apply Take.cons (by repeat (first | exact Del.here | apply Del.there))))))
          refine Dh.JH.cons ?_
          refine Dh.JB.pv rfl ⟨_, rfl, rfl⟩ (fun _ => PR.add ((d.own.b.length + (recsB (rcsN (l ++ m))).length : Nat) : Int) rfl rfl (wadd (a := d.own.b.length) (b := (recsB (rcsN (l ++ m))).length) (Nat.le_trans d.own_len (by omega)) (Nat.le_trans (recsN_len (l ++ m) (by omega)) (by decide)))) ?_
          refine Dh.JB.pv rfl ⟨_, rfl, rfl⟩ (fun _ => PR.eql true rfl rfl (decide_eq_true (by rw [p7, List.length_append]))) ?_
          refine Dh.JB.pv rfl trivial (fun _ => PR.pickT rfl rfl) ?_
          refine Dh.JB.pv rfl trivial (fun _ => PR.move rfl) ?_
          refine Dh.JB.nil ?_
          refine Dh.JL.nil ?_
          refine Dh.JE.mk rfl (fun _ h => by cases h) (fun C9_35 => ?_)
          refine Jl.on rfl rfl ?_
          refine Jl.call (lgwakes_ct mm) en9 (by rfl) (by repeat (first | exact Take.nil | apply Take.cons (by repeat (first | exact Del.here | apply Del.there)))) (by repeat (first | exact trivial | refine And.intro (by repeat (first | exact Mem.here | apply Mem.there)) ?_)) ?_
          rintro ⟨⟩
          refine Jl.as (.bool true) (congrArg Value.bool rfl) ?_
          refine Jl.nil ?_
          refine Dh.Jq.segV (by repeat (first | exact Dh.FExt.refl | apply Dh.FExt.cons | apply Dh.FExt.app)) ?_ (by repeat (first | exact Dh.KeepL.nil | apply Dh.KeepL.anc (by rfl) | apply Dh.KeepL.keep (by repeat (first | exact Take.nil | apply Take.cons (by repeat (first | exact Del.here | apply Del.there))))))
          refine Dh.JH.nil ?_
          refine Dh.JB.pv rfl trivial (fun _ => PR.pickT rfl rfl) ?_
          refine Dh.JB.pv rfl trivial (fun _ => PR.assign rfl) ?_
          refine Dh.JB.nil ?_
          refine Dh.JL.nil ?_
          refine Jq.thenN ?_
          refine Jc.ret ?_
          exact Jq.fin () (.inl rfl) rfl (RetVs.tmp rfl RetVs.nil) rfl (by repeat (first | exact Take.nil | apply Take.cons (by repeat (first | exact Del.here | apply Del.there)))) (by repeat (first | exact trivial | refine And.intro (by repeat (first | exact Mem.here | apply Mem.there)) ?_))
end Go.Proofs.YtcohgnagffibcaaDoor
