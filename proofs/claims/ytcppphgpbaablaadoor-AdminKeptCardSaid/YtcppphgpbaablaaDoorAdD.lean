/-
Contracts of brains: apply, All, Apply.
-/
import Derived.Test.YtcppphgpbaablaaDoorAdC
namespace Go.Proofs.YtcppphgpbaablaaDoor
set_option linter.unusedVariables false
open Go.RowKit
attribute [local irreducible] Res.blk Res.row Fact.rd Res.mapV
def badN (n : Int) : Bool := decide (n < 0) || decide (1099511627776 < n)
theorem two_one {a b : Value} (h1 : a.oneCell' = true) (h2 : b.oneCell' = true) : ∀ u ∈ [a, b], u.oneCell' = true := by
  intro u hu
  simp only [List.mem_cons, List.not_mem_nil, or_false] at hu
  rcases hu with rfl | rfl
  · exact h1
  · exact h2
theorem bad1_ct (n : Int) : Ct Tryd.prog 56 [.int .i64 n] [] [] (fun _ : Unit => .bool (badN n)) (fun _ => []) (fun _ => []) := by
  refine Ct.of _ Tryd.func56 Tryd.ntmps56 rfl rfl (fun X W => ?_)
  refine Jc.seq ?_
  refine Jc.region ?_
  refine Jl.pv (PR.assign rfl) ?_
  refine Jl.nil ?_
  refine Jq.thenN ?_
  refine Jc.seq ?_
  refine Jc.region ?_
  refine Jl.pv (PR.move rfl) ?_
  refine Jl.pv (PR.lss _ rfl rfl rfl) ?_
  refine Jl.pv (PR.move rfl) ?_
  refine Jl.bsplit (fun g5 => ?_) (fun g5 => ?_)
  · try replace g5 := of_decide_eq_true g5
    refine Jl.offS rfl rfl rfl ?_
    refine Jl.offS rfl rfl rfl ?_
    refine Jl.pv (PR.pickT rfl rfl) ?_
    refine Jl.pv (PR.assign rfl) ?_
    refine Jl.nil ?_
    refine Jq.thenN ?_
    refine Jc.ret ?_
    exact Jq.fin () (.inl rfl) rfl (RetVs.tmp rfl RetVs.nil) (congrArg Value.bool (by rw [Bool.eq_iff_iff]; simp [badN] <;> omega)) (by repeat (first | exact Take.nil | apply Take.cons (by repeat (first | exact Del.here | apply Del.there)))) (by repeat (first | exact trivial | refine And.intro (by repeat (first | exact Mem.here | apply Mem.there)) ?_))
  · try replace g5 := of_decide_eq_false g5
    refine Jl.on rfl rfl ?_
    refine Jl.pv (PR.move rfl) ?_
    refine Jl.on rfl rfl ?_
    refine Jl.pv (PR.gtr _ rfl rfl rfl) ?_
    refine Jl.pv (PR.pickF rfl rfl) ?_
    refine Jl.pv (PR.assign rfl) ?_
    refine Jl.nil ?_
    refine Jq.thenN ?_
    refine Jc.ret ?_
    exact Jq.fin () (.inl rfl) rfl (RetVs.tmp rfl RetVs.nil) (congrArg Value.bool (by rw [Bool.eq_iff_iff]; simp [badN] <;> omega)) (by repeat (first | exact Take.nil | apply Take.cons (by repeat (first | exact Del.here | apply Del.there)))) (by repeat (first | exact trivial | refine And.intro (by repeat (first | exact Mem.here | apply Mem.there)) ?_))
theorem any_bad (l : List Int) : l.any badN = !numsOk l := by
  rw [numsOk, List.not_all_eq_any_not]
  congr 1
  funext n
  rw [Bool.eq_iff_iff]
  simp [badN] <;> omega
/-- What is known of the deed of a record. -/
def DeedOk (φ : Fact) (b : Br) (z : BrA) (r : Rc) (x : AdC) : Prop :=
  ∀ (p : Dp) (bb : Nat), ∃ (f : FuncId) (cs : List Value), dF p r.k.toNat = .func (.func f) #[] cs.toArray ∧ (∀ args w, (callFunc f args).run Tryd.prog w = .ok (.enter f args) w) ∧
    Ct Tryd.prog f ([ptr bb, .slice x.1 r.l.length x.2] ++ cs) (p.caps ++ b.st bb z) [.rd x.1 (i64s r.l), .lim, φ] (fun _ : BrA => .tuple #[]) (fun z' => (b.deed r.k.toNat r.l).st bb z') (fun _ => [])
theorem apply_ct (φ : Fact) (b : Br) (z : BrA) (bb : Nat) (r : Rc) (x : AdC) (hn : r.l.length ≤ 1000) (hc : r.l.length ≤ x.2) (hD : r.k.toNat ≠ 2 → dT r.k.toNat = true → (r.l.length : Int) = dM r.k.toNat → numsOk r.l = true → DeedOk φ b z r x) (hE : r.k.toNat ≠ 2 → ¬ (dT r.k.toNat = true ∧ (r.l.length : Int) = dM r.k.toNat) → b.deed r.k.toNat r.l = b) :
    Ct Tryd.prog 46 [ptr bb, r.v x] (b.st bb z) [.rd x.1 (i64s r.l), .lim, φ] (fun _ : BrA => .tuple #[]) (fun z' => (b.apply r).st bb z') (fun _ => []) := by
  obtain ⟨⟨M, cM⟩, ⟨I, cI⟩, ⟨K, cK⟩⟩ := z
  obtain ⟨A, cA⟩ := x
  have hab := any_bad r.l
  by_cases hnum : numsOk r.l = true
  · by_cases hk : r.k.toNat = 2
    · have e : b.apply r = b.group r.l := by rw [Br.apply, if_pos hnum, if_pos hk]
      rw [e]
      refine Ct.of _ Tryd.func46 Tryd.ntmps46 rfl rfl (fun X W => ?_)
      refine Jc.seq ?_
      refine Jc.region ?_
      refine Jl.box rfl (by rfl) ?_
      intro b3
      refine Jl.nil ?_
      refine Jq.thenN ?_
      refine Jc.scopeE (σ := BrA) (fun _ => []) (fun s => (b.group r.l).st bb s) (fun _ => []) (l := 0) rfl ?_ ?_
      · intro s
        exact Jq.fin s (.inr rfl) rfl RetVs.nil rfl (by repeat (first | exact Take.nil | apply Take.cons (by repeat (first | exact Del.here | apply Del.there)))) (by repeat (first | exact trivial | refine And.intro (by repeat (first | exact Mem.here | apply Mem.there)) ?_))
      · refine Jc.seq ?_
        refine Jc.drawn [0, 0, 2, 7, 15, 31, 31, 0, 191, 511] ([(9, false)], []) [⟨[(1, false), (2, false), (7, true)], [], 0⟩, ⟨[], [], 3⟩, ⟨[(4, false), (5, false), (6, false)], [7], 8⟩] tmx (by kernel_rfl) ?_
        refine Dh.JH.cons ?_
        refine Dh.JB.pv rfl trivial (fun _ => PR.fieldAddr rfl tfl49_0) ?_
        refine Dh.JB.rd [.blk _ _ _] rfl trivial (by repeat (first | exact Take.nil | apply Take.cons (by repeat (first | exact Del.here | apply Del.there)))) (fun _ => PR.load1 rfl tsh5 Has.here (by rfl)) ?_
        refine Dh.JB.alloc rfl trivial tze112 ?_
        refine Dh.JB.nil ?_
        refine Dh.JL.nil ?_
        refine Dh.JE.mk rfl (fun _ h => by cases h) (fun C1_0 => ?_)
        refine Jl.call deeds_ct en54 (by rfl) (by repeat (first | exact Take.nil | apply Take.cons (by repeat (first | exact Del.here | apply Del.there)))) (by repeat (first | exact trivial | refine And.intro (by repeat (first | exact Mem.here | apply Mem.there)) ?_)) ?_
        rintro ⟨b7, p⟩
        refine Jl.nil ?_
        refine Dh.Jq.segV (by repeat (first | exact Dh.FExt.refl | apply Dh.FExt.cons | apply Dh.FExt.app)) ?_ (by repeat (first | exact Dh.KeepL.nil | apply Dh.KeepL.anc (by rfl) | apply Dh.KeepL.keep (by repeat (first | exact Take.nil | apply Take.cons (by repeat (first | exact Del.here | apply Del.there))))))
        refine Dh.JH.cons ?_
        refine Dh.JB.nil ?_
        refine Dh.JL.nil ?_
        refine Dh.JE.mk rfl (fun _ h => by cases h) (fun C1_3 => ?_)
        refine Jl.pv (PR.lookupVO (.agg #[.int .i64 0, .nilFunc]) rfl rfl Tryd.underlying114 Tryd.underlying5 (fun _ => by kernel_rfl) (by repeat (first | exact Del.here | apply Del.there)) (wfu8 r.k)) ?_
        refine Jl.as (.tuple #[.agg #[.int .i64 (dM r.k.toNat), dF p r.k.toNat], .bool (dT r.k.toNat)]) (by rw [(deedM_at p r.k.toNat).1, (deedM_at p r.k.toNat).2]) ?_
        refine Jl.nil ?_
        refine Dh.Jq.segV (by repeat (first | exact Dh.FExt.refl | apply Dh.FExt.cons | apply Dh.FExt.app)) ?_ (by repeat (first | exact Dh.KeepL.nil | apply Dh.KeepL.anc (by rfl) | apply Dh.KeepL.keep (by repeat (first | exact Take.nil | apply Take.cons (by repeat (first | exact Del.here | apply Del.there))))))
        refine Dh.JH.cons ?_
        refine Dh.JB.pv rfl trivial (fun _ => PR.move rfl) ?_
        refine Dh.JB.pv rfl trivial (fun _ => PR.extract rfl (by rfl)) ?_
        refine Dh.JB.pv rfl trivial (fun _ => PR.extract rfl (by rfl)) ?_
        refine Dh.JB.nil ?_
        refine Dh.JL.ptr rfl (by repeat (first | exact Dh.es_here | apply Dh.es_there)) (fun b4 => ?_)
        refine Dh.JL.nil ?_
        refine Dh.JE.mk rfl (fun _ h => by cases h) (fun C1_8 => ?_)
        refine Jl.storeW rfl tsh112 rfl (by rfl) (by first | exact two_one rfl (dF_one _ _) | exact Br.cs_one _ _ | simp [Value.oneCell', Rc.cs]) (by repeat (first | exact Swap.here | apply Swap.there)) (by rfl) ?_
        refine Jl.nil ?_
        refine Dh.Jq.segN (by repeat (first | exact Dh.FExt.refl | apply Dh.FExt.cons | apply Dh.FExt.app)) ?_ (by repeat (first | exact Dh.KeepL.nil | apply Dh.KeepL.anc (by rfl) | apply Dh.KeepL.keep (by repeat (first | exact Take.nil | apply Take.cons (by repeat (first | exact Del.here | apply Del.there))))))
        refine Dh.JH.nil ?_
        refine Dh.JB.pv rfl trivial (fun _ => PR.assign rfl) ?_
        refine Dh.JB.nil ?_
        refine Dh.JL.nil ?_
        refine Jq.thenN ?_
        refine Jc.seq ?_
        refine Jc.seq ?_
        refine Jc.region ?_
        refine Jl.pv (PR.fieldAddr rfl tfl49_1) ?_
        refine Jl.pv (PR.load1 rfl tsh22 (by repeat (first | exact Has.here | apply Has.there)) (by rfl)) ?_
        refine Jl.call (contains_ct badN A cA r.l (by omega) 56 bad1_ct en56) en55 (by rfl) (by repeat (first | exact Take.nil | apply Take.cons (by repeat (first | exact Del.here | apply Del.there)))) (by repeat (first | exact trivial | refine And.intro (by repeat (first | exact Mem.here | apply Mem.there)) ?_)) ?_
        rintro ⟨⟩
        refine Jl.as (.bool false) (congrArg Value.bool (by rw [hab, hnum]; rfl)) ?_
        refine Jl.nil ?_
        refine Jq.thenN ?_
        refine Jc.condF rfl ?_
        refine Jc.skip ?_
        refine Jq.thenN ?_
        refine Jc.seq ?_
        refine Jc.seq ?_
        refine Jc.region ?_
        refine Jl.pv (PR.fieldAddr rfl tfl49_0) ?_
        refine Jl.pv (PR.load1 rfl tsh5 (by repeat (first | exact Has.here | apply Has.there)) (by rfl)) ?_
        refine Jl.pv (PR.eql true rfl rfl (decide_eq_true (by omega))) ?_
        refine Jl.nil ?_
        refine Jq.thenN ?_
        refine Jc.condT rfl ?_
        refine Jc.seq ?_
        refine Jc.region ?_
        refine Jl.pv (PR.move rfl) ?_
        refine Jl.pv (PR.fieldAddr rfl tfl49_1) ?_
        refine Jl.pv (PR.load1 rfl tsh22 (by repeat (first | exact Has.here | apply Has.there)) (by rfl)) ?_
        refine Jl.call (bgroup_ct b ((M, cM), (I, cI), (K, cK)) bb A cA r.l hn hc) en57 (by rfl) (by repeat (first | exact Take.nil | apply Take.cons (by repeat (first | exact Del.here | apply Del.there)))) (by repeat (first | exact trivial | refine And.intro (by repeat (first | exact Mem.here | apply Mem.there)) ?_)) ?_
        rintro z'
        refine Jl.nil ?_
        refine Jq.thenN ?_
        refine Jc.ret ?_
        refine Jq.thenR ?_
        refine Jq.jmpR ?_
        exact Jq.fin z' (.inl rfl) rfl RetVs.nil rfl (by repeat (first | exact Take.nil | apply Take.cons (by repeat (first | exact Del.here | apply Del.there)))) (by repeat (first | exact trivial | refine And.intro (by repeat (first | exact Mem.here | apply Mem.there)) ?_))
    · have e : b.apply r = b.deed r.k.toNat r.l := by rw [Br.apply, if_pos hnum, if_neg hk]
      rw [e]
      by_cases ht : dT r.k.toNat = true ∧ (r.l.length : Int) = dM r.k.toNat
      · have hd := hD hk ht.1 ht.2 hnum
        refine Ct.of _ Tryd.func46 Tryd.ntmps46 rfl rfl (fun X W => ?_)
        refine Jc.seq ?_
        refine Jc.region ?_
        refine Jl.box rfl (by rfl) ?_
        intro b3
        refine Jl.nil ?_
        refine Jq.thenN ?_
        refine Jc.scopeE (σ := BrA) (fun _ => []) (fun s => (b.deed r.k.toNat r.l).st bb s) (fun _ => []) (l := 0) rfl ?_ ?_
        · intro s
          exact Jq.fin s (.inr rfl) rfl RetVs.nil rfl (by repeat (first | exact Take.nil | apply Take.cons (by repeat (first | exact Del.here | apply Del.there)))) (by repeat (first | exact trivial | refine And.intro (by repeat (first | exact Mem.here | apply Mem.there)) ?_))
        · refine Jc.seq ?_
          refine Jc.drawn [0, 0, 2, 7, 15, 31, 31, 0, 191, 511] ([(9, false)], []) [⟨[(1, false), (2, false), (7, true)], [], 0⟩, ⟨[], [], 3⟩, ⟨[(4, false), (5, false), (6, false)], [7], 8⟩] tmx (by kernel_rfl) ?_
          refine Dh.JH.cons ?_
          refine Dh.JB.pv rfl trivial (fun _ => PR.fieldAddr rfl tfl49_0) ?_
          refine Dh.JB.rd [.blk _ _ _] rfl trivial (by repeat (first | exact Take.nil | apply Take.cons (by repeat (first | exact Del.here | apply Del.there)))) (fun _ => PR.load1 rfl tsh5 Has.here (by rfl)) ?_
          refine Dh.JB.alloc rfl trivial tze112 ?_
          refine Dh.JB.nil ?_
          refine Dh.JL.nil ?_
          refine Dh.JE.mk rfl (fun _ h => by cases h) (fun C1_0 => ?_)
          refine Jl.call deeds_ct en54 (by rfl) (by repeat (first | exact Take.nil | apply Take.cons (by repeat (first | exact Del.here | apply Del.there)))) (by repeat (first | exact trivial | refine And.intro (by repeat (first | exact Mem.here | apply Mem.there)) ?_)) ?_
          rintro ⟨b7, p⟩
          refine Jl.nil ?_
          refine Dh.Jq.segV (by repeat (first | exact Dh.FExt.refl | apply Dh.FExt.cons | apply Dh.FExt.app)) ?_ (by repeat (first | exact Dh.KeepL.nil | apply Dh.KeepL.anc (by rfl) | apply Dh.KeepL.keep (by repeat (first | exact Take.nil | apply Take.cons (by repeat (first | exact Del.here | apply Del.there))))))
          refine Dh.JH.cons ?_
          refine Dh.JB.nil ?_
          refine Dh.JL.nil ?_
          refine Dh.JE.mk rfl (fun _ h => by cases h) (fun C1_3 => ?_)
          refine Jl.pv (PR.lookupVO (.agg #[.int .i64 0, .nilFunc]) rfl rfl Tryd.underlying114 Tryd.underlying5 (fun _ => by kernel_rfl) (by repeat (first | exact Del.here | apply Del.there)) (wfu8 r.k)) ?_
          refine Jl.as (.tuple #[.agg #[.int .i64 (dM r.k.toNat), dF p r.k.toNat], .bool (dT r.k.toNat)]) (by rw [(deedM_at p r.k.toNat).1, (deedM_at p r.k.toNat).2]) ?_
          refine Jl.nil ?_
          refine Dh.Jq.segV (by repeat (first | exact Dh.FExt.refl | apply Dh.FExt.cons | apply Dh.FExt.app)) ?_ (by repeat (first | exact Dh.KeepL.nil | apply Dh.KeepL.anc (by rfl) | apply Dh.KeepL.keep (by repeat (first | exact Take.nil | apply Take.cons (by repeat (first | exact Del.here | apply Del.there))))))
          refine Dh.JH.cons ?_
          refine Dh.JB.pv rfl trivial (fun _ => PR.move rfl) ?_
          refine Dh.JB.pv rfl trivial (fun _ => PR.extract rfl (by rfl)) ?_
          refine Dh.JB.pv rfl trivial (fun _ => PR.extract rfl (by rfl)) ?_
          refine Dh.JB.nil ?_
          refine Dh.JL.ptr rfl (by repeat (first | exact Dh.es_here | apply Dh.es_there)) (fun b4 => ?_)
          refine Dh.JL.nil ?_
          refine Dh.JE.mk rfl (fun _ h => by cases h) (fun C1_8 => ?_)
          refine Jl.storeW rfl tsh112 rfl (by rfl) (by first | exact two_one rfl (dF_one _ _) | exact Br.cs_one _ _ | simp [Value.oneCell', Rc.cs]) (by repeat (first | exact Swap.here | apply Swap.there)) (by rfl) ?_
          refine Jl.nil ?_
          refine Dh.Jq.segN (by repeat (first | exact Dh.FExt.refl | apply Dh.FExt.cons | apply Dh.FExt.app)) ?_ (by repeat (first | exact Dh.KeepL.nil | apply Dh.KeepL.anc (by rfl) | apply Dh.KeepL.keep (by repeat (first | exact Take.nil | apply Take.cons (by repeat (first | exact Del.here | apply Del.there))))))
          refine Dh.JH.nil ?_
          refine Dh.JB.pv rfl trivial (fun _ => PR.assign rfl) ?_
          refine Dh.JB.nil ?_
          refine Dh.JL.nil ?_
          refine Jq.thenN ?_
          refine Jc.seq ?_
          refine Jc.seq ?_
          refine Jc.region ?_
          refine Jl.pv (PR.fieldAddr rfl tfl49_1) ?_
          refine Jl.pv (PR.load1 rfl tsh22 (by repeat (first | exact Has.here | apply Has.there)) (by rfl)) ?_
          refine Jl.call (contains_ct badN A cA r.l (by omega) 56 bad1_ct en56) en55 (by rfl) (by repeat (first | exact Take.nil | apply Take.cons (by repeat (first | exact Del.here | apply Del.there)))) (by repeat (first | exact trivial | refine And.intro (by repeat (first | exact Mem.here | apply Mem.there)) ?_)) ?_
          rintro ⟨⟩
          refine Jl.as (.bool false) (congrArg Value.bool (by rw [hab, hnum]; rfl)) ?_
          refine Jl.nil ?_
          refine Jq.thenN ?_
          refine Jc.condF rfl ?_
          refine Jc.skip ?_
          refine Jq.thenN ?_
          refine Jc.seq ?_
          refine Jc.seq ?_
          refine Jc.region ?_
          refine Jl.pv (PR.fieldAddr rfl tfl49_0) ?_
          refine Jl.pv (PR.load1 rfl tsh5 (by repeat (first | exact Has.here | apply Has.there)) (by rfl)) ?_
          refine Jl.pv (PR.eql false rfl rfl (decide_eq_false (by omega))) ?_
          refine Jl.nil ?_
          refine Jq.thenN ?_
          refine Jc.condF rfl ?_
          refine Jc.skip ?_
          refine Jq.thenN ?_
          refine Jc.seq ?_
          refine Jc.seq ?_
          refine Jc.region ?_
          refine Jl.pv (PR.move rfl) ?_
          refine Jl.as (.bool true) (congrArg Value.bool ht.1) ?_
          refine Jl.pv (PR.not rfl) ?_
          refine Jl.pv (PR.move rfl) ?_
          refine Jl.on rfl rfl ?_
          refine Jl.pv (PR.fieldAddr rfl tfl49_1) ?_
          refine Jl.on rfl rfl ?_
          refine Jl.pv (PR.load1 rfl tsh22 (by repeat (first | exact Has.here | apply Has.there)) (by rfl)) ?_
          refine Jl.on rfl rfl ?_
          refine Jl.pv (PR.len rfl tsl22) ?_
          refine Jl.on rfl rfl ?_
          refine Jl.pv (PR.fieldAddr rfl tfl112_0) ?_
          refine Jl.on rfl rfl ?_
          refine Jl.pv (PR.load1 rfl tsh3 (by repeat (first | exact Has.here | apply Has.there)) (by rfl)) ?_
          refine Jl.on rfl rfl ?_
          refine Jl.pv (PR.neq false rfl rfl (by rw [ht.2]; simp)) ?_
          refine Jl.pv (PR.pickF rfl rfl) ?_
          refine Jl.nil ?_
          refine Jq.thenN ?_
          refine Jc.condF rfl ?_
          refine Jc.skip ?_
          refine Jq.thenN ?_
          refine Jc.seq ?_
          refine Jc.region ?_
          refine Jl.pv (PR.fieldAddr rfl tfl112_1) ?_
          refine Jl.pv (PR.load1 rfl tsh110 (by repeat (first | exact Has.here | apply Has.there)) (by rfl)) ?_
          obtain ⟨f, cs, hF, hen, hct⟩ := hd p bb
          refine Jl.as (.func (.func f) #[] cs.toArray) hF ?_
          refine Jl.pv (PR.move rfl) ?_
          refine Jl.pv (PR.fieldAddr rfl tfl49_1) ?_
          refine Jl.pv (PR.load1 rfl tsh22 (by repeat (first | exact Has.here | apply Has.there)) (by rfl)) ?_
          refine Jl.callv hct hen rfl (by rfl) (by rfl) (by repeat (first | exact Take.nil | apply Take.cons (by repeat (first | exact Del.here | apply Del.there)))) (by repeat (first | exact trivial | refine And.intro (by repeat (first | exact Mem.here | apply Mem.there)) ?_)) ?_
          rintro z'
          refine Jl.nil ?_
          refine Jq.thenN ?_
          refine Jc.label ?_
          refine Jq.jmpN ?_
          exact Jq.fin z' (.inr rfl) rfl RetVs.nil rfl (by repeat (first | exact Take.nil | apply Take.cons (by repeat (first | exact Del.here | apply Del.there)))) (by repeat (first | exact trivial | refine And.intro (by repeat (first | exact Mem.here | apply Mem.there)) ?_))
      · have e2 := hE hk ht
        rw [e2]
        refine Ct.of _ Tryd.func46 Tryd.ntmps46 rfl rfl (fun X W => ?_)
        refine Jc.seq ?_
        refine Jc.region ?_
        refine Jl.box rfl (by rfl) ?_
        intro b3
        refine Jl.nil ?_
        refine Jq.thenN ?_
        refine Jc.scopeE (σ := Unit) (fun _ => []) (fun _ => b.st bb ((M, cM), (I, cI), (K, cK))) (fun _ => []) (l := 0) rfl ?_ ?_
        · intro s
          exact Jq.fin ((M, cM), (I, cI), (K, cK)) (.inr rfl) rfl RetVs.nil rfl (by repeat (first | exact Take.nil | apply Take.cons (by repeat (first | exact Del.here | apply Del.there)))) (by repeat (first | exact trivial | refine And.intro (by repeat (first | exact Mem.here | apply Mem.there)) ?_))
        · refine Jc.seq ?_
          refine Jc.drawn [0, 0, 2, 7, 15, 31, 31, 0, 191, 511] ([(9, false)], []) [⟨[(1, false), (2, false), (7, true)], [], 0⟩, ⟨[], [], 3⟩, ⟨[(4, false), (5, false), (6, false)], [7], 8⟩] tmx (by kernel_rfl) ?_
          refine Dh.JH.cons ?_
          refine Dh.JB.pv rfl trivial (fun _ => PR.fieldAddr rfl tfl49_0) ?_
          refine Dh.JB.rd [.blk _ _ _] rfl trivial (by repeat (first | exact Take.nil | apply Take.cons (by repeat (first | exact Del.here | apply Del.there)))) (fun _ => PR.load1 rfl tsh5 Has.here (by rfl)) ?_
          refine Dh.JB.alloc rfl trivial tze112 ?_
          refine Dh.JB.nil ?_
          refine Dh.JL.nil ?_
          refine Dh.JE.mk rfl (fun _ h => by cases h) (fun C1_0 => ?_)
          refine Jl.call deeds_ct en54 (by rfl) (by repeat (first | exact Take.nil | apply Take.cons (by repeat (first | exact Del.here | apply Del.there)))) (by repeat (first | exact trivial | refine And.intro (by repeat (first | exact Mem.here | apply Mem.there)) ?_)) ?_
          rintro ⟨b7, p⟩
          refine Jl.nil ?_
          refine Dh.Jq.segV (by repeat (first | exact Dh.FExt.refl | apply Dh.FExt.cons | apply Dh.FExt.app)) ?_ (by repeat (first | exact Dh.KeepL.nil | apply Dh.KeepL.anc (by rfl) | apply Dh.KeepL.keep (by repeat (first | exact Take.nil | apply Take.cons (by repeat (first | exact Del.here | apply Del.there))))))
          refine Dh.JH.cons ?_
          refine Dh.JB.nil ?_
          refine Dh.JL.nil ?_
          refine Dh.JE.mk rfl (fun _ h => by cases h) (fun C1_3 => ?_)
          refine Jl.pv (PR.lookupVO (.agg #[.int .i64 0, .nilFunc]) rfl rfl Tryd.underlying114 Tryd.underlying5 (fun _ => by kernel_rfl) (by repeat (first | exact Del.here | apply Del.there)) (wfu8 r.k)) ?_
          refine Jl.as (.tuple #[.agg #[.int .i64 (dM r.k.toNat), dF p r.k.toNat], .bool (dT r.k.toNat)]) (by rw [(deedM_at p r.k.toNat).1, (deedM_at p r.k.toNat).2]) ?_
          refine Jl.nil ?_
          refine Dh.Jq.segV (by repeat (first | exact Dh.FExt.refl | apply Dh.FExt.cons | apply Dh.FExt.app)) ?_ (by repeat (first | exact Dh.KeepL.nil | apply Dh.KeepL.anc (by rfl) | apply Dh.KeepL.keep (by repeat (first | exact Take.nil | apply Take.cons (by repeat (first | exact Del.here | apply Del.there))))))
          refine Dh.JH.cons ?_
          refine Dh.JB.pv rfl trivial (fun _ => PR.move rfl) ?_
          refine Dh.JB.pv rfl trivial (fun _ => PR.extract rfl (by rfl)) ?_
          refine Dh.JB.pv rfl trivial (fun _ => PR.extract rfl (by rfl)) ?_
          refine Dh.JB.nil ?_
          refine Dh.JL.ptr rfl (by repeat (first | exact Dh.es_here | apply Dh.es_there)) (fun b4 => ?_)
          refine Dh.JL.nil ?_
          refine Dh.JE.mk rfl (fun _ h => by cases h) (fun C1_8 => ?_)
          refine Jl.storeW rfl tsh112 rfl (by rfl) (by first | exact two_one rfl (dF_one _ _) | exact Br.cs_one _ _ | simp [Value.oneCell', Rc.cs]) (by repeat (first | exact Swap.here | apply Swap.there)) (by rfl) ?_
          refine Jl.nil ?_
          refine Dh.Jq.segN (by repeat (first | exact Dh.FExt.refl | apply Dh.FExt.cons | apply Dh.FExt.app)) ?_ (by repeat (first | exact Dh.KeepL.nil | apply Dh.KeepL.anc (by rfl) | apply Dh.KeepL.keep (by repeat (first | exact Take.nil | apply Take.cons (by repeat (first | exact Del.here | apply Del.there))))))
          refine Dh.JH.nil ?_
          refine Dh.JB.pv rfl trivial (fun _ => PR.assign rfl) ?_
          refine Dh.JB.nil ?_
          refine Dh.JL.nil ?_
          refine Jq.thenN ?_
          refine Jc.seq ?_
          refine Jc.seq ?_
          refine Jc.region ?_
          refine Jl.pv (PR.fieldAddr rfl tfl49_1) ?_
          refine Jl.pv (PR.load1 rfl tsh22 (by repeat (first | exact Has.here | apply Has.there)) (by rfl)) ?_
          refine Jl.call (contains_ct badN A cA r.l (by omega) 56 bad1_ct en56) en55 (by rfl) (by repeat (first | exact Take.nil | apply Take.cons (by repeat (first | exact Del.here | apply Del.there)))) (by repeat (first | exact trivial | refine And.intro (by repeat (first | exact Mem.here | apply Mem.there)) ?_)) ?_
          rintro ⟨⟩
          refine Jl.as (.bool false) (congrArg Value.bool (by rw [hab, hnum]; rfl)) ?_
          refine Jl.nil ?_
          refine Jq.thenN ?_
          refine Jc.condF rfl ?_
          refine Jc.skip ?_
          refine Jq.thenN ?_
          refine Jc.seq ?_
          refine Jc.seq ?_
          refine Jc.region ?_
          refine Jl.pv (PR.fieldAddr rfl tfl49_0) ?_
          refine Jl.pv (PR.load1 rfl tsh5 (by repeat (first | exact Has.here | apply Has.there)) (by rfl)) ?_
          refine Jl.pv (PR.eql false rfl rfl (decide_eq_false (by omega))) ?_
          refine Jl.nil ?_
          refine Jq.thenN ?_
          refine Jc.condF rfl ?_
          refine Jc.skip ?_
          refine Jq.thenN ?_
          refine Jc.seq ?_
          refine Jc.seq ?_
          refine Jc.region ?_
          refine Jl.pv (PR.move rfl) ?_
          refine Jl.pv (PR.not rfl) ?_
          refine Jl.pv (PR.move rfl) ?_
          refine Jl.bsplit (fun g25 => ?_) (fun g25 => ?_)
          · try replace g25 := of_decide_eq_true g25
            refine Jl.offS rfl rfl rfl ?_
            refine Jl.offS rfl rfl rfl ?_
            refine Jl.offS rfl rfl rfl ?_
            refine Jl.offS rfl rfl rfl ?_
            refine Jl.offS rfl rfl rfl ?_
            refine Jl.offS rfl rfl rfl ?_
            refine Jl.pv (PR.pickT rfl rfl) ?_
            refine Jl.nil ?_
            refine Jq.thenN ?_
            refine Jc.condT rfl ?_
            refine Jc.goto ?_
            refine Jq.thenG ?_
            refine Jq.lessR (rs := b.st bb ((M, cM), (I, cI), (K, cK))) (by repeat (first | exact Take.nil | apply Take.cons (by repeat (first | exact Del.here | apply Del.there)))) ?_
            exact Jq.jmpA () (by repeat (first | exact trivial | refine And.intro rfl ?_)) rfl (by repeat (first | exact trivial | refine And.intro (by repeat (first | exact Mem.here | apply Mem.there)) ?_))
          · try replace g25 := of_decide_eq_false g25
            refine Jl.on rfl rfl ?_
            refine Jl.pv (PR.fieldAddr rfl tfl49_1) ?_
            refine Jl.on rfl rfl ?_
            refine Jl.pv (PR.load1 rfl tsh22 (by repeat (first | exact Has.here | apply Has.there)) (by rfl)) ?_
            refine Jl.on rfl rfl ?_
            refine Jl.pv (PR.len rfl tsl22) ?_
            refine Jl.on rfl rfl ?_
            refine Jl.pv (PR.fieldAddr rfl tfl112_0) ?_
            refine Jl.on rfl rfl ?_
            refine Jl.pv (PR.load1 rfl tsh3 (by repeat (first | exact Has.here | apply Has.there)) (by rfl)) ?_
            refine Jl.on rfl rfl ?_
            refine Jl.pv (PR.neq true rfl rfl (decide_eq_true (fun h => ht ⟨by simpa using g25, h⟩))) ?_
            refine Jl.pv (PR.pickF rfl rfl) ?_
            refine Jl.nil ?_
            refine Jq.thenN ?_
            refine Jc.condT rfl ?_
            refine Jc.goto ?_
            refine Jq.thenG ?_
            refine Jq.lessR (rs := b.st bb ((M, cM), (I, cI), (K, cK))) (by repeat (first | exact Take.nil | apply Take.cons (by repeat (first | exact Del.here | apply Del.there)))) ?_
            exact Jq.jmpA () (by repeat (first | exact trivial | refine And.intro rfl ?_)) rfl (by repeat (first | exact trivial | refine And.intro (by repeat (first | exact Mem.here | apply Mem.there)) ?_))
  · have e : b.apply r = b := by rw [Br.apply, if_neg hnum]
    rw [e]
    refine Ct.of _ Tryd.func46 Tryd.ntmps46 rfl rfl (fun X W => ?_)
    refine Jc.seq ?_
    refine Jc.region ?_
    refine Jl.box rfl (by rfl) ?_
    intro b3
    refine Jl.nil ?_
    refine Jq.thenN ?_
    refine Jc.scopeE (σ := Unit) (fun _ => []) (fun _ => b.st bb ((M, cM), (I, cI), (K, cK))) (fun _ => []) (l := 0) rfl ?_ ?_
    · intro s
      exact Jq.fin ((M, cM), (I, cI), (K, cK)) (.inr rfl) rfl RetVs.nil rfl (by repeat (first | exact Take.nil | apply Take.cons (by repeat (first | exact Del.here | apply Del.there)))) (by repeat (first | exact trivial | refine And.intro (by repeat (first | exact Mem.here | apply Mem.there)) ?_))
    · refine Jc.seq ?_
      refine Jc.drawn [0, 0, 2, 7, 15, 31, 31, 0, 191, 511] ([(9, false)], []) [⟨[(1, false), (2, false), (7, true)], [], 0⟩, ⟨[], [], 3⟩, ⟨[(4, false), (5, false), (6, false)], [7], 8⟩] tmx (by kernel_rfl) ?_
      refine Dh.JH.cons ?_
      refine Dh.JB.pv rfl trivial (fun _ => PR.fieldAddr rfl tfl49_0) ?_
      refine Dh.JB.rd [.blk _ _ _] rfl trivial (by repeat (first | exact Take.nil | apply Take.cons (by repeat (first | exact Del.here | apply Del.there)))) (fun _ => PR.load1 rfl tsh5 Has.here (by rfl)) ?_
      refine Dh.JB.alloc rfl trivial tze112 ?_
      refine Dh.JB.nil ?_
      refine Dh.JL.nil ?_
      refine Dh.JE.mk rfl (fun _ h => by cases h) (fun C1_0 => ?_)
      refine Jl.call deeds_ct en54 (by rfl) (by repeat (first | exact Take.nil | apply Take.cons (by repeat (first | exact Del.here | apply Del.there)))) (by repeat (first | exact trivial | refine And.intro (by repeat (first | exact Mem.here | apply Mem.there)) ?_)) ?_
      rintro ⟨b7, p⟩
      refine Jl.nil ?_
      refine Dh.Jq.segV (by repeat (first | exact Dh.FExt.refl | apply Dh.FExt.cons | apply Dh.FExt.app)) ?_ (by repeat (first | exact Dh.KeepL.nil | apply Dh.KeepL.anc (by rfl) | apply Dh.KeepL.keep (by repeat (first | exact Take.nil | apply Take.cons (by repeat (first | exact Del.here | apply Del.there))))))
      refine Dh.JH.cons ?_
      refine Dh.JB.nil ?_
      refine Dh.JL.nil ?_
      refine Dh.JE.mk rfl (fun _ h => by cases h) (fun C1_3 => ?_)
      refine Jl.pv (PR.lookupVO (.agg #[.int .i64 0, .nilFunc]) rfl rfl Tryd.underlying114 Tryd.underlying5 (fun _ => by kernel_rfl) (by repeat (first | exact Del.here | apply Del.there)) (wfu8 r.k)) ?_
      refine Jl.as (.tuple #[.agg #[.int .i64 (dM r.k.toNat), dF p r.k.toNat], .bool (dT r.k.toNat)]) (by rw [(deedM_at p r.k.toNat).1, (deedM_at p r.k.toNat).2]) ?_
      refine Jl.nil ?_
      refine Dh.Jq.segV (by repeat (first | exact Dh.FExt.refl | apply Dh.FExt.cons | apply Dh.FExt.app)) ?_ (by repeat (first | exact Dh.KeepL.nil | apply Dh.KeepL.anc (by rfl) | apply Dh.KeepL.keep (by repeat (first | exact Take.nil | apply Take.cons (by repeat (first | exact Del.here | apply Del.there))))))
      refine Dh.JH.cons ?_
      refine Dh.JB.pv rfl trivial (fun _ => PR.move rfl) ?_
      refine Dh.JB.pv rfl trivial (fun _ => PR.extract rfl (by rfl)) ?_
      refine Dh.JB.pv rfl trivial (fun _ => PR.extract rfl (by rfl)) ?_
      refine Dh.JB.nil ?_
      refine Dh.JL.ptr rfl (by repeat (first | exact Dh.es_here | apply Dh.es_there)) (fun b4 => ?_)
      refine Dh.JL.nil ?_
      refine Dh.JE.mk rfl (fun _ h => by cases h) (fun C1_8 => ?_)
      refine Jl.storeW rfl tsh112 rfl (by rfl) (by first | exact two_one rfl (dF_one _ _) | exact Br.cs_one _ _ | simp [Value.oneCell', Rc.cs]) (by repeat (first | exact Swap.here | apply Swap.there)) (by rfl) ?_
      refine Jl.nil ?_
      refine Dh.Jq.segN (by repeat (first | exact Dh.FExt.refl | apply Dh.FExt.cons | apply Dh.FExt.app)) ?_ (by repeat (first | exact Dh.KeepL.nil | apply Dh.KeepL.anc (by rfl) | apply Dh.KeepL.keep (by repeat (first | exact Take.nil | apply Take.cons (by repeat (first | exact Del.here | apply Del.there))))))
      refine Dh.JH.nil ?_
      refine Dh.JB.pv rfl trivial (fun _ => PR.assign rfl) ?_
      refine Dh.JB.nil ?_
      refine Dh.JL.nil ?_
      refine Jq.thenN ?_
      refine Jc.seq ?_
      refine Jc.seq ?_
      refine Jc.region ?_
      refine Jl.pv (PR.fieldAddr rfl tfl49_1) ?_
      refine Jl.pv (PR.load1 rfl tsh22 (by repeat (first | exact Has.here | apply Has.there)) (by rfl)) ?_
      refine Jl.call (contains_ct badN A cA r.l (by omega) 56 bad1_ct en56) en55 (by rfl) (by repeat (first | exact Take.nil | apply Take.cons (by repeat (first | exact Del.here | apply Del.there)))) (by repeat (first | exact trivial | refine And.intro (by repeat (first | exact Mem.here | apply Mem.there)) ?_)) ?_
      rintro ⟨⟩
      refine Jl.as (.bool true) (congrArg Value.bool (by rw [hab]; simpa using hnum)) ?_
      refine Jl.nil ?_
      refine Jq.thenN ?_
      refine Jc.condT rfl ?_
      refine Jc.goto ?_
      refine Jq.thenG ?_
      refine Jq.lessR (rs := b.st bb ((M, cM), (I, cI), (K, cK))) (by repeat (first | exact Take.nil | apply Take.cons (by repeat (first | exact Del.here | apply Del.there)))) ?_
      exact Jq.jmpA () (by repeat (first | exact trivial | refine And.intro rfl ?_)) rfl (by repeat (first | exact trivial | refine And.intro (by repeat (first | exact Mem.here | apply Mem.there)) ?_))
/-- The kinds of records that orders make. -/
def admK (k : Nat) : Bool := decide (9 ≤ k ∧ k ≤ 13) || decide (k = 15)
theorem len1 {l : List Int} (h : (l.length : Int) = 1) : ∃ a, l = [a] := by
  match l, h with
  | [a], _ => exact ⟨a, rfl⟩
  | [], h => exact absurd h (by simp)
  | a :: b :: l, h => exact absurd h (by simp; omega)
theorem len2 {l : List Int} (h : (l.length : Int) = 2) : ∃ a b, l = [a, b] := by
  match l, h with
  | [a, b], _ => exact ⟨a, b, rfl⟩
  | [], h => exact absurd h (by simp)
  | [a], h => exact absurd h (by simp)
  | a :: b :: c :: l, h => exact absurd h (by simp; omega)
theorem len0 {l : List Int} (h : (l.length : Int) = 0) : l = [] := List.eq_nil_of_length_eq_zero (by omega)
theorem k_of {k : UInt8} {n : Nat} (h : k.toNat = n) (hn : n < 256) : k = UInt8.ofNat n := by
  apply UInt8.toNat_inj.1
  rw [h]; simp; omega
/-- A contract whose result is of another family. -/
theorem Ct.unit {P : Program} {f : FuncId} {args : List Value} {Rin : List Res} {pre : List Fact} {res : Value} {Rout : List Res} {α : Type} {res' : α → Value} {Rout' : α → List Res} (a : α) (h : Ct P f args Rin pre (fun _ : Unit => res) (fun _ => Rout) (fun _ => [])) (h1 : res = res' a) (h2 : Rout = Rout' a) : Ct P f args Rin pre res' Rout' (fun _ => []) := fun X W hX hs hp => by
  subst h1 h2
  exact (h X W hX hs hp).mono fun e W' ⟨_, e1, e2, e3, e4, e5⟩ => ⟨a, e1, e2, e3, e4, e5⟩
/-- A contract with more facts at hand. -/
theorem Ct.facts {P : Program} {f : FuncId} {args : List Value} {Rin : List Res} {pre pre' : List Fact} {α : Type} {res : α → Value} {Rout : α → List Res} {post : α → List Fact} (hf : FSub pre pre') (h : Ct P f args Rin pre res Rout post) : Ct P f args Rin pre' res Rout post := fun X W hX hs hp => h X W hX hs (fun φ hφ => hp φ (hf.mem φ hφ))
theorem guardT (b : Br) (id g : Int) : (b.findK id = none → b.guard id g = b) ∧ ∀ i, b.findK id = some i → b.guard id g = if g < 2 then b.onK1 i { b.kAt i with gu := decide (g = 1) } else b :=
  ⟨fun h => by rw [Br.guard, h], fun i h => by rw [Br.guard, h]⟩
theorem complT (b : Br) (id : Int) : (b.findK id = none → b.compl id = b) ∧ ∀ i, b.findK id = some i → b.compl id = b.onK1 i { b.kAt i with co := (b.kAt i).co || (b.kAt i).held } :=
  ⟨fun h => by rw [Br.compl, h], fun i h => by rw [Br.compl, h]⟩
theorem deed_adm (φ : Fact) (b : Br) (z : BrA) (r : Rc) (x : AdC) (hm : b.kps.length ≤ 1000000) (hk : admK r.k.toNat = true) (hl : (r.l.length : Int) = dM r.k.toNat) : DeedOk φ b z r x := by
  obtain ⟨k, l⟩ := r
  obtain ⟨L, cL⟩ := x
  intro p bb
  simp only [admK, Bool.or_eq_true, decide_eq_true_eq] at hk
  have hk' : k.toNat = 9 ∨ k.toNat = 10 ∨ k.toNat = 11 ∨ k.toNat = 12 ∨ k.toNat = 13 ∨ k.toNat = 15 := by omega
  rcases hk' with h | h | h | h | h | h <;> (simp only [h] at hl ⊢)
  · obtain ⟨a, c, rfl⟩ := len2 hl
    refine ⟨_, [ptr p.k9], rfl, en84, Ct.facts (pre := [.rd L (i64s [a, c])]) (by repeat (first | exact trivial | refine And.intro (by repeat (first | exact Mem.here | apply Mem.there)) ?_)) (Ct.unit z (Ct.more (by repeat (first | exact Take.nil | apply Take.cons (by repeat (first | exact Del.here | apply Del.there)))) (kept1_ct b z bb p.k9 L cL a [c] hm 70 en70 (b.guard a c) (guardT b a c).1 fun i hi => ?_)) rfl rfl)⟩
    rw [(guardT b a c).2 i hi]
    exact dguard_ct b z bb L cL a c i (findK_some hi).1
  · obtain ⟨a, rfl⟩ := len1 hl
    refine ⟨_, [ptr p.k10], rfl, en84, Ct.facts (pre := [.rd L (i64s [a])]) (by repeat (first | exact trivial | refine And.intro (by repeat (first | exact Mem.here | apply Mem.there)) ?_)) (Ct.unit z (Ct.more (by repeat (first | exact Take.nil | apply Take.cons (by repeat (first | exact Del.here | apply Del.there)))) (kept1_ct b z bb p.k10 L cL a [] hm 71 en71 (b.compl a) (complT b a).1 fun i hi => ?_)) rfl rfl)⟩
    rw [(complT b a).2 i hi]
    exact dcompl_ct b z bb L cL a i (findK_some hi).1
  · obtain ⟨a, c, rfl⟩ := len2 hl
    exact ⟨_, [], rfl, en72, Ct.facts (pre := [.rd L (i64s [a, c])]) (by repeat (first | exact trivial | refine And.intro (by repeat (first | exact Mem.here | apply Mem.there)) ?_)) (Ct.unit z (Ct.more (by repeat (first | exact Take.nil | apply Take.cons (by repeat (first | exact Del.here | apply Del.there)))) (dstart_ct b z bb L cL a c)) rfl rfl)⟩
  · obtain rfl := len0 hl
    exact ⟨_, [ptr p.k12], rfl, en86, Ct.facts (pre := [.rd L (i64s [])]) (by repeat (first | exact trivial | refine And.intro (by repeat (first | exact Mem.here | apply Mem.there)) ?_)) (Ct.unit z (Ct.more (by repeat (first | exact Take.nil | apply Take.cons (by repeat (first | exact Del.here | apply Del.there)))) (active1_ct b z bb p.k12 L cL [] 75 en75 b.cancel b.canc rfl fun _ => dcanc_ct b z bb L cL)) rfl rfl)⟩
  · obtain rfl := len0 hl
    exact ⟨_, [ptr p.k13], rfl, en86, Ct.facts (pre := [.rd L (i64s [])]) (by repeat (first | exact trivial | refine And.intro (by repeat (first | exact Mem.here | apply Mem.there)) ?_)) (Ct.unit z (Ct.more (by repeat (first | exact Take.nil | apply Take.cons (by repeat (first | exact Del.here | apply Del.there)))) (active1_ct b z bb p.k13 L cL [] 76 en76 _ b.roll rfl fun _ => droll_ct b z bb L cL)) rfl rfl)⟩
  · obtain rfl := len0 hl
    exact ⟨_, [ptr p.k15], rfl, en86, Ct.facts (pre := [.rd L (i64s [])]) (by repeat (first | exact trivial | refine And.intro (by repeat (first | exact Mem.here | apply Mem.there)) ?_)) (Ct.unit z (Ct.more (by repeat (first | exact Take.nil | apply Take.cons (by repeat (first | exact Del.here | apply Del.there)))) (active1_ct b z bb p.k15 L cL [] 78 en78 _ b.go1 rfl fun _ => dgo_ct b z bb L cL)) rfl rfl)⟩
end Go.Proofs.YtcppphgpbaablaaDoor
