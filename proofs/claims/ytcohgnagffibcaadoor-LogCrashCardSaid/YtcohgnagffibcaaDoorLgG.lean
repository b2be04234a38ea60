/-
The law LogCrash.
-/
import Derived.Test.YtcohgnagffibcaaDoorLgE
import Derived.Test.YtcohgnagffibcaaDoorLgF
namespace Go.Proofs.YtcohgnagffibcaaDoor
set_option linter.unusedVariables false
open Go.RowKit
attribute [local irreducible] Res.blk Res.row Fact.rd
theorem rright_any (r : Rc) (x : AdC) : Ct Tryd.prog 22 [r.v x] [] [.rd x.1 (i64s r.l)] (fun _ : Unit => .bool r.ok) (fun _ => []) (fun _ => []) := by
  obtain ⟨A, cA⟩ := x
  have hno : okLen r.k.toNat r.l.length = false → r.ok = false := fun h => by rw [Rc.ok, h]; rfl
  have hlo : ¬ (1 ≤ r.k.toNat ∧ r.k.toNat < 17) → rlo r.k.toNat = -1 ∧ rhi r.k.toNat = -1 := fun h => ⟨if_neg h, if_neg h⟩
  have hyl : 1 ≤ r.k.toNat ∧ r.k.toNat < 17 → rlo r.k.toNat = ((bndAt r.k.toNat).1 : Int) ∧ rhi r.k.toNat = ((bndAt r.k.toNat).2 : Int) := fun h => ⟨if_pos h, if_pos h⟩
  refine Ct.of _ Tryd.func22 Tryd.ntmps22 rfl rfl (fun X W => ?_)
  refine Jc.seq ?_
  refine Jc.region ?_
  refine Jl.box rfl (by rfl) ?_
  intro b1
  refine Jl.pv (PR.assign rfl) ?_
  refine Jl.nil ?_
  refine Jq.thenN ?_
  refine Jc.seq ?_
  refine Jc.region ?_
  refine Jl.pv (PR.fieldAddr rfl tfl43_0) ?_
  refine Jl.pv (PR.load1 rfl tsh5 (by repeat (first | exact Has.here | apply Has.there)) (by rfl)) ?_
  refine Jl.call (rmany_ct r.k.toNat) en37 (by rfl) (by repeat (first | exact Take.nil | apply Take.cons (by repeat (first | exact Del.here | apply Del.there)))) (by repeat (first | exact trivial | refine And.intro (by repeat (first | exact Mem.here | apply Mem.there)) ?_)) ?_
  rintro ⟨⟩
  refine Jl.pv (PR.move rfl) ?_
  refine Jl.pv (PR.extract rfl (by rfl)) ?_
  refine Jl.pv (PR.extract rfl (by rfl)) ?_
  refine Jl.pv (PR.assign rfl) ?_
  refine Jl.pv (PR.assign rfl) ?_
  refine Jl.nil ?_
  refine Jq.thenN ?_
  refine Jc.seq ?_
  refine Jc.seq ?_
  refine Jc.region ?_
  refine Jl.pv (PR.move rfl) ?_
  refine Jl.pv (PR.lss _ rfl rfl rfl) ?_
  refine Jl.pv (PR.move rfl) ?_
  refine Jl.bsplit (fun g14 => ?_) (fun g14 => ?_)
  · try replace g14 := of_decide_eq_true g14
    have hro : r.ok = false := hno (by rw [Bool.eq_false_iff, ne_eq, okLen_iff]; intro h; have := hyl h.1; omega)
    refine Jl.offS rfl rfl rfl ?_
    refine Jl.offS rfl rfl rfl ?_
    refine Jl.offS rfl rfl rfl ?_
    refine Jl.offS rfl rfl rfl ?_
    refine Jl.offS rfl rfl rfl ?_
    refine Jl.pv (PR.pickT rfl rfl) ?_
    refine Jl.pv (PR.move rfl) ?_
    refine Jl.offS rfl rfl rfl ?_
    refine Jl.offS rfl rfl rfl ?_
    refine Jl.offS rfl rfl rfl ?_
    refine Jl.offS rfl rfl rfl ?_
    refine Jl.offS rfl rfl rfl ?_
    refine Jl.pv (PR.pickT rfl rfl) ?_
    refine Jl.nil ?_
    refine Jq.thenN ?_
    refine Jc.condT rfl ?_
    refine Jc.seq ?_
    refine Jc.region ?_
    refine Jl.pv (PR.assign rfl) ?_
    refine Jl.nil ?_
    refine Jq.thenN ?_
    refine Jc.ret ?_
    refine Jq.thenR ?_
    exact Jq.fin () (.inl rfl) rfl (RetVs.tmp rfl RetVs.nil) (by rw [hro]; rfl) (by repeat (first | exact Take.nil | apply Take.cons (by repeat (first | exact Del.here | apply Del.there)))) (by repeat (first | exact trivial | refine And.intro (by repeat (first | exact Mem.here | apply Mem.there)) ?_))
  · try replace g14 := of_decide_eq_false g14
    have hin : 1 ≤ r.k.toNat ∧ r.k.toNat < 17 := Decidable.byContradiction fun h => by have := hlo h; omega
    have hy := hyl hin
    refine Jl.on rfl rfl ?_
    refine Jl.pv (PR.fieldAddr rfl tfl43_1) ?_
    refine Jl.on rfl rfl ?_
    refine Jl.pv (PR.load1 rfl tsh41 (by repeat (first | exact Has.here | apply Has.there)) (by rfl)) ?_
    refine Jl.on rfl rfl ?_
    refine Jl.pv (PR.len rfl tsl41) ?_
    refine Jl.on rfl rfl ?_
    refine Jl.pv (PR.move rfl) ?_
    refine Jl.on rfl rfl ?_
    refine Jl.pv (PR.lss _ rfl rfl rfl) ?_
    refine Jl.pv (PR.pickF rfl rfl) ?_
    refine Jl.pv (PR.move rfl) ?_
    refine Jl.bsplit (fun g21 => ?_) (fun g21 => ?_)
    · try replace g21 := of_decide_eq_true g21
      have hro : r.ok = false := hno (by rw [Bool.eq_false_iff, ne_eq, okLen_iff]; omega)
      refine Jl.offS rfl rfl rfl ?_
      refine Jl.offS rfl rfl rfl ?_
      refine Jl.offS rfl rfl rfl ?_
      refine Jl.offS rfl rfl rfl ?_
      refine Jl.offS rfl rfl rfl ?_
      refine Jl.pv (PR.pickT rfl rfl) ?_
      refine Jl.nil ?_
      refine Jq.thenN ?_
      refine Jc.condT rfl ?_
      refine Jc.seq ?_
      refine Jc.region ?_
      refine Jl.pv (PR.assign rfl) ?_
      refine Jl.nil ?_
      refine Jq.thenN ?_
      refine Jc.ret ?_
      refine Jq.thenR ?_
      exact Jq.fin () (.inl rfl) rfl (RetVs.tmp rfl RetVs.nil) (by rw [hro]; rfl) (by repeat (first | exact Take.nil | apply Take.cons (by repeat (first | exact Del.here | apply Del.there)))) (by repeat (first | exact trivial | refine And.intro (by repeat (first | exact Mem.here | apply Mem.there)) ?_))
    · try replace g21 := of_decide_eq_false g21
      refine Jl.on rfl rfl ?_
      refine Jl.pv (PR.fieldAddr rfl tfl43_1) ?_
      refine Jl.on rfl rfl ?_
      refine Jl.pv (PR.load1 rfl tsh41 (by repeat (first | exact Has.here | apply Has.there)) (by rfl)) ?_
      refine Jl.on rfl rfl ?_
      refine Jl.pv (PR.len rfl tsl41) ?_
      refine Jl.on rfl rfl ?_
      refine Jl.pv (PR.move rfl) ?_
      refine Jl.on rfl rfl ?_
      refine Jl.pv (PR.gtr _ rfl rfl rfl) ?_
      refine Jl.pv (PR.pickF rfl rfl) ?_
      refine Jl.nil ?_
      refine Jq.thenN ?_
      refine Jc.cond rfl (fun h0 => ?_) (fun h0 => ?_)
      · try replace h0 := of_decide_eq_true h0
        have hro : r.ok = false := hno (by rw [Bool.eq_false_iff, ne_eq, okLen_iff]; omega)
        refine Jc.seq ?_
        refine Jc.region ?_
        refine Jl.pv (PR.assign rfl) ?_
        refine Jl.nil ?_
        refine Jq.thenN ?_
        refine Jc.ret ?_
        refine Jq.thenR ?_
        exact Jq.fin () (.inl rfl) rfl (RetVs.tmp rfl RetVs.nil) (by rw [hro]; rfl) (by repeat (first | exact Take.nil | apply Take.cons (by repeat (first | exact Del.here | apply Del.there)))) (by repeat (first | exact trivial | refine And.intro (by repeat (first | exact Mem.here | apply Mem.there)) ?_))
      · try replace h0 := of_decide_eq_false h0
        have hol : okLen r.k.toNat r.l.length = true := okLen_iff.2 ⟨hin, by omega⟩
        have hn : r.l.length ≤ 1000000 := by have h1 := okLen_iff.1 hol; have h2 := bnd_le hin.2; omega
        refine Jc.skip ?_
        refine Jq.thenN ?_
        refine Jc.seq ?_
        refine Jc.seq ?_
        refine Jc.region ?_
        refine Jl.pv (PR.assign rfl) ?_
        refine Jl.nil ?_
        refine Jq.thenN ?_
        refine Jc.block ?_
        refine Jc.loop (σ := { k : Nat // k ≤ r.l.length ∧ ∀ j, j < k → fineN (r.l.getD j 0) = true }) (fun s => [(5, .int .i64 (s.1 : Int)), (1, .pointer (some ⟨b1, 0, none⟩))]) (fun _ => [.blk b1 43 (r.cs (A, cA))]) (fun _ => [.rd A (i64s r.l)]) (fun s => r.l.length - s.1) ⟨0, Nat.zero_le _, fun _ h => by omega⟩ (by repeat (first | exact trivial | refine And.intro rfl ?_)) rfl (by repeat (first | exact trivial | refine And.intro (by repeat (first | exact Mem.here | apply Mem.there)) ?_)) ?_
        rintro ⟨k, hk, hI⟩
        show Jc _ _ _ _ _ _ [(5, Value.int .i64 (k : Int)), (1, .pointer (some ⟨b1, 0, none⟩))] [.blk b1 43 (r.cs (A, cA))] [.rd A (i64s r.l)]
        refine Jc.seq ?_
        refine Jc.seq ?_
        refine Jc.region ?_
        refine Jl.pv (PR.move rfl) ?_
        refine Jl.pv (PR.fieldAddr rfl tfl43_1) ?_
        refine Jl.pv (PR.load1 rfl tsh41 (by repeat (first | exact Has.here | apply Has.there)) (by rfl)) ?_
        refine Jl.pv (PR.len rfl tsl41) ?_
        refine Jl.pv (PR.lss _ rfl rfl rfl) ?_
        refine Jl.nil ?_
        refine Jq.thenN ?_
        refine Jc.cond rfl (fun h1 => ?_) (fun h1 => ?_)
        · try replace h1 := of_decide_eq_true h1
          have hlt : k < r.l.length := by omega
          refine Jc.skip ?_
          refine Jq.thenN ?_
          refine Jc.seq ?_
          refine Jc.block ?_
          refine Jc.seq ?_
          refine Jc.region ?_
          refine Jl.pv (PR.fieldAddr rfl tfl43_1) ?_
          refine Jl.pv (PR.load1 rfl tsh41 (by repeat (first | exact Has.here | apply Has.there)) (by rfl)) ?_
          refine Jl.pv (PR.move rfl) ?_
          refine Jl.pv (PR.idx1 k rfl rfl tsl41 (by repeat (first | exact Mem.here | apply Mem.there)) (by simp) rfl hlt) ?_
          refine Jl.pv (PR.loadR rfl tsh3 (by repeat (first | exact Mem.here | apply Mem.there)) (getd hlt)) ?_
          refine Jl.pv (PR.lss _ rfl rfl rfl) ?_
          refine Jl.pv (PR.move rfl) ?_
          refine Jl.bsplit (fun g41 => ?_) (fun g41 => ?_)
          · try replace g41 := of_decide_eq_true g41
            have hro : r.ok = false := by rw [Bool.eq_false_iff]; intro h; have := (Rc.ok_iff.1 h).2 (r.l.getD k 0) (by rw [getDE hlt]; exact List.getElem_mem _); simp only [fineN, Bool.and_eq_true, decide_eq_true_eq] at this; omega
            refine Jl.offS rfl rfl rfl ?_
            refine Jl.offS rfl rfl rfl ?_
            refine Jl.offS rfl rfl rfl ?_
            refine Jl.offS rfl rfl rfl ?_
            refine Jl.offS rfl rfl rfl ?_
            refine Jl.offS rfl rfl rfl ?_
            refine Jl.pv (PR.pickT rfl rfl) ?_
            refine Jl.nil ?_
            refine Jq.thenN ?_
            refine Jc.condT rfl ?_
            refine Jc.seq ?_
            refine Jc.region ?_
            refine Jl.pv (PR.assign rfl) ?_
            refine Jl.nil ?_
            refine Jq.thenN ?_
            refine Jc.ret ?_
            refine Jq.blkR ?_
            refine Jq.thenR ?_
            refine Jq.thenR ?_
            refine Jq.blkR ?_
            refine Jq.thenR ?_
            exact Jq.fin () (.inl rfl) rfl (RetVs.tmp rfl RetVs.nil) (by rw [hro]; rfl) (by repeat (first | exact Take.nil | apply Take.cons (by repeat (first | exact Del.here | apply Del.there)))) (by repeat (first | exact trivial | refine And.intro (by repeat (first | exact Mem.here | apply Mem.there)) ?_))
          · try replace g41 := of_decide_eq_false g41
            refine Jl.on rfl rfl ?_
            refine Jl.pv (PR.fieldAddr rfl tfl43_1) ?_
            refine Jl.on rfl rfl ?_
            refine Jl.pv (PR.load1 rfl tsh41 (by repeat (first | exact Has.here | apply Has.there)) (by rfl)) ?_
            refine Jl.on rfl rfl ?_
            refine Jl.pv (PR.move rfl) ?_
            refine Jl.on rfl rfl ?_
            refine Jl.pv (PR.idx1 k rfl rfl tsl41 (by repeat (first | exact Mem.here | apply Mem.there)) (by simp) rfl hlt) ?_
            refine Jl.on rfl rfl ?_
            refine Jl.pv (PR.loadR rfl tsh3 (by repeat (first | exact Mem.here | apply Mem.there)) (getd hlt)) ?_
            refine Jl.on rfl rfl ?_
            refine Jl.pv (PR.gtr _ rfl rfl rfl) ?_
            refine Jl.pv (PR.pickF rfl rfl) ?_
            refine Jl.nil ?_
            refine Jq.thenN ?_
            refine Jc.cond rfl (fun h2 => ?_) (fun h2 => ?_)
            · try replace h2 := of_decide_eq_true h2
              have hro : r.ok = false := by rw [Bool.eq_false_iff]; intro h; have := (Rc.ok_iff.1 h).2 (r.l.getD k 0) (by rw [getDE hlt]; exact List.getElem_mem _); simp only [fineN, Bool.and_eq_true, decide_eq_true_eq] at this; omega
              refine Jc.seq ?_
              refine Jc.region ?_
              refine Jl.pv (PR.assign rfl) ?_
              refine Jl.nil ?_
              refine Jq.thenN ?_
              refine Jc.ret ?_
              refine Jq.blkR ?_
              refine Jq.thenR ?_
              refine Jq.thenR ?_
              refine Jq.blkR ?_
              refine Jq.thenR ?_
              exact Jq.fin () (.inl rfl) rfl (RetVs.tmp rfl RetVs.nil) (by rw [hro]; rfl) (by repeat (first | exact Take.nil | apply Take.cons (by repeat (first | exact Del.here | apply Del.there)))) (by repeat (first | exact trivial | refine And.intro (by repeat (first | exact Mem.here | apply Mem.there)) ?_))
            · try replace h2 := of_decide_eq_false h2
              refine Jc.skip ?_
              refine Jq.blkN ?_
              refine Jq.thenN ?_
              refine Jc.region ?_
              refine Jl.pv (PR.move rfl) ?_
              refine Jl.pv (PR.add ((k + 1 : Nat) : Int) rfl rfl (by rw [w64 (by omega) (by omega)]; rfl)) ?_
              refine Jl.pv (PR.assign rfl) ?_
              refine Jl.nil ?_
              refine Jq.again ⟨k + 1, hlt, fun j hj => (Nat.lt_succ_iff_lt_or_eq.1 hj).elim (hI j) (fun e => by rw [e]; simp only [fineN, Bool.and_eq_true, decide_eq_true_eq]; omega)⟩ (by simp only; omega) (by repeat (first | exact trivial | refine And.intro rfl ?_)) rfl (by repeat (first | exact trivial | refine And.intro (by repeat (first | exact Mem.here | apply Mem.there)) ?_))
        · try replace h1 := of_decide_eq_false h1
          have hro : r.ok = true := Rc.ok_iff.2 ⟨hol, fun n hn => by
            obtain ⟨j, hj, rfl⟩ := List.mem_iff_getElem.1 hn
            rw [← getDE hj]; exact hI j (by omega)⟩
          refine Jc.exit ?_
          refine Jq.thenX ?_
          refine Jq.thenX ?_
          refine Jq.blkX ?_
          refine Jq.thenN ?_
          refine Jc.seq ?_
          refine Jc.region ?_
          refine Jl.pv (PR.assign rfl) ?_
          refine Jl.nil ?_
          refine Jq.thenN ?_
          refine Jc.ret ?_
          exact Jq.fin () (.inl rfl) rfl (RetVs.tmp rfl RetVs.nil) (by rw [hro]; rfl) (by repeat (first | exact Take.nil | apply Take.cons (by repeat (first | exact Del.here | apply Del.there)))) (by repeat (first | exact trivial | refine And.intro (by repeat (first | exact Mem.here | apply Mem.there)) ?_))
theorem recB_ok {r : Rc} (h : r.ok = true) : (recB r).length ≤ 214 := by
  have h1 := Rc.ok_len h
  have h2 := putB_len (r.bytes.length : Int)
  have h3 : r.bytes.length ≤ 200 := by
    rw [Rc.bytes, if_pos h, rowsB, List.length_append]
    have h4 := putB_len (r.nums.length : Int)
    have h5 := flat_len r.nums
    have h6 : r.nums.length ≤ 19 := by simp [Rc.nums]; omega
    omega
  simp [recB, frameB, sumB]; omega
theorem recsB_ok : ∀ {l : List Rc}, (∀ r ∈ l, r.ok = true) → (recsB l).length ≤ 214 * l.length
  | [], _ => by simp [recsB]
  | r :: l, h => by
    have h1 := recsB_ok (l := l) fun x hx => h x (List.mem_cons_of_mem _ hx)
    have h2 := recB_ok (h r List.mem_cons_self)
    simp only [recsB, List.flatMap_cons, List.length_append, List.length_cons] at h1 ⊢
    omega
/-- The disk behind k records, su of them safe. -/
def crD (L : List Rc) (k su : Nat) : Dk := ⟨recsB (L.take k), ((recsB (L.take su)).length : Nat), 9000⟩
theorem crD0 (L : List Rc) : Dk.new 9000 = crD L 0 0 := by simp [Dk.new, crD, recsB]; decide
theorem nq {a b : Int} (h : a = b) : decide (a ≠ b) = false := by simp [h]
theorem recs_mono (L : List Rc) {a b : Nat} (h : a ≤ b) : (recsB (L.take a)).length ≤ (recsB (L.take b)).length := by
  have e : L.take b = L.take a ++ (L.take b).drop a := by
    conv => lhs; rw [← List.take_append_drop a (L.take b), List.take_take, Nat.min_eq_left h]
  rw [e, recsB_app, List.length_append]; omega
theorem recs_take {L : List Rc} (k : Nat) (hL : L.length ≤ 30) (h : ∀ r ∈ L.take k, r.ok = true) : (recsB (L.take k)).length ≤ 6420 := by
  have h1 := recsB_ok h
  have h2 : (L.take k).length ≤ 30 := by rw [List.length_take]; omega
  omega
theorem crD_ok {L : List Rc} {k su : Nat} (hL : L.length ≤ 30) (h : ∀ r ∈ L.take k, r.ok = true) (hs : su ≤ k) : (crD L k su).ok := by
  have h1 := recs_take k hL h
  have h2 := recs_mono L hs
  refine ⟨?_, ?_, ?_, ?_⟩ <;> simp only [crD] <;> omega
theorem ok_succ {L : List Rc} {k : Nat} (h : ∀ r ∈ L.take k, r.ok = true) (hk : k < L.length) (h2 : L[k].ok = true) : ∀ r ∈ L.take (k + 1), r.ok = true := by
  rw [List.take_succ_eq_append_getElem hk]
  intro r hr
  rcases List.mem_append.1 hr with hr | hr
  · exact h r hr
  · rw [List.mem_singleton.1 hr]; exact h2
theorem crD_add {L : List Rc} {k su : Nat} (zs : Rcs) (hL : L.length ≤ 30) (hk : k < L.length) (h : ∀ r ∈ L.take (k + 1), r.ok = true) (hs : su ≤ k) (hz : rcsN zs = [L[k]]) : addD (crD L k su) zs = crD L (k + 1) su ∧ addE (crD L k su) zs = 0 := by
  have hok : ∀ r ∈ L.take k, r.ok = true := fun r hr => h r (by rw [List.take_succ_eq_append_getElem hk]; exact List.mem_append_left _ hr)
  have ho := Dk.ok_own (crD_ok hL hok hs)
  have hr : recsB (L.take (k + 1)) = recsB (L.take k) ++ recsB [L[k]] := by rw [List.take_succ_eq_append_getElem hk, recsB_app]
  have hl := recs_take (k + 1) hL h
  have ha : okAll zs = true := okAll_rcs.2 (by
    rw [hz]; intro r hr
    rw [List.mem_singleton.1 hr]
    exact h _ (by rw [List.take_succ_eq_append_getElem hk]; exact List.mem_append_right _ (List.mem_singleton.2 rfl)))
  have hf : (crD L k su).fits (recsB (rcsN zs)) := by
    unfold Dk.fits
    rw [ho, hz]
    show ((recsB (L.take k) ++ recsB [L[k]]).length : Int) ≤ 9000
    rw [← hr]; omega
  rw [addD, addE, if_pos ha, if_pos ha, Dk.app, Dk.appE, if_pos hf, if_pos hf, ho, hz]
  refine ⟨?_, rfl⟩
  show (⟨recsB (L.take k) ++ recsB [L[k]], _, _⟩ : Dk) = ⟨recsB (L.take (k + 1)), _, _⟩
  rw [hr]; rfl
theorem crD_sync {L : List Rc} {k su : Nat} (hL : L.length ≤ 30) (h : ∀ r ∈ L.take k, r.ok = true) (hs : su ≤ k) : (crD L k su).sync = crD L k k := by
  rw [Dk.sync, Dk.ok_own (crD_ok hL h hs)]; rfl
/-- What a crash leaves. -/
theorem crash_facts {L : List Rc} {su : Nat} (keep : Int) (hL : L.length ≤ 30) (h : ∀ r ∈ L, r.ok = true) (hs : su ≤ L.length) :
    ∃ N, (scanN ((crD L L.length su).crash keep).own.b).length = N ∧ su ≤ N ∧ N ≤ L.length ∧ logN ((crD L L.length su).crash keep).own.b = L.take N ∧ (100000 < keep → N = L.length) ∧ ((crD L L.length su).crash keep).own.r = 9000 := by
  have htk : L.take L.length = L := List.take_of_length_le (Nat.le_refl _)
  have h' : ∀ r ∈ L.take L.length, r.ok = true := by rw [htk]; exact h
  have hko := crD_ok hL h' hs
  have ho := Dk.ok_own hko
  have hco := Dk.ok_own ((crD L L.length su).crash_ok keep)
  have hb : ((crD L L.length su).crash keep).own.b = (recsB L).take ((crD L L.length su).left keep) := by
    rw [hco]
    show (crD L L.length su).own.b.take _ = _
    rw [ho]
    show (recsB (L.take L.length)).take _ = _
    rw [htk]
  have hle := (crD L L.length su).left_eq keep
  rw [ho] at hle
  have hle2 : ((crD L L.length su).left keep : Int) = ((recsB (L.take su)).length : Nat) + min (max keep 0) ((recsB L).length - ((recsB (L.take su)).length : Nat)) := by
    have : (crD L L.length su).b = recsB L := by show recsB (L.take L.length) = _; rw [htk]
    rw [← this]; exact hle
  have hmo : (recsB (L.take su)).length ≤ (recsB L).length := by
    have := recs_mono L hs
    rwa [htk] at this
  have hln := log_put0 h
  have hlen : (recsB L).length ≤ 6420 := by have := recs_take L.length hL h'; rwa [htk] at this
  obtain ⟨j, hj⟩ : ∃ j, j = (crD L L.length su).left keep := ⟨_, rfl⟩
  rw [← hj] at hb hle2
  refine ⟨_, rfl, ?_, ?_, ?_, ?_, by rw [hco]; show (crD L L.length su).own.r = 9000; rw [ho]; rfl⟩
  · rw [hb, scanN_log]
    have e : recsB L = recsB (L.take su) ++ recsB (L.drop su) := by rw [← recsB_app, List.take_append_drop]
    have hok2 : ∀ r ∈ L.take su, r.ok = true := fun r hr => h r (List.mem_of_mem_take hr)
    rw [e, List.take_append, List.take_of_length_le (by omega), log_put hok2, List.length_append, List.length_take]
    omega
  · rw [hb]
    have h5 := (log_pre' (recsB L) j).2
    rw [scanN_log (recsB L), hln] at h5
    exact h5
  · rw [hb]
    have h5 := (log_pre' (recsB L) j).1
    rw [hln] at h5
    exact h5.symm
  · intro hk
    rw [hb, List.take_of_length_le (by omega), scanN_log, hln]
/-- One more record behind what was left. -/
theorem more_facts {D : Dk} {L : List Rc} {N : Nat} {zs : Rcs} {rc : Rc} (hL : L.length ≤ 30) (h : ∀ r ∈ L, r.ok = true) (hN : N ≤ L.length) (hD : logN D.own.b = L.take N) (hr : D.own.r = 9000) (hz : rcsN zs = [rc]) (hrc : rc.ok = true) :
    addE (openD D) zs = 0 ∧ logN (addD (openD D) zs).own.b = L.take N ++ [rc] ∧ (addD (openD D) zs).b.length ≤ 9000 := by
  have hok : ∀ r ∈ L.take N, r.ok = true := fun r hr => h r (List.mem_of_mem_take hr)
  have ho := openD_own D
  have hb : (openD D).b = recsB (L.take N) := by
    show D.own.b.take (logU D.own.b) = _
    rw [log_take, hD]
  have ha : okAll zs = true := okAll_rcs.2 (by rw [hz]; intro r hr; rw [List.mem_singleton.1 hr]; exact hrc)
  have hl := recs_take N hL hok
  have hl2 : (recsB [rc]).length ≤ 214 := by have := recB_ok hrc; simpa [recsB] using this
  have hf : (openD D).fits (recsB (rcsN zs)) := by
    unfold Dk.fits
    rw [ho, hz, List.length_append, hb]
    show ((_ : Nat) : Int) ≤ D.own.r
    rw [hr]; omega
  have e : addD (openD D) zs = ⟨recsB (L.take N) ++ recsB [rc], (openD D).s, (openD D).r⟩ := by
    rw [addD, if_pos ha, Dk.app, if_pos hf, ho, hz, hb]
  have e2 : (addD (openD D) zs).own = addD (openD D) zs := by
    refine Dk.ok_own ?_
    rw [addD, if_pos ha]; exact Dk.app_ok _ _
  refine ⟨by rw [addE, if_pos ha, Dk.appE, if_pos hf], ?_, ?_⟩
  · rw [e2, e]
    show logN (recsB (L.take N) ++ recsB [rc]) = _
    rw [log_put hok, log_put0 (by intro r hr; rw [List.mem_singleton.1 hr]; exact hrc)]
  · rw [e]
    show (recsB (L.take N) ++ recsB [rc]).length ≤ 9000
    rw [List.length_append]; omega
theorem add_at {d d2 : Dk} {x : AdC} {L : Option Addr} {cL n : Nat} {e : Int} (zs : Rcs) (mm : Nat → AdC) (hz : zs.length = n) (h1 : addD d zs = d2) (h2 : addE d zs = e) (hd : d.b.length ≤ 500000) (hc : d.b.length ≤ x.2) (hn : n ≤ 90) (hl : ∀ z ∈ zs, z.2.l.length ≤ 1000000) :
    Ct Tryd.prog 12 [d.v x, .slice L n cL] [] [.rd x.1 (u8s d.b), .rd L (rcsV zs), .rcs zs, .many mm] (fun y : AdC => .tuple #[d2.v y, .int .i64 e]) (fun y => [d2.row y]) (fun _ => []) := by
  subst hz h1 h2; exact add_ct d x L cL zs mm hd hc hn hl
theorem rsync_at {A : Option Addr} {c : Nat} {d d2 : Dk} (h : d.sync = d2) (hn : d.b.length ≤ 500000) (hc : d.b.length ≤ c) :
    Ct Tryd.prog 24 [d.v (A, c)] [] [.rd A (u8s d.b)] d2.v (fun x => [d2.row x]) (fun _ => []) := by
  subst h; exact rsync_ct A c d hn hc
theorem crash_at' {A : Option Addr} {c : Nat} {d d2 : Dk} {keep : Int} (h : d.crash keep = d2) (hn : d.b.length ≤ 500000) (hc : d.b.length ≤ c) :
    Ct Tryd.prog 25 [d.v (A, c), .int .i64 keep] [] [.rd A (u8s d.b)] d2.v (fun x => [d2.row x]) (fun _ => []) := by
  subst h; exact rcrash_ct A c d keep hn hc
structure CrS (l : Rcs) where
  k : Nat
  su : Nat
  x : AdC
  hk : k ≤ l.length
  hs : su ≤ k
  ok : ∀ r ∈ (rcsN l).take k, r.ok = true
  hx : (crD (rcsN l) k su).b.length ≤ x.2
theorem logCrash_ct (l : Rcs) (x : AdC) (sf keep : Int) (y : AdC) (rc : Rc) (mm : Nat → AdC) (hcx : l.length ≤ x.2) : Ct Tryd.prog 4 [.slice x.1 l.length x.2, .int .u32 sf, .int .i64 keep, rc.v y] [] [.rd x.1 (rcsV l), .rcs l, .rd y.1 (i64s rc.l), .many mm] (fun _ : Unit => .bool true) (fun _ => []) (fun _ => []) := by
  obtain ⟨L, cL⟩ := x
  have hcx' : l.length ≤ cL := hcx
  have hv := rcsV_len l
  have hrn := rcsN_len l
  refine Ct.of _ Tryd.func4 Tryd.ntmps4 rfl rfl (fun X W => ?_)
  refine Jc.seq ?_
  refine Jc.region ?_
  refine Jl.box rfl (by rfl) ?_
  intro b7
  refine Jl.pv (PR.assign rfl) ?_
  refine Jl.nil ?_
  refine Jq.thenN ?_
  refine Jc.seq ?_
  refine Jc.seq ?_
  refine Jc.region ?_
  refine Jl.pv (PR.build (by rfl) tze24 tpl24_ (by rfl)) ?_
  refine Jl.pv (PR.move rfl) ?_
  refine Jl.call (lgreat_ct ⟨[], 0, 0⟩ nA L cL l) en8 (by rfl) (by repeat (first | exact Take.nil | apply Take.cons (by repeat (first | exact Del.here | apply Del.there)))) (by repeat (first | exact trivial | refine And.intro (by repeat (first | exact Mem.here | apply Mem.there)) ?_)) ?_
  rintro ⟨⟩
  refine Jl.pv (PR.move rfl) ?_
  refine Jl.bsplit (fun g23 => ?_) (fun g23 => ?_)
  · try replace g23 := of_decide_eq_true g23
    refine Jl.offS rfl rfl rfl ?_
    refine Jl.offS rfl rfl rfl ?_
    refine Jl.offS rfl rfl rfl ?_
    refine Jl.pv (PR.pickT rfl rfl) ?_
    refine Jl.nil ?_
    refine Jq.thenN ?_
    refine Jc.condT rfl ?_
    refine Jc.seq ?_
    refine Jc.region ?_
    refine Jl.call (lgwakes_ct mm) en9 (by rfl) (by repeat (first | exact Take.nil | apply Take.cons (by repeat (first | exact Del.here | apply Del.there)))) (by repeat (first | exact trivial | refine And.intro (by repeat (first | exact Mem.here | apply Mem.there)) ?_)) ?_
    rintro ⟨⟩
    refine Jl.pv (PR.assign rfl) ?_
    refine Jl.nil ?_
    refine Jq.thenN ?_
    refine Jc.ret ?_
    refine Jq.thenR ?_
    exact Jq.fin () (.inl rfl) rfl (RetVs.tmp rfl RetVs.nil) rfl (by repeat (first | exact Take.nil | apply Take.cons (by repeat (first | exact Del.here | apply Del.there)))) (by repeat (first | exact trivial | refine And.intro (by repeat (first | exact Mem.here | apply Mem.there)) ?_))
  · try replace g23 := of_decide_eq_false g23
    refine Jl.on rfl rfl ?_
    refine Jl.pv (PR.loadW rfl tsh43 (by repeat (first | exact Has.here | apply Has.there)) (by rfl)) ?_
    refine Jl.on rfl rfl ?_
    refine Jl.call (rright_any rc y) en22 (by rfl) (by repeat (first | exact Take.nil | apply Take.cons (by repeat (first | exact Del.here | apply Del.there)))) (by repeat (first | exact trivial | refine And.intro (by repeat (first | exact Mem.here | apply Mem.there)) ?_)) ?_
    rintro ⟨⟩
    refine Jl.on rfl rfl ?_
    refine Jl.pv (PR.not rfl) ?_
    refine Jl.pv (PR.pickF rfl rfl) ?_
    refine Jl.nil ?_
    refine Jq.thenN ?_
    refine Jc.cond rfl (fun h0 => ?_) (fun h0 => ?_)
    · try replace h0 := of_decide_eq_true h0
      refine Jc.seq ?_
      refine Jc.region ?_
      refine Jl.call (lgwakes_ct mm) en9 (by rfl) (by repeat (first | exact Take.nil | apply Take.cons (by repeat (first | exact Del.here | apply Del.there)))) (by repeat (first | exact trivial | refine And.intro (by repeat (first | exact Mem.here | apply Mem.there)) ?_)) ?_
      rintro ⟨⟩
      refine Jl.pv (PR.assign rfl) ?_
      refine Jl.nil ?_
      refine Jq.thenN ?_
      refine Jc.ret ?_
      refine Jq.thenR ?_
      exact Jq.fin () (.inl rfl) rfl (RetVs.tmp rfl RetVs.nil) rfl (by repeat (first | exact Take.nil | apply Take.cons (by repeat (first | exact Del.here | apply Del.there)))) (by repeat (first | exact trivial | refine And.intro (by repeat (first | exact Mem.here | apply Mem.there)) ?_))
    · try replace h0 := of_decide_eq_false h0
      obtain ⟨_, hn, hl⟩ := lgGreat_no g23
      have hrc : rc.ok = true := by simpa using h0
      have hrcl := Rc.ok_len hrc
      have hn' : (rcsN l).length ≤ 30 := by omega
      refine Jc.skip ?_
      refine Jq.thenN ?_
      refine Jc.seq ?_
      refine Jc.region ?_
      refine Jl.call (rnew_ct 9000) en23 (by rfl) (by repeat (first | exact Take.nil | apply Take.cons (by repeat (first | exact Del.here | apply Del.there)))) (by repeat (first | exact trivial | refine And.intro (by repeat (first | exact Mem.here | apply Mem.there)) ?_)) ?_
      rintro ⟨A29, c29⟩
      refine Jl.sealC (by repeat (first | exact Del.here | apply Del.there)) (fun hc29 => ?_)
      rw [crD0 (rcsN l)]
      refine Jl.alloc tze24 ?_
      intro b9
      refine Jl.storeW rfl tsh24 rfl (by rfl) (by simp [Value.oneCell', Dk.cs, Rc.cs]) (by repeat (first | exact Swap.here | apply Swap.there)) (by rfl) ?_
      refine Jl.nil ?_
      refine Jq.thenN ?_
      refine Jc.seq ?_
      refine Jc.region ?_
      refine Jl.pv (PR.assign rfl) ?_
      refine Jl.nil ?_
      refine Jq.thenN ?_
      refine Jc.seq ?_
      refine Jc.seq ?_
      refine Jc.region ?_
      refine Jl.pv (PR.assign rfl) ?_
      refine Jl.nil ?_
      refine Jq.thenN ?_
      refine Jc.block ?_
      refine Jc.loop (σ := CrS l) (fun s => [(11, .int .i64 (s.k : Int)), (10, .int .i64 (s.su : Int)), (9, .pointer (some ⟨b9, 0, none⟩)), (7, .pointer (some ⟨b7, 0, none⟩)), (0, .slice L l.length cL), (1, .int .u32 sf), (2, .int .i64 keep)]) (fun s => [.blk b9 24 ((crD (rcsN l) s.k s.su).cs s.x), .blk b7 43 (rc.cs y)]) (fun s => [.rd s.x.1 (u8s (crD (rcsN l) s.k s.su).b), .rd L (rcsV l), .rcs l, .rd y.1 (i64s rc.l), .many mm]) (fun s => l.length - s.k) ⟨0, 0, (A29, c29), Nat.zero_le _, Nat.le_refl _, fun r hr => by simp at hr, by rw [← crD0]; exact hc29⟩ (by repeat (first | exact trivial | refine And.intro rfl ?_)) rfl (by repeat (first | exact trivial | refine And.intro (by repeat (first | exact Mem.here | apply Mem.there)) ?_)) ?_
      rintro ⟨k, su, ⟨xA, cA⟩, hk, hs, hok, hx⟩
      show Jc _ _ _ _ _ _ [(11, Value.int .i64 (k : Int)), (10, .int .i64 (su : Int)), (9, .pointer (some ⟨b9, 0, none⟩)), (7, .pointer (some ⟨b7, 0, none⟩)), (0, .slice L l.length cL), (1, .int .u32 sf), (2, .int .i64 keep)] [.blk b9 24 ((crD (rcsN l) k su).cs (xA, cA)), .blk b7 43 (rc.cs y)] [.rd xA (u8s (crD (rcsN l) k su).b), .rd L (rcsV l), .rcs l, .rd y.1 (i64s rc.l), .many mm]
      have hbl : (crD (rcsN l) k su).b.length ≤ 6420 := recs_take k hn' hok
      refine Jc.seq ?_
      refine Jc.seq ?_
      refine Jc.region ?_
      refine Jl.pv (PR.move rfl) ?_
      refine Jl.pv (PR.move rfl) ?_
      refine Jl.pv (PR.len rfl tsl25) ?_
      refine Jl.pv (PR.lss _ rfl rfl rfl) ?_
      refine Jl.nil ?_
      refine Jq.thenN ?_
      refine Jc.cond rfl (fun h1 => ?_) (fun h1 => ?_)
      · try replace h1 := of_decide_eq_true h1
        have hlt : k < l.length := by omega
        have hlz := hl _ (List.getElem_mem hlt)
        refine Jc.fact (.rd l[k].1.1 (i64s l[k].2.l)) (φ := .rcs l) (by repeat (first | exact Mem.here | apply Mem.there)) (fun X W h => h _ (List.getElem_mem _)) ?_
        refine Jc.skip ?_
        refine Jq.thenN ?_
        refine Jc.seq ?_
        refine Jc.block ?_
        refine Jc.seq ?_
        refine Jc.seq ?_
        refine Jc.region ?_
        refine Jl.pv (PR.move rfl) ?_
        refine Jl.pv (PR.move rfl) ?_
        refine Jl.pv (PR.idx k rfl rfl tsl25 (by repeat (first | exact Mem.here | apply Mem.there)) (rcsV_len _) (by omega) rfl hlt) ?_
        refine Jl.pv (PR.loadRA rfl tsh43 (by repeat (first | exact Mem.here | apply Mem.there)) (by decide) (rcs_at hlt)) ?_
        refine Jl.call (rright_any l[k].2 l[k].1) en22 (by rfl) (by repeat (first | exact Take.nil | apply Take.cons (by repeat (first | exact Del.here | apply Del.there)))) (by repeat (first | exact trivial | refine And.intro (by repeat (first | exact Mem.here | apply Mem.there)) ?_)) ?_
        rintro ⟨⟩
        refine Jl.pv (PR.not rfl) ?_
        refine Jl.nil ?_
        refine Jq.thenN ?_
        refine Jc.cond rfl (fun h2 => ?_) (fun h2 => ?_)
        · try replace h2 := of_decide_eq_true h2
          refine Jc.seq ?_
          refine Jc.region ?_
          refine Jl.call (lgwakes_ct mm) en9 (by rfl) (by repeat (first | exact Take.nil | apply Take.cons (by repeat (first | exact Del.here | apply Del.there)))) (by repeat (first | exact trivial | refine And.intro (by repeat (first | exact Mem.here | apply Mem.there)) ?_)) ?_
          rintro ⟨⟩
          refine Jl.pv (PR.assign rfl) ?_
          refine Jl.nil ?_
          refine Jq.thenN ?_
          refine Jc.ret ?_
          refine Jq.thenR ?_
          refine Jq.blkR ?_
          refine Jq.thenR ?_
          refine Jq.thenR ?_
          refine Jq.blkR ?_
          refine Jq.thenR ?_
          exact Jq.fin () (.inl rfl) rfl (RetVs.tmp rfl RetVs.nil) rfl (by repeat (first | exact Take.nil | apply Take.cons (by repeat (first | exact Del.here | apply Del.there)))) (by repeat (first | exact trivial | refine And.intro (by repeat (first | exact Mem.here | apply Mem.there)) ?_))
        · try replace h2 := of_decide_eq_false h2
          have hok2 : l[k].2.ok = true := by simpa using h2
          have hok' := ok_succ hok (show k < (rcsN l).length by omega) (by rw [rcsN_at hlt]; exact hok2)
          obtain ⟨ha1, ha2⟩ := crD_add (su := su) [l[k]] hn' (show k < (rcsN l).length by omega) hok' hs (by rw [rcsN_at hlt]; rfl)
          have hbl' : (crD (rcsN l) (k + 1) su).b.length ≤ 6420 := recs_take (k + 1) hn' hok'
          refine Jc.skip ?_
          refine Jq.thenN ?_
          refine Jc.seq ?_
          refine Jc.drawn [0, 0, 0, 6, 14, 30, 63, 127, 255, 255, 0, 1535, 4095] ([(12, false)], []) [⟨[(0, false), (1, false), (2, false), (3, false), (4, false), (5, true), (10, true)], [5], 6⟩, ⟨[(7, false), (8, false), (9, false)], [10], 11⟩] tmx (by kernel_rfl) ?_
          refine Dh.JH.cons ?_
          refine Dh.JB.rd [.blk _ _ _] rfl trivial (by repeat (first | exact Take.nil | apply Take.cons (by repeat (first | exact Del.here | apply Del.there)))) (fun _ => PR.loadW rfl tsh24 Has.here (by rfl)) ?_
          refine Dh.JB.pv rfl trivial (fun _ => PR.move rfl) ?_
          refine Dh.JB.pv rfl trivial (fun _ => PR.move rfl) ?_
          refine Dh.JB.pv rfl trivial (fun _ => PR.idx k rfl rfl tsl25 (by repeat (first | exact Mem.here | apply Mem.there)) (rcsV_len _) (by omega) rfl hlt) ?_
          refine Dh.JB.pv rfl trivial (fun _ => PR.loadRA rfl tsh43 (by repeat (first | exact Mem.here | apply Mem.there)) (by decide) (rcs_at hlt)) ?_
          refine Dh.JB.buildSlice rfl trivial (by rfl) tsl25 tzr25_1 (by rfl) (by rfl) ?_
          refine Dh.JB.alloc rfl trivial tze24 ?_
          refine Dh.JB.nil ?_
          refine Dh.JL.sl rfl (by repeat (first | exact Dh.es_here | apply Dh.es_there)) (fun b49 => ?_)
          refine Dh.JL.nil ?_
          refine Dh.JE.mk rfl (fun _ h => by cases h) (fun C10_6 => ?_)
          refine Jl.seal (by repeat (first | exact Del.here | apply Del.there)) ?_
          refine Jl.fact (.rcs [l[k]]) (φ := .rcs l) (by repeat (first | exact Mem.here | apply Mem.there)) (fun X W h z hz => by rw [List.mem_singleton.1 hz]; exact h _ (List.getElem_mem hlt)) ?_
          refine Jl.call (add_at [l[k]] mm rfl ha1 ha2 (by omega) hx (by simp) (by intro z hz; rw [List.mem_singleton.1 hz]; omega)) en12 (by rfl) (by repeat (first | exact Take.nil | apply Take.cons (by repeat (first | exact Del.here | apply Del.there)))) (by repeat (first | exact trivial | refine And.intro (by repeat (first | exact Mem.here | apply Mem.there)) ?_)) ?_
          rintro ⟨A50, c50⟩
          refine Jl.sealC (by repeat (first | exact Del.here | apply Del.there)) (fun hc50 => ?_)
          refine Jl.nil ?_
          refine Dh.Jq.segV (by repeat (first | exact Dh.FExt.refl | apply Dh.FExt.cons | apply Dh.FExt.app)) ?_ (by repeat (first | exact Dh.KeepL.nil | apply Dh.KeepL.anc (by rfl) | apply Dh.KeepL.keep (by repeat (first | exact Take.nil | apply Take.cons (by repeat (first | exact Del.here | apply Del.there))))))
          refine Dh.JH.cons ?_
          refine Dh.JB.pv rfl trivial (fun _ => PR.move rfl) ?_
          refine Dh.JB.pv rfl trivial (fun _ => PR.extract rfl (by rfl)) ?_
          refine Dh.JB.pv rfl trivial (fun _ => PR.extract rfl (by rfl)) ?_
          refine Dh.JB.nil ?_
          refine Dh.JL.ptr rfl (by repeat (first | exact Dh.es_here | apply Dh.es_there)) (fun b12 => ?_)
          refine Dh.JL.nil ?_
          refine Dh.JE.mk rfl (fun _ h => by cases h) (fun C10_11 => ?_)
          refine Jl.storeW rfl tsh24 rfl (by rfl) (by simp [Value.oneCell', Dk.cs, Rc.cs]) (by repeat (first | exact Swap.here | apply Swap.there)) (by rfl) ?_
          refine Jl.nil ?_
          refine Dh.Jq.segN (by repeat (first | exact Dh.FExt.refl | apply Dh.FExt.cons | apply Dh.FExt.app)) ?_ (by repeat (first | exact Dh.KeepL.nil | apply Dh.KeepL.anc (by rfl) | apply Dh.KeepL.keep (by repeat (first | exact Take.nil | apply Take.cons (by repeat (first | exact Del.here | apply Del.there))))))
          refine Dh.JH.nil ?_
          refine Dh.JB.pv rfl trivial (fun _ => PR.assign rfl) ?_
          refine Dh.JB.nil ?_
          refine Dh.JL.nil ?_
          refine Jq.thenN ?_
          refine Jc.seq ?_
          refine Jc.seq ?_
          refine Jc.region ?_
          refine Jl.pv (PR.move rfl) ?_
          refine Jl.pv (PR.neq false rfl rfl (nq rfl)) ?_
          refine Jl.nil ?_
          refine Jq.thenN ?_
          refine Jc.condF rfl ?_
          refine Jc.skip ?_
          refine Jq.thenN ?_
          refine Jc.seq ?_
          refine Jc.region ?_
          refine Jl.pv (PR.loadW rfl tsh24 (by repeat (first | exact Has.here | apply Has.there)) (by rfl)) ?_
          refine Jl.storeW rfl tsh24 rfl (by rfl) (by simp [Value.oneCell', Dk.cs, Rc.cs]) (by repeat (first | exact Swap.here | apply Swap.there)) (by rfl) ?_
          refine Jl.nil ?_
          refine Jq.thenN ?_
          refine Jc.seq ?_
          refine Jc.region ?_
          refine Jl.pv (PR.move rfl) ?_
          refine Jl.pv (PR.move rfl) ?_
          refine Jl.pv (PR.conv ((k : Nat) : Int) rfl Tryd.underlying3 Tryd.underlying46 (by rw [IntKind.wrap_u64]; omega)) ?_
          refine Jl.pv (PR.shr _ rfl rfl (by simp) rfl) ?_
          refine Jl.pv (PR.and _ rfl rfl rfl) ?_
          refine Jl.pv (PR.eql _ rfl rfl rfl) ?_
          refine Jl.nil ?_
          refine Jq.thenN ?_
          refine Jc.cond rfl (fun h3 => ?_) (fun h3 => ?_)
          · try replace h3 := of_decide_eq_true h3
            refine Jc.seq ?_
            refine Jc.region ?_
            refine Jl.pv (PR.loadW rfl tsh24 (by repeat (first | exact Has.here | apply Has.there)) (by rfl)) ?_
            refine Jl.call (rsync_at (crD_sync hn' hok' (show su ≤ k + 1 by omega)) (by omega) hc50) en24 (by rfl) (by repeat (first | exact Take.nil | apply Take.cons (by repeat (first | exact Del.here | apply Del.there)))) (by repeat (first | exact trivial | refine And.intro (by repeat (first | exact Mem.here | apply Mem.there)) ?_)) ?_
            rintro ⟨A63, c63⟩
            refine Jl.sealC (by repeat (first | exact Del.here | apply Del.there)) (fun hc63 => ?_)
            refine Jl.storeW rfl tsh24 rfl (by rfl) (by simp [Value.oneCell', Dk.cs, Rc.cs]) (by repeat (first | exact Swap.here | apply Swap.there)) (by rfl) ?_
            refine Jl.nil ?_
            refine Jq.thenN ?_
            refine Jc.region ?_
            refine Jl.pv (PR.move rfl) ?_
            refine Jl.pv (PR.add ((k + 1 : Nat) : Int) rfl rfl (by rw [w64 (by omega) (by omega)]; rfl)) ?_
            refine Jl.pv (PR.assign rfl) ?_
            refine Jl.nil ?_
            refine Jq.blkN ?_
            refine Jq.thenN ?_
            refine Jc.region ?_
            refine Jl.pv (PR.move rfl) ?_
            refine Jl.pv (PR.add ((k + 1 : Nat) : Int) rfl rfl (by rw [w64 (by omega) (by omega)]; rfl)) ?_
            refine Jl.pv (PR.assign rfl) ?_
            refine Jl.nil ?_
            exact Jq.againT ⟨k + 1, k + 1, (A63, c63), hlt, Nat.le_refl _, hok', hc63⟩ (by simp only; omega) (by repeat (first | exact trivial | refine And.intro rfl ?_)) (by repeat (first | exact Take.nil | apply Take.cons (by repeat (first | exact Del.here | apply Del.there)))) (by repeat (first | exact trivial | refine And.intro (by repeat (first | exact Mem.here | apply Mem.there)) ?_))
          · try replace h3 := of_decide_eq_false h3
            refine Jc.skip ?_
            refine Jq.blkN ?_
            refine Jq.thenN ?_
            refine Jc.region ?_
            refine Jl.pv (PR.move rfl) ?_
            refine Jl.pv (PR.add ((k + 1 : Nat) : Int) rfl rfl (by rw [w64 (by omega) (by omega)]; rfl)) ?_
            refine Jl.pv (PR.assign rfl) ?_
            refine Jl.nil ?_
            exact Jq.againT ⟨k + 1, su, (A50, c50), hlt, (by omega), hok', hc50⟩ (by simp only; omega) (by repeat (first | exact trivial | refine And.intro rfl ?_)) (by repeat (first | exact Take.nil | apply Take.cons (by repeat (first | exact Del.here | apply Del.there)))) (by repeat (first | exact trivial | refine And.intro (by repeat (first | exact Mem.here | apply Mem.there)) ?_))
      · try replace h1 := of_decide_eq_false h1
        obtain rfl : k = l.length := by omega
        rw [show l.length = (rcsN l).length by omega] at hok hs hx hbl
        have hokA : ∀ r ∈ rcsN l, r.ok = true := by rw [List.take_of_length_le (Nat.le_refl _)] at hok; exact hok
        obtain ⟨N, hN0, hN1, hN2, hN3, hN4, hN5⟩ := crash_facts keep hn' hokA hs
        rw [show crD (rcsN l) l.length su = crD (rcsN l) (rcsN l).length su by rw [hrn]]
        obtain ⟨D, hD⟩ : ∃ D, (crD (rcsN l) (rcsN l).length su).crash keep = D := ⟨_, rfl⟩
        rw [hD] at hN0 hN3 hN5
        have hDl : D.b.length ≤ 6420 := by rw [← hD, Dk.crash_len]; have h5 := (crD (rcsN l) (rcsN l).length su).left_le keep; have h6 := (crD (rcsN l) (rcsN l).length su).own_len; omega
        have hoD := openD_le D
        refine Jc.exit ?_
        refine Jq.thenX ?_
        refine Jq.thenX ?_
        refine Jq.blkX ?_
        refine Jq.thenN ?_
        refine Jc.seq ?_
        refine Jc.region ?_
        refine Jl.pv (PR.loadW rfl tsh24 (by repeat (first | exact Has.here | apply Has.there)) (by rfl)) ?_
        refine Jl.pv (PR.move rfl) ?_
        refine Jl.call (crash_at' hD (by omega) hx) en25 (by rfl) (by repeat (first | exact Take.nil | apply Take.cons (by repeat (first | exact Del.here | apply Del.there)))) (by repeat (first | exact trivial | refine And.intro (by repeat (first | exact Mem.here | apply Mem.there)) ?_)) ?_
        rintro ⟨A69, c69⟩
        refine Jl.sealC (by repeat (first | exact Del.here | apply Del.there)) (fun hc69 => ?_)
        refine Jl.call (open_ct D (A69, c69) mm (by omega) hc69) en14 (by rfl) (by repeat (first | exact Take.nil | apply Take.cons (by repeat (first | exact Del.here | apply Del.there)))) (by repeat (first | exact trivial | refine And.intro (by repeat (first | exact Mem.here | apply Mem.there)) ?_)) ?_
        rintro ⟨⟨⟨A70, c70⟩, h70⟩, zs70, ⟨B70, d70⟩⟩
        refine Jl.sealR (by repeat (first | exact Del.here | apply Del.there)) ?_
        rw [hN0]
        have hz70 : zs70.1.length = N := by rw [zs70.n, hN0]
        have hr70 : rcsN zs70.1 = (rcsN l).take N := by rw [zs70.2, hN3]
        refine Jl.pv (PR.move rfl) ?_
        refine Jl.pv (PR.extract rfl (by rfl)) ?_
        refine Jl.pv (PR.extract rfl (by rfl)) ?_
        refine Jl.alloc tze24 ?_
        intro b14
        refine Jl.storeW rfl tsh24 rfl (by rfl) (by simp [Value.oneCell', Dk.cs, Rc.cs]) (by repeat (first | exact Swap.here | apply Swap.there)) (by rfl) ?_
        refine Jl.pv (PR.assign rfl) ?_
        refine Jl.nil ?_
        refine Jq.thenN ?_
        refine Jc.seq ?_
        refine Jc.seq ?_
        refine Jc.region ?_
        refine Jl.pv (PR.move rfl) ?_
        refine Jl.pv (PR.len rfl tsl25) ?_
        refine Jl.pv (PR.move rfl) ?_
        refine Jl.pv (PR.lss false rfl rfl (by simp; omega)) ?_
        refine Jl.pv (PR.move rfl) ?_
        refine Jl.on rfl rfl ?_
        refine Jl.pv (PR.move rfl) ?_
        refine Jl.on rfl rfl ?_
        refine Jl.pv (PR.len rfl tsl25) ?_
        refine Jl.on rfl rfl ?_
        refine Jl.pv (PR.move rfl) ?_
        refine Jl.on rfl rfl ?_
        refine Jl.pv (PR.len rfl tsl25) ?_
        refine Jl.on rfl rfl ?_
        refine Jl.pv (PR.gtr false rfl rfl (by simp; omega)) ?_
        refine Jl.pv (PR.pickF rfl rfl) ?_
        refine Jl.pv (PR.move rfl) ?_
        refine Jl.on rfl rfl ?_
        refine Jl.pv (PR.move rfl) ?_
        refine Jl.on rfl rfl ?_
        refine Jl.pv (PR.move rfl) ?_
        refine Jl.on rfl rfl ?_
        refine Jl.pv (PR.move rfl) ?_
        refine Jl.on rfl rfl ?_
        refine Jl.pv (PR.len rfl tsl25) ?_
        refine Jl.on rfl rfl ?_
        refine Jl.slice 0 N N (rcsV (l.take N)) rfl tsl25 rfl rfl (by repeat (first | exact Mem.here | apply Mem.there)) (by omega) (by omega) hcx' rfl (by rw [Nat.zero_mul, List.drop_zero, rcsV_take]) ?_
        intro A89 c89 hc89
        clear hc89
        refine Jl.fact (.rcs (l.take N)) (φ := .rcs l) (by repeat (first | exact Mem.here | apply Mem.there)) (fun X W h z hz => h z (List.mem_of_mem_take hz)) ?_
        refine Jl.on rfl rfl ?_
        refine Jl.call (lsame_eq (n := N) (m := N) zs70.1 (l.take N) hz70 (by rw [List.length_take]; omega) (by omega) zs70.small (by rw [hr70, rcsN, rcsN, List.map_take])) en16 (by rfl) (by repeat (first | exact Take.nil | apply Take.cons (by repeat (first | exact Del.here | apply Del.there)))) (by repeat (first | exact trivial | refine And.intro (by repeat (first | exact Mem.here | apply Mem.there)) ?_)) ?_
        rintro ⟨⟩
        refine Jl.as (.bool true) (congrArg Value.bool rfl) ?_
        refine Jl.on rfl rfl ?_
        refine Jl.pv (PR.not rfl) ?_
        refine Jl.pv (PR.pickF rfl rfl) ?_
        refine Jl.pv (PR.move rfl) ?_
        refine Jl.on rfl rfl ?_
        refine Jl.pv (PR.fieldAddr rfl tfl24_1) ?_
        refine Jl.on rfl rfl ?_
        refine Jl.pv (PR.load1 rfl tsh3 (by repeat (first | exact Has.here | apply Has.there)) (by rfl)) ?_
        refine Jl.on rfl rfl ?_
        refine Jl.pv (PR.fieldAddr rfl tfl24_0) ?_
        refine Jl.on rfl rfl ?_
        refine Jl.pv (PR.load1 rfl tsh22 (by repeat (first | exact Has.here | apply Has.there)) (by rfl)) ?_
        refine Jl.on rfl rfl ?_
        refine Jl.pv (PR.len rfl tsl22) ?_
        refine Jl.on rfl rfl ?_
        refine Jl.pv (PR.neq false rfl rfl (nq (by rw [openD_len]; rfl))) ?_
        refine Jl.pv (PR.pickF rfl rfl) ?_
        refine Jl.nil ?_
        refine Jq.thenN ?_
        refine Jc.condF rfl ?_
        refine Jc.skip ?_
        refine Jq.thenN ?_
        refine Jc.seq ?_
        refine Jc.seq ?_
        refine Jc.region ?_
        refine Jl.pv (PR.move rfl) ?_
        refine Jl.pv (PR.gtr _ rfl rfl rfl) ?_
        refine Jl.pv (PR.move rfl) ?_
        refine Jl.bsplit (fun g103 => ?_) (fun g103 => ?_)
        · try replace g103 := of_decide_eq_true g103
          refine Jl.on rfl rfl ?_
          refine Jl.pv (PR.move rfl) ?_
          refine Jl.on rfl rfl ?_
          refine Jl.pv (PR.len rfl tsl25) ?_
          refine Jl.on rfl rfl ?_
          refine Jl.pv (PR.move rfl) ?_
          refine Jl.on rfl rfl ?_
          refine Jl.pv (PR.len rfl tsl25) ?_
          refine Jl.on rfl rfl ?_
          refine Jl.pv (PR.neq false rfl rfl (nq (by have := hN4 (by omega); omega))) ?_
          refine Jl.pv (PR.pickT rfl rfl) ?_
          refine Jl.nil ?_
          refine Jq.thenN ?_
          refine Jc.condF rfl ?_
          refine Jc.skip ?_
          refine Jq.thenN ?_
          refine Jc.seq ?_
          refine Jc.region ?_
          refine Jl.pv (PR.loadW rfl tsh24 (by repeat (first | exact Has.here | apply Has.there)) (by rfl)) ?_
          refine Jl.pv (PR.loadW rfl tsh43 (by repeat (first | exact Has.here | apply Has.there)) (by rfl)) ?_
          refine Jl.buildSlice (by rfl) tsl25 tzr25_1 (by rfl) (by rfl) ?_
          intro b113
          refine Jl.seal (by repeat (first | exact Del.here | apply Del.there)) ?_
          refine Jl.fact (.rcs [(y, rc)]) (φ := .rd y.1 (i64s rc.l)) (by repeat (first | exact Mem.here | apply Mem.there)) (fun X W h z hz => by rw [List.mem_singleton.1 hz]; exact h) ?_
          obtain ⟨e1, e2, e3⟩ := more_facts (zs := [(y, rc)]) hn' hokA hN2 hN3 hN5 rfl hrc
          refine Jl.call (add_at [(y, rc)] mm rfl rfl e1 (by omega) h70 (by simp) (by intro z hz; rw [List.mem_singleton.1 hz]; show rc.l.length ≤ 1000000; omega)) en12 (by rfl) (by repeat (first | exact Take.nil | apply Take.cons (by repeat (first | exact Del.here | apply Del.there)))) (by repeat (first | exact trivial | refine And.intro (by repeat (first | exact Mem.here | apply Mem.there)) ?_)) ?_
          rintro ⟨A114, c114⟩
          refine Jl.sealC (by repeat (first | exact Del.here | apply Del.there)) (fun hc114 => ?_)
          refine Jl.pv (PR.move rfl) ?_
          refine Jl.pv (PR.extract rfl (by rfl)) ?_
          refine Jl.pv (PR.extract rfl (by rfl)) ?_
          refine Jl.alloc tze24 ?_
          intro b16
          refine Jl.storeW rfl tsh24 rfl (by rfl) (by simp [Value.oneCell', Dk.cs, Rc.cs]) (by repeat (first | exact Swap.here | apply Swap.there)) (by rfl) ?_
          refine Jl.pv (PR.assign rfl) ?_
          refine Jl.nil ?_
          refine Jq.thenN ?_
          refine Jc.seq ?_
          refine Jc.region ?_
          refine Jl.pv (PR.loadW rfl tsh24 (by repeat (first | exact Has.here | apply Has.there)) (by rfl)) ?_
          refine Jl.call (open_ct (addD (openD D) [(y, rc)]) (A114, c114) mm (by omega) hc114) en14 (by rfl) (by repeat (first | exact Take.nil | apply Take.cons (by repeat (first | exact Del.here | apply Del.there)))) (by repeat (first | exact trivial | refine And.intro (by repeat (first | exact Mem.here | apply Mem.there)) ?_)) ?_
          rintro ⟨⟨⟨A119, c119⟩, h119⟩, zs119, ⟨B119, d119⟩⟩
          refine Jl.sealC (by repeat (first | exact Del.here | apply Del.there)) (fun hc119 => ?_)
          have hz119 : (scanN (addD (openD D) [(y, rc)]).own.b).length = N + 1 := by rw [scanN_log, e2, List.length_append, List.length_take]; simp; omega
          have hr119 : rcsN zs119.1 = (rcsN l).take N ++ [rc] := by rw [zs119.2, e2]
          have hl119 : zs119.1.length = N + 1 := by rw [zs119.n, hz119]
          rw [hz119] at hc119 ⊢
          have hv119 := rcsV_len zs119.1
          have hlast : zs119.1[N].2 = rc := by rw [← rcsN_at (zs := zs119.1) (k := N) (by omega)]; simp only [hr119]; rw [List.getElem_append_right (by rw [List.length_take]; omega)]; simp
          refine Jl.pv (PR.move rfl) ?_
          refine Jl.pv (PR.extract rfl (by rfl)) ?_
          refine Jl.pv (PR.extract rfl (by rfl)) ?_
          refine Jl.alloc tze24 ?_
          intro b18
          refine Jl.storeW rfl tsh24 rfl (by rfl) (by simp [Value.oneCell', Dk.cs, Rc.cs]) (by repeat (first | exact Swap.here | apply Swap.there)) (by rfl) ?_
          refine Jl.pv (PR.assign rfl) ?_
          refine Jl.nil ?_
          refine Jq.thenN ?_
          refine Jc.seq ?_
          refine Jc.drawn [0, 1, 3, 7, 15, 7, 39, 103, 255, 511, 1023, 2047, 2047, 6143, 16383, 2047, 65535, 131071, 262143, 524287, 524287, 1572863, 4194303, 8388607, 524287, 33554431, 67108863, 134217727, 268435455, 536870911, 1073741823] ([(29, false), (30, false)], []) [⟨[(0, false), (1, false), (2, false), (3, false), (4, false), (5, false), (6, false), (7, false), (8, false), (9, false), (10, false), (11, false), (12, false), (13, false), (14, false), (15, false)], [], 16⟩, ⟨[(17, false), (18, false), (19, false), (20, false), (21, false), (22, false), (23, false), (24, false)], [], 25⟩, ⟨[(26, false), (27, false)], [], 28⟩] tmx (by kernel_rfl) ?_
          refine Dh.JH.cons ?_
          refine Dh.JB.pv rfl trivial (fun _ => PR.move rfl) ?_
          refine Dh.JB.pv rfl trivial (fun _ => PR.eql true rfl rfl (decide_eq_true rfl)) ?_
          refine Dh.JB.pv rfl trivial (fun _ => PR.move rfl) ?_
          refine Dh.JB.pv rfl ⟨_, rfl, rfl⟩ (fun _ => PR.move rfl) ?_
          refine Dh.JB.pv rfl ⟨_, rfl, rfl⟩ (fun _ => PR.len rfl tsl25) ?_
          refine Dh.JB.pv rfl ⟨_, rfl, rfl⟩ (fun _ => PR.move rfl) ?_
          refine Dh.JB.pv rfl ⟨_, rfl, rfl⟩ (fun _ => PR.len rfl tsl25) ?_
          refine Dh.JB.pv rfl ⟨_, rfl, rfl⟩ (fun _ => PR.add ((N + 1 : Nat) : Int) rfl rfl (wadd (a := N) (b := 1) (by omega) (by omega))) ?_
          refine Dh.JB.pv rfl ⟨_, rfl, rfl⟩ (fun _ => PR.eql true rfl rfl (decide_eq_true rfl)) ?_
          refine Dh.JB.pv rfl trivial (fun _ => PR.pickT rfl rfl) ?_
          refine Dh.JB.pv rfl trivial (fun _ => PR.move rfl) ?_
          refine Dh.JB.pv rfl ⟨_, rfl, rfl⟩ (fun _ => PR.move rfl) ?_
          refine Dh.JB.pv rfl ⟨_, rfl, rfl⟩ (fun _ => PR.move rfl) ?_
          refine Dh.JB.pv rfl ⟨_, rfl, rfl⟩ (fun _ => PR.len rfl tsl25) ?_
          refine Dh.JB.slice 0 N N (rcsV (zs119.1.take N)) rfl ⟨_, rfl, rfl⟩ rfl tsl25 rfl rfl (by repeat (first | exact Mem.here | apply Mem.there)) (by omega) (by omega) hc119 rfl (by rw [Nat.zero_mul, List.drop_zero, rcsV_take]) ?_
          intro A136 c136 hc136
          clear hc136
          refine Dh.JB.pv rfl ⟨_, rfl, rfl⟩ (fun _ => PR.move rfl) ?_
          refine Dh.JB.nil ?_
          refine Dh.JL.nil ?_
          refine Dh.JE.mk rfl (fun _ h => by cases h) (fun C24_16 => ?_)
          refine Jl.fact (.rcs (zs119.1.take N)) (φ := .rcs zs119.1) (by repeat (first | exact Mem.here | apply Mem.there)) (fun X W h z hz => h z (List.mem_of_mem_take hz)) ?_
          refine Jl.on rfl rfl ?_
          refine Jl.call (lsame_eq (n := N) (m := N) (zs119.1.take N) zs70.1 (by rw [List.length_take]; omega) hz70 (by omega) (fun z hz => zs119.small z (List.mem_of_mem_take hz)) (by rw [hr70, rcsN, List.map_take, ← rcsN, hr119, List.take_left' (by rw [List.length_take]; omega)])) en16 (by rfl) (by repeat (first | exact Take.nil | apply Take.cons (by repeat (first | exact Del.here | apply Del.there)))) (by repeat (first | exact trivial | refine And.intro (by repeat (first | exact Mem.here | apply Mem.there)) ?_)) ?_
          rintro ⟨⟩
          refine Jl.as (.bool true) (congrArg Value.bool rfl) ?_
          refine Jl.nil ?_
          refine Dh.Jq.segV (by repeat (first | exact Dh.FExt.refl | apply Dh.FExt.cons | apply Dh.FExt.app)) ?_ (by repeat (first | exact Dh.KeepL.nil | apply Dh.KeepL.anc (by rfl) | apply Dh.KeepL.keep (by repeat (first | exact Take.nil | apply Take.cons (by repeat (first | exact Del.here | apply Del.there))))))
          refine Dh.JH.cons ?_
          refine Dh.JB.pv rfl trivial (fun _ => PR.pickT rfl rfl) ?_
          refine Dh.JB.pv rfl trivial (fun _ => PR.move rfl) ?_
          refine Dh.JB.pv rfl ⟨_, rfl, rfl⟩ (fun _ => PR.move rfl) ?_
          refine Dh.JB.pv rfl ⟨_, rfl, rfl⟩ (fun _ => PR.move rfl) ?_
          refine Dh.JB.pv rfl ⟨_, rfl, rfl⟩ (fun _ => PR.len rfl tsl25) ?_
          refine Dh.JB.pv rfl ⟨_, rfl, rfl⟩ (fun _ => PR.idx N rfl rfl tsl25 (by repeat (first | exact Mem.here | apply Mem.there)) (hv119.trans (by rw [hl119])) (by omega) rfl (by omega)) ?_
          refine Dh.JB.pv rfl ⟨_, rfl, rfl⟩ (fun _ => PR.loadRA rfl tsh43 (by repeat (first | exact Mem.here | apply Mem.there)) (by decide) (rcs_at (zs := zs119.1) (k := N) (by omega))) ?_
          refine Dh.JB.rd [.blk _ _ _] rfl ⟨_, rfl, rfl⟩ (by repeat (first | exact Take.nil | apply Take.cons (by repeat (first | exact Del.here | apply Del.there)))) (fun _ => PR.loadW rfl tsh43 Has.here (by rfl)) ?_
          refine Dh.JB.nil ?_
          refine Dh.JL.nil ?_
          refine Dh.JE.mk rfl (fun _ h => by cases h) (fun C24_25 => ?_)
          refine Jl.fact (.rd zs119.1[N].1.1 (i64s zs119.1[N].2.l)) (φ := .rcs zs119.1) (by repeat (first | exact Mem.here | apply Mem.there)) (fun X W h => h _ (List.getElem_mem _)) ?_
          refine Jl.on rfl rfl ?_
          refine Jl.call (rsameR_ct zs119.1[N].2 rc zs119.1[N].1 y (zs119.small _ (List.getElem_mem _))) en26 (by rfl) (by repeat (first | exact Take.nil | apply Take.cons (by repeat (first | exact Del.here | apply Del.there)))) (by repeat (first | exact trivial | refine And.intro (by repeat (first | exact Mem.here | apply Mem.there)) ?_)) ?_
          rintro ⟨⟩
          refine Jl.as (.bool true) (congrArg Value.bool (sameR_iff.2 hlast)) ?_
          refine Jl.nil ?_
          refine Dh.Jq.segV (by repeat (first | exact Dh.FExt.refl | apply Dh.FExt.cons | apply Dh.FExt.app)) ?_ (by repeat (first | exact Dh.KeepL.nil | apply Dh.KeepL.anc (by rfl) | apply Dh.KeepL.keep (by repeat (first | exact Take.nil | apply Take.cons (by repeat (first | exact Del.here | apply Del.there))))))
          refine Dh.JH.cons ?_
          refine Dh.JB.pv rfl trivial (fun _ => PR.pickT rfl rfl) ?_
          refine Dh.JB.pv rfl trivial (fun _ => PR.move rfl) ?_
          refine Dh.JB.nil ?_
          refine Dh.JL.nil ?_
          refine Dh.JE.mk rfl (fun _ h => by cases h) (fun C24_28 => ?_)
          refine Jl.on rfl rfl ?_
          refine Jl.call (lgwakes_ct mm) en9 (by rfl) (by repeat (first | exact Take.nil | apply Take.cons (by repeat (first | exact Del.here | apply Del.there)))) (by repeat (first | exact trivial | refine And.intro (by repeat (first | exact Mem.here | apply Mem.there)) ?_)) ?_
          rintro ⟨⟩
          refine Jl.as (.bool true) (congrArg Value.bool rfl) ?_
          refine Jl.nil ?_
          refine Dh.Jq.segV (by repeat (first | exact Dh.FExt.refl | apply Dh.FExt.cons | apply Dh.FExt.app)) ?_ (by repeat (first | exact Dh.KeepL.nil | apply Dh.KeepL.anc (by rfl) | apply Dh.KeepL.keep (by repeat (first | exact Take.nil | apply Take.cons (by repeat (first | exact Del.here | apply Del.there))))))
          refine Dh.JH.nil ?_
          refine Dh.JB.pv rfl trivial (fun _ => PR.pickT rfl rfl) ?_
          refine Dh.JB.pv rfl trivial (fun _ => PR.assign rfl) ?_
          refine Dh.JB.nil ?_
          refine Dh.JL.nil ?_
          refine Jq.thenN ?_
          refine Jc.ret ?_
          exact Jq.fin () (.inl rfl) rfl (RetVs.tmp rfl RetVs.nil) rfl (by repeat (first | exact Take.nil | apply Take.cons (by repeat (first | exact Del.here | apply Del.there)))) (by repeat (first | exact trivial | refine And.intro (by repeat (first | exact Mem.here | apply Mem.there)) ?_))
        · try replace g103 := of_decide_eq_false g103
          refine Jl.offS rfl rfl rfl ?_
          refine Jl.offS rfl rfl rfl ?_
          refine Jl.offS rfl rfl rfl ?_
          refine Jl.offS rfl rfl rfl ?_
          refine Jl.offS rfl rfl rfl ?_
          refine Jl.pv (PR.pickF rfl rfl) ?_
          refine Jl.nil ?_
          refine Jq.thenN ?_
          refine Jc.condF rfl ?_
          refine Jc.skip ?_
          refine Jq.thenN ?_
          refine Jc.seq ?_
          refine Jc.region ?_
          refine Jl.pv (PR.loadW rfl tsh24 (by repeat (first | exact Has.here | apply Has.there)) (by rfl)) ?_
          refine Jl.pv (PR.loadW rfl tsh43 (by repeat (first | exact Has.here | apply Has.there)) (by rfl)) ?_
          refine Jl.buildSlice (by rfl) tsl25 tzr25_1 (by rfl) (by rfl) ?_
          intro b113
          refine Jl.seal (by repeat (first | exact Del.here | apply Del.there)) ?_
          refine Jl.fact (.rcs [(y, rc)]) (φ := .rd y.1 (i64s rc.l)) (by repeat (first | exact Mem.here | apply Mem.there)) (fun X W h z hz => by rw [List.mem_singleton.1 hz]; exact h) ?_
          obtain ⟨e1, e2, e3⟩ := more_facts (zs := [(y, rc)]) hn' hokA hN2 hN3 hN5 rfl hrc
          refine Jl.call (add_at [(y, rc)] mm rfl rfl e1 (by omega) h70 (by simp) (by intro z hz; rw [List.mem_singleton.1 hz]; show rc.l.length ≤ 1000000; omega)) en12 (by rfl) (by repeat (first | exact Take.nil | apply Take.cons (by repeat (first | exact Del.here | apply Del.there)))) (by repeat (first | exact trivial | refine And.intro (by repeat (first | exact Mem.here | apply Mem.there)) ?_)) ?_
          rintro ⟨A114, c114⟩
          refine Jl.sealC (by repeat (first | exact Del.here | apply Del.there)) (fun hc114 => ?_)
          refine Jl.pv (PR.move rfl) ?_
          refine Jl.pv (PR.extract rfl (by rfl)) ?_
          refine Jl.pv (PR.extract rfl (by rfl)) ?_
          refine Jl.alloc tze24 ?_
          intro b16
          refine Jl.storeW rfl tsh24 rfl (by rfl) (by simp [Value.oneCell', Dk.cs, Rc.cs]) (by repeat (first | exact Swap.here | apply Swap.there)) (by rfl) ?_
          refine Jl.pv (PR.assign rfl) ?_
          refine Jl.nil ?_
          refine Jq.thenN ?_
          refine Jc.seq ?_
          refine Jc.region ?_
          refine Jl.pv (PR.loadW rfl tsh24 (by repeat (first | exact Has.here | apply Has.there)) (by rfl)) ?_
          refine Jl.call (open_ct (addD (openD D) [(y, rc)]) (A114, c114) mm (by omega) hc114) en14 (by rfl) (by repeat (first | exact Take.nil | apply Take.cons (by repeat (first | exact Del.here | apply Del.there)))) (by repeat (first | exact trivial | refine And.intro (by repeat (first | exact Mem.here | apply Mem.there)) ?_)) ?_
          rintro ⟨⟨⟨A119, c119⟩, h119⟩, zs119, ⟨B119, d119⟩⟩
          refine Jl.sealC (by repeat (first | exact Del.here | apply Del.there)) (fun hc119 => ?_)
          have hz119 : (scanN (addD (openD D) [(y, rc)]).own.b).length = N + 1 := by rw [scanN_log, e2, List.length_append, List.length_take]; simp; omega
          have hr119 : rcsN zs119.1 = (rcsN l).take N ++ [rc] := by rw [zs119.2, e2]
          have hl119 : zs119.1.length = N + 1 := by rw [zs119.n, hz119]
          rw [hz119] at hc119 ⊢
          have hv119 := rcsV_len zs119.1
          have hlast : zs119.1[N].2 = rc := by rw [← rcsN_at (zs := zs119.1) (k := N) (by omega)]; simp only [hr119]; rw [List.getElem_append_right (by rw [List.length_take]; omega)]; simp
          refine Jl.pv (PR.move rfl) ?_
          refine Jl.pv (PR.extract rfl (by rfl)) ?_
          refine Jl.pv (PR.extract rfl (by rfl)) ?_
          refine Jl.alloc tze24 ?_
          intro b18
          refine Jl.storeW rfl tsh24 rfl (by rfl) (by simp [Value.oneCell', Dk.cs, Rc.cs]) (by repeat (first | exact Swap.here | apply Swap.there)) (by rfl) ?_
          refine Jl.pv (PR.assign rfl) ?_
          refine Jl.nil ?_
          refine Jq.thenN ?_
          refine Jc.seq ?_
          refine Jc.drawn [0, 1, 3, 7, 15, 7, 39, 103, 255, 511, 1023, 2047, 2047, 6143, 16383, 2047, 65535, 131071, 262143, 524287, 524287, 1572863, 4194303, 8388607, 524287, 33554431, 67108863, 134217727, 268435455, 536870911, 1073741823] ([(29, false), (30, false)], []) [⟨[(0, false), (1, false), (2, false), (3, false), (4, false), (5, false), (6, false), (7, false), (8, false), (9, false), (10, false), (11, false), (12, false), (13, false), (14, false), (15, false)], [], 16⟩, ⟨[(17, false), (18, false), (19, false), (20, false), (21, false), (22, false), (23, false), (24, false)], [], 25⟩, ⟨[(26, false), (27, false)], [], 28⟩] tmx (by kernel_rfl) ?_
          refine Dh.JH.cons ?_
          refine Dh.JB.pv rfl trivial (fun _ => PR.move rfl) ?_
          refine Dh.JB.pv rfl trivial (fun _ => PR.eql true rfl rfl (decide_eq_true rfl)) ?_
          refine Dh.JB.pv rfl trivial (fun _ => PR.move rfl) ?_
          refine Dh.JB.pv rfl ⟨_, rfl, rfl⟩ (fun _ => PR.move rfl) ?_
          refine Dh.JB.pv rfl ⟨_, rfl, rfl⟩ (fun _ => PR.len rfl tsl25) ?_
          refine Dh.JB.pv rfl ⟨_, rfl, rfl⟩ (fun _ => PR.move rfl) ?_
          refine Dh.JB.pv rfl ⟨_, rfl, rfl⟩ (fun _ => PR.len rfl tsl25) ?_
          refine Dh.JB.pv rfl ⟨_, rfl, rfl⟩ (fun _ => PR.add ((N + 1 : Nat) : Int) rfl rfl (wadd (a := N) (b := 1) (by omega) (by omega))) ?_
          refine Dh.JB.pv rfl ⟨_, rfl, rfl⟩ (fun _ => PR.eql true rfl rfl (decide_eq_true rfl)) ?_
          refine Dh.JB.pv rfl trivial (fun _ => PR.pickT rfl rfl) ?_
          refine Dh.JB.pv rfl trivial (fun _ => PR.move rfl) ?_
          refine Dh.JB.pv rfl ⟨_, rfl, rfl⟩ (fun _ => PR.move rfl) ?_
          refine Dh.JB.pv rfl ⟨_, rfl, rfl⟩ (fun _ => PR.move rfl) ?_
          refine Dh.JB.pv rfl ⟨_, rfl, rfl⟩ (fun _ => PR.len rfl tsl25) ?_
          refine Dh.JB.slice 0 N N (rcsV (zs119.1.take N)) rfl ⟨_, rfl, rfl⟩ rfl tsl25 rfl rfl (by repeat (first | exact Mem.here | apply Mem.there)) (by omega) (by omega) hc119 rfl (by rw [Nat.zero_mul, List.drop_zero, rcsV_take]) ?_
          intro A136 c136 hc136
          clear hc136
          refine Dh.JB.pv rfl ⟨_, rfl, rfl⟩ (fun _ => PR.move rfl) ?_
          refine Dh.JB.nil ?_
          refine Dh.JL.nil ?_
          refine Dh.JE.mk rfl (fun _ h => by cases h) (fun C24_16 => ?_)
          refine Jl.fact (.rcs (zs119.1.take N)) (φ := .rcs zs119.1) (by repeat (first | exact Mem.here | apply Mem.there)) (fun X W h z hz => h z (List.mem_of_mem_take hz)) ?_
          refine Jl.on rfl rfl ?_
          refine Jl.call (lsame_eq (n := N) (m := N) (zs119.1.take N) zs70.1 (by rw [List.length_take]; omega) hz70 (by omega) (fun z hz => zs119.small z (List.mem_of_mem_take hz)) (by rw [hr70, rcsN, List.map_take, ← rcsN, hr119, List.take_left' (by rw [List.length_take]; omega)])) en16 (by rfl) (by repeat (first | exact Take.nil | apply Take.cons (by repeat (first | exact Del.here | apply Del.there)))) (by repeat (first | exact trivial | refine And.intro (by repeat (first | exact Mem.here | apply Mem.there)) ?_)) ?_
          rintro ⟨⟩
          refine Jl.as (.bool true) (congrArg Value.bool rfl) ?_
          refine Jl.nil ?_
          refine Dh.Jq.segV (by repeat (first | exact Dh.FExt.refl | apply Dh.FExt.cons | apply Dh.FExt.app)) ?_ (by repeat (first | exact Dh.KeepL.nil | apply Dh.KeepL.anc (by rfl) | apply Dh.KeepL.keep (by repeat (first | exact Take.nil | apply Take.cons (by repeat (first | exact Del.here | apply Del.there))))))
          refine Dh.JH.cons ?_
          refine Dh.JB.pv rfl trivial (fun _ => PR.pickT rfl rfl) ?_
          refine Dh.JB.pv rfl trivial (fun _ => PR.move rfl) ?_
          refine Dh.JB.pv rfl ⟨_, rfl, rfl⟩ (fun _ => PR.move rfl) ?_
          refine Dh.JB.pv rfl ⟨_, rfl, rfl⟩ (fun _ => PR.move rfl) ?_
          refine Dh.JB.pv rfl ⟨_, rfl, rfl⟩ (fun _ => PR.len rfl tsl25) ?_
          refine Dh.JB.pv rfl ⟨_, rfl, rfl⟩ (fun _ => PR.idx N rfl rfl tsl25 (by repeat (first | exact Mem.here | apply Mem.there)) (hv119.trans (by rw [hl119])) (by omega) rfl (by omega)) ?_
          refine Dh.JB.pv rfl ⟨_, rfl, rfl⟩ (fun _ => PR.loadRA rfl tsh43 (by repeat (first | exact Mem.here | apply Mem.there)) (by decide) (rcs_at (zs := zs119.1) (k := N) (by omega))) ?_
          refine Dh.JB.rd [.blk _ _ _] rfl ⟨_, rfl, rfl⟩ (by repeat (first | exact Take.nil | apply Take.cons (by repeat (first | exact Del.here | apply Del.there)))) (fun _ => PR.loadW rfl tsh43 Has.here (by rfl)) ?_
          refine Dh.JB.nil ?_
          refine Dh.JL.nil ?_
          refine Dh.JE.mk rfl (fun _ h => by cases h) (fun C24_25 => ?_)
          refine Jl.fact (.rd zs119.1[N].1.1 (i64s zs119.1[N].2.l)) (φ := .rcs zs119.1) (by repeat (first | exact Mem.here | apply Mem.there)) (fun X W h => h _ (List.getElem_mem _)) ?_
          refine Jl.on rfl rfl ?_
          refine Jl.call (rsameR_ct zs119.1[N].2 rc zs119.1[N].1 y (zs119.small _ (List.getElem_mem _))) en26 (by rfl) (by repeat (first | exact Take.nil | apply Take.cons (by repeat (first | exact Del.here | apply Del.there)))) (by repeat (first | exact trivial | refine And.intro (by repeat (first | exact Mem.here | apply Mem.there)) ?_)) ?_
          rintro ⟨⟩
          refine Jl.as (.bool true) (congrArg Value.bool (sameR_iff.2 hlast)) ?_
          refine Jl.nil ?_
          refine Dh.Jq.segV (by repeat (first | exact Dh.FExt.refl | apply Dh.FExt.cons | apply Dh.FExt.app)) ?_ (by repeat (first | exact Dh.KeepL.nil | apply Dh.KeepL.anc (by rfl) | apply Dh.KeepL.keep (by repeat (first | exact Take.nil | apply Take.cons (by repeat (first | exact Del.here | apply Del.there))))))
          refine Dh.JH.cons ?_
          refine Dh.JB.pv rfl trivial (fun _ => PR.pickT rfl rfl) ?_
          refine Dh.JB.pv rfl trivial (fun _ => PR.move rfl) ?_
          refine Dh.JB.nil ?_
          refine Dh.JL.nil ?_
          refine Dh.JE.mk rfl (fun _ h => by cases h) (fun C24_28 => ?_)
          refine Jl.on rfl rfl ?_
          refine Jl.call (lgwakes_ct mm) en9 (by rfl) (by repeat (first | exact Take.nil | apply Take.cons (by repeat (first | exact Del.here | apply Del.there)))) (by repeat (first | exact trivial | refine And.intro (by repeat (first | exact Mem.here | apply Mem.there)) ?_)) ?_
          rintro ⟨⟩
          refine Jl.as (.bool true) (congrArg Value.bool rfl) ?_
          refine Jl.nil ?_
          refine Dh.Jq.segV (by repeat (first | exact Dh.FExt.refl | apply Dh.FExt.cons | apply Dh.FExt.app)) ?_ (by repeat (first | exact Dh.KeepL.nil | apply Dh.KeepL.anc (by rfl) | apply Dh.KeepL.keep (by repeat (first | exact Take.nil | apply Take.cons (by repeat (first | exact Del.here | apply Del.there))))))
          refine Dh.JH.nil ?_
          refine Dh.JB.pv rfl trivial (fun _ => PR.pickT rfl rfl) ?_
          refine Dh.JB.pv rfl trivial (fun _ => PR.assign rfl) ?_
          refine Dh.JB.nil ?_
          refine Dh.JL.nil ?_
          refine Jq.thenN ?_
          refine Jc.ret ?_
          exact Jq.fin () (.inl rfl) rfl (RetVs.tmp rfl RetVs.nil) rfl (by repeat (first | exact Take.nil | apply Take.cons (by repeat (first | exact Del.here | apply Del.there)))) (by repeat (first | exact trivial | refine And.intro (by repeat (first | exact Mem.here | apply Mem.there)) ?_))
end Go.Proofs.YtcohgnagffibcaaDoor
