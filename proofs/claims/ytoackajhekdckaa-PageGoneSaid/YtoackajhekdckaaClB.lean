/-
Contracts of herd/cloud: Own, Right, Find.
-/
import Derived.Test.YtoackajhekdckaaJi
import Derived.Test.YtoackajhekdckaaSlF
import Derived.Test.YtoackajhekdckaaClA
namespace Go.Proofs.Ytoackajhekdckaa
set_option linter.unusedVariables false
open Go.RowKit
attribute [local irreducible] Res.blk Res.row Fact.rd Res.mapI
theorem numbers1_ct (n : Int) : Ct Try.prog 26 [.int .i64 n] [] [] (fun _ : Unit => .bool (!okN n)) (fun _ => []) (fun _ => []) := by
  refine Ct.of _ Try.func26 Try.ntmps26 rfl rfl (fun X W => ?_)
  refine Jc.seq ?_
  refine Jc.region ?_
  refine Jl.pv (PR.assign rfl) ?_
  refine Jl.nil ?_
  refine Jq.thenN ?_
  refine Jc.seq ?_
  refine Jc.region ?_
  refine Jl.pv (PR.move rfl) ?_
  refine Jl.pv (PR.lss _ rfl rfl rfl) ?_
  refine Jl.pv (PR.move rfl) ?_
  refine Jl.bsplit (fun g5 => ?_) (fun g5 => ?_)
  · try replace g5 := of_decide_eq_true g5
    refine Jl.offS rfl rfl rfl ?_
    refine Jl.offS rfl rfl rfl ?_
    refine Jl.pv (PR.pickT rfl rfl) ?_
    refine Jl.pv (PR.assign rfl) ?_
    refine Jl.nil ?_
    refine Jq.thenN ?_
    refine Jc.ret ?_
    exact Jq.fin () (.inl rfl) rfl (RetVs.tmp rfl RetVs.nil) (congrArg Value.bool (by rw [Bool.eq_iff_iff]; simp [okN]; omega)) (by repeat (first | exact Take.nil | apply Take.cons (by repeat (first | exact Del.here | apply Del.there)))) (by repeat (first | exact trivial | refine And.intro (by repeat (first | exact Mem.here | apply Mem.there)) ?_))
  · try replace g5 := of_decide_eq_false g5
    refine Jl.on rfl rfl ?_
    refine Jl.pv (PR.move rfl) ?_
    refine Jl.on rfl rfl ?_
    refine Jl.pv (PR.gtr _ rfl rfl rfl) ?_
    refine Jl.pv (PR.pickF rfl rfl) ?_
    refine Jl.pv (PR.assign rfl) ?_
    refine Jl.nil ?_
    refine Jq.thenN ?_
    refine Jc.ret ?_
    exact Jq.fin () (.inl rfl) rfl (RetVs.tmp rfl RetVs.nil) (congrArg Value.bool (by rw [Bool.eq_iff_iff]; simp [okN]; omega)) (by repeat (first | exact Take.nil | apply Take.cons (by repeat (first | exact Del.here | apply Del.there)))) (by repeat (first | exact trivial | refine And.intro (by repeat (first | exact Mem.here | apply Mem.there)) ?_))
theorem numbers_ct (A : Option Addr) (c : Nat) (l : List Int) (hn : l.length ≤ 1000000) : Ct Try.prog 24 [.slice A l.length c] [] [.rd A (l.map (Value.int .i64))] (fun _ : Unit => .bool (l.all okN)) (fun _ => []) (fun _ => []) := by
  refine Ct.of _ Try.func24 Try.ntmps24 rfl rfl (fun X W => ?_)
  refine Jc.seq ?_
  refine Jc.region ?_
  refine Jl.pv (PR.assign rfl) ?_
  refine Jl.nil ?_
  refine Jq.thenN ?_
  refine Jc.seq ?_
  refine Jc.region ?_
  refine Jl.pv (PR.move rfl) ?_
  refine Jl.call (scontains_ct (fun n => !okN n) A c l hn 26 numbers1_ct en26) en25 (by rfl) (by repeat (first | exact Take.nil | apply Take.cons (by repeat (first | exact Del.here | apply Del.there)))) (by repeat (first | exact trivial | refine And.intro (by repeat (first | exact Mem.here | apply Mem.there)) ?_)) ?_
  rintro ⟨⟩
  refine Jl.pv (PR.not rfl) ?_
  refine Jl.pv (PR.assign rfl) ?_
  refine Jl.nil ?_
  refine Jq.thenN ?_
  refine Jc.ret ?_
  exact Jq.fin () (.inl rfl) rfl (RetVs.tmp rfl RetVs.nil) (by rw [List.all_eq_not_any_not]; rfl) (by repeat (first | exact Take.nil | apply Take.cons (by repeat (first | exact Del.here | apply Del.there)))) (by repeat (first | exact trivial | refine And.intro (by repeat (first | exact Mem.here | apply Mem.there)) ?_))
theorem numbers3_ct (A : Option Addr) (c : Nat) (a b d : Int) : Ct Try.prog 24 [.slice A 3 c] [] [.rd A [.int .i64 a, .int .i64 b, .int .i64 d]] (fun _ : Unit => .bool (okN a && (okN b && okN d))) (fun _ => []) (fun _ => []) := by
  have h0 := numbers_ct A c [a, b, d] (by simp)
  simpa using h0
/-- The elements of which it is so, with their places. -/
def filI (q : Bx → Bool) (l : List Bx) (n : Nat) : List (Bx × Nat) := (l.zipIdx n).filter fun p => q p.1
theorem filI_len (q : Bx → Bool) (l : List Bx) (n : Nat) : (filI q l n).length = l.countP q := by
  induction l generalizing n with
  | nil => rfl
  | cons b l ih =>
    simp only [filI, List.zipIdx_cons, List.filter_cons, List.countP_cons] at ih ⊢
    split
    · rw [List.length_cons, ih]
    · rw [ih]; rfl
theorem filI_at (q : Bx → Bool) {l : List Bx} {k : Nat} (n : Nat) (h : k < l.length) (hq : q l[k] = true) : (filI q l n)[(l.take k).countP q]? = some (l[k], k + n) := by
  induction l generalizing k n with
  | nil => simp at h
  | cons b l ih =>
    cases k with
    | zero =>
      have hq' : q b = true := by simpa using hq
      simp [filI, hq']
    | succ k =>
      have h2 := ih (k := k) (n + 1) (by simpa using h) (by simpa using hq)
      have e1 : k + 1 + n = k + (n + 1) := by omega
      by_cases hb : q b = true
      · rw [e1, show filI q (b :: l) n = (b, n) :: filI q l (n + 1) by simp [filI, hb], List.take_succ_cons, List.countP_cons, if_pos hb, List.getElem?_cons_succ]
        exact h2
      · rw [e1, show filI q (b :: l) n = filI q l (n + 1) by simp [filI, hb], List.take_succ_cons, List.countP_cons, if_neg hb]
        exact h2
theorem filI_none (q : Bx → Bool) {l : List Bx} (n : Nat) (h : (filI q l n).length = 0) : l.findIdx? q = none := by
  rw [filI_len, List.countP_eq_zero] at h
  rw [List.findIdx?_eq_none_iff]
  intro b hb
  have := h b hb
  simpa using this
theorem filI_first (q : Bx → Bool) {l : List Bx} (n : Nat) {p : Bx × Nat} (h : (filI q l n)[0]? = some p) : ∃ i, l.findIdx? q = some i ∧ p.2 = i + n := by
  induction l generalizing n with
  | nil => simp [filI] at h
  | cons b l ih =>
    simp only [filI, List.zipIdx_cons, List.filter_cons] at h ih
    rw [List.findIdx?_cons]
    split at h
    · rename_i hb
      simp only [List.getElem?_cons_zero, Option.some.injEq] at h
      subst h
      exact ⟨0, by simp [hb], by simp⟩
    · rename_i hb
      obtain ⟨i, h1, h2⟩ := ih (n + 1) h
      exact ⟨i + 1, by simp [hb, h1], by omega⟩
def filV (q : Bx → Bool) (l : List Bx) (k : Nat) : List Value := match (filI q l 0)[k]? with
  | some p => [.int .i64 (p.2 : Int), p.1.v]
  | none => [.int .i64 0, Bx.zero.v]
theorem filV_at (q : Bx → Bool) {l : List Bx} {k : Nat} (h : k < l.length) (hq : q l[k] = true) : filV q l ((l.take k).countP q) = [.int .i64 (k : Int), l[k].v] := by
  rw [filV, filI_at q 0 h hq]; rfl
theorem filV_len (q : Bx → Bool) (l : List Bx) (k : Nat) : (filV q l k).length = 2 := by unfold filV; split <;> rfl
theorem take_cnt (q : Bx → Bool) {l : List Bx} {k : Nat} (h : k < l.length) : (l.take (k + 1)).countP q = (l.take k).countP q + if q l[k] = true then 1 else 0 := by rw [List.take_succ_eq_append_getElem h, List.countP_append, List.countP_singleton]
theorem take_no {q : Bx → Bool} {l : List Bx} {k : Nat} (h : k < l.length) (hq : q l[k] = false) : (l.take (k + 1)).countP q = (l.take k).countP q := by rw [take_cnt q h, hq]; rfl
theorem take_yes {q : Bx → Bool} {l : List Bx} {k : Nat} (h : k < l.length) (hq : q l[k] = true) : (l.take (k + 1)).countP q = (l.take k).countP q + 1 := by rw [take_cnt q h, hq]; rfl
theorem take_lt (q : Bx → Bool) {l : List Bx} {k : Nat} (h : k < l.length) (hq : q l[k] = true) : (l.take k).countP q < l.countP q := by
  have h1 := take_cnt q h
  rw [if_pos hq] at h1
  have h2 : (l.take (k + 1)).countP q ≤ l.countP q := by
    conv => rhs; rw [← List.take_append_drop (k + 1) l]
    rw [List.countP_append]; omega
  omega
/-- How many of the first k boxes have a token. -/
def cntT (l : List Bx) (k : Nat) (a : Int) : Int := (((l.take k).countP fun b => decide (b.tok = a) : Nat) : Int)
theorem cntT_next {l : List Bx} {k : Nat} (h : k < l.length) (q : Int) : (if q = l[k].tok then cntT l k l[k].tok + 1 else cntT l k q) = cntT l (k + 1) q := by
  unfold cntT
  rw [take_cnt _ h]
  by_cases hq : q = l[k].tok
  · subst hq; simp
  · rw [if_neg hq, if_neg (by simpa using fun e => hq e.symm)]; rfl
theorem cntT_le (l : List Bx) (k : Nat) (a : Int) : 0 ≤ cntT l k a ∧ cntT l k a ≤ k := by
  have := List.countP_le_length (p := fun b : Bx => decide (b.tok = a)) (l := l.take k)
  simp only [List.length_take] at this
  unfold cntT; omega
theorem cntT_dup {l : List Bx} {k : Nat} (h : k < l.length) (h2 : 1 < cntT l (k + 1) l[k].tok) : ∃ j, ∃ hj : j < k, l[j].tok = l[k].tok := by
  rw [← cntT_next h, if_pos rfl] at h2
  have h3 : 0 < (l.take k).countP fun b => decide (b.tok = l[k].tok) := by unfold cntT at h2; omega
  obtain ⟨b, hb, hp⟩ := List.countP_pos_iff.1 h3
  obtain ⟨j, hj, rfl⟩ := List.mem_iff_getElem.1 hb
  simp only [List.length_take] at hj
  exact ⟨j, by omega, by simpa using hp⟩
theorem cntT_uniq {l : List Bx} {k : Nat} (h : k < l.length) (h2 : ¬ 1 < cntT l (k + 1) l[k].tok) : ∀ j, (hj : j < k) → l[j].tok ≠ l[k].tok := by
  intro j hj e
  rw [← cntT_next h, if_pos rfl] at h2
  have h3 : 0 < (l.take k).countP fun b => decide (b.tok = l[k].tok) := List.countP_pos_iff.2 ⟨l[j], List.mem_take_iff_getElem.2 ⟨j, by omega, rfl⟩, by simp [e]⟩
  unfold cntT at h2; omega
def Cl.Wf (c : Cl) : Prop := ∀ b ∈ c.bs, (Lit.int .i64 b.tok).wf = true
theorem right_ct (c : Cl) (x : AdC) (hw : c.Wf) : Ct Try.prog 21 [c.v x] [] [.rd x.1 (bxsV c.bs)] (fun _ : Unit => .bool c.ok) (fun _ => []) (fun _ => []) := by
  obtain ⟨A, cA⟩ := x
  refine Ct.of _ Try.func21 Try.ntmps21 rfl rfl (fun X W => ?_)
  refine Jc.seq ?_
  refine Jc.region ?_
  refine Jl.box rfl (by rfl) ?_
  intro b1
  refine Jl.pv (PR.assign rfl) ?_
  refine Jl.nil ?_
  refine Jq.thenN ?_
  refine Jc.seq ?_
  refine Jc.seq ?_
  refine Jc.region ?_
  refine Jl.pv (PR.fieldAddr rfl tfl24_0) ?_
  refine Jl.pv (PR.load1 rfl tsh22 (by repeat (first | exact Has.here | apply Has.there)) (by rfl)) ?_
  refine Jl.pv (PR.len rfl tsl22) ?_
  refine Jl.pv (PR.gtr _ rfl rfl rfl) ?_
  refine Jl.nil ?_
  refine Jq.thenN ?_
  refine Jc.cond rfl (fun h0 => ?_) (fun h0 => ?_)
  · try replace h0 := of_decide_eq_true h0
    refine Jc.seq ?_
    refine Jc.region ?_
    refine Jl.pv (PR.assign rfl) ?_
    refine Jl.nil ?_
    refine Jq.thenN ?_
    refine Jc.ret ?_
    refine Jq.thenR ?_
    exact Jq.fin () (.inl rfl) rfl (RetVs.tmp rfl RetVs.nil) (by rw [Cl.ok_no (fun h => by have := h.len; omega)]; rfl) (by repeat (first | exact Take.nil | apply Take.cons (by repeat (first | exact Del.here | apply Del.there)))) (by repeat (first | exact trivial | refine And.intro (by repeat (first | exact Mem.here | apply Mem.there)) ?_))
  · try replace h0 := of_decide_eq_false h0
    refine Jc.skip ?_
    refine Jq.thenN ?_
    refine Jc.seq ?_
    refine Jc.seq ?_
    refine Jc.region ?_
    refine Jl.pv (PR.fieldAddr rfl tfl24_1) ?_
    refine Jl.pv (PR.load1 rfl tsh3 (by repeat (first | exact Has.here | apply Has.there)) (by rfl)) ?_
    refine Jl.pv (PR.fieldAddr rfl tfl24_2) ?_
    refine Jl.pv (PR.load1 rfl tsh3 (by repeat (first | exact Has.here | apply Has.there)) (by rfl)) ?_
    refine Jl.pv (PR.fieldAddr rfl tfl24_3) ?_
    refine Jl.pv (PR.load1 rfl tsh3 (by repeat (first | exact Has.here | apply Has.there)) (by rfl)) ?_
    refine Jl.buildSlice (by rfl) tsl57 tzr57_3 (by rfl) (by rfl) ?_
    intro b16
    refine Jl.seal (by repeat (first | exact Del.here | apply Del.there)) ?_
    refine Jl.call (numbers3_ct (some ⟨b16, 0, none⟩) 3 c.fl c.dr c.now) en24 (by rfl) (by repeat (first | exact Take.nil | apply Take.cons (by repeat (first | exact Del.here | apply Del.there)))) (by repeat (first | exact trivial | refine And.intro (by repeat (first | exact Mem.here | apply Mem.there)) ?_)) ?_
    rintro ⟨⟩
    refine Jl.pv (PR.not rfl) ?_
    refine Jl.nil ?_
    refine Jq.thenN ?_
    refine Jc.cond rfl (fun h1 => ?_) (fun h1 => ?_)
    · try replace h1 := of_decide_eq_true h1
      refine Jc.seq ?_
      refine Jc.region ?_
      refine Jl.pv (PR.assign rfl) ?_
      refine Jl.nil ?_
      refine Jq.thenN ?_
      refine Jc.ret ?_
      refine Jq.thenR ?_
      exact Jq.fin () (.inl rfl) rfl (RetVs.tmp rfl RetVs.nil) (by rw [Cl.ok_no (fun h => by have q1 := h.fl; have q2 := h.dr; have q3 := h.now; simp_all)]; rfl) (by repeat (first | exact Take.nil | apply Take.cons (by repeat (first | exact Del.here | apply Del.there)))) (by repeat (first | exact trivial | refine And.intro (by repeat (first | exact Mem.here | apply Mem.there)) ?_))
    · try replace h1 := of_decide_eq_false h1
      replace h1 := not_false h1
      simp only [Bool.and_eq_true] at h1
      refine Jc.skip ?_
      refine Jq.thenN ?_
      refine Jc.seq ?_
      refine Jc.region ?_
      refine Jl.makeMapI Try.underlying56 ?_
      intro b19
      refine Jl.pv (PR.assign rfl) ?_
      refine Jl.nil ?_
      refine Jq.thenN ?_
      refine Jc.seq ?_
      refine Jc.seq ?_
      refine Jc.region ?_
      refine Jl.pv (PR.fieldAddr rfl tfl24_0) ?_
      refine Jl.pv (PR.load1 rfl tsh22 (by repeat (first | exact Has.here | apply Has.there)) (by rfl)) ?_
      refine Jl.pv (PR.len rfl tsl22) ?_
      refine Jl.pv (PR.move rfl) ?_
      refine Jl.nil ?_
      refine Jq.thenN ?_
      refine Jc.block ?_
      refine Jc.loop (σ := { k : Nat // k ≤ c.bs.length ∧ ∀ i, i < k → (h : i < c.bs.length) → c.bs[i].okAt i ∧ ∀ q, (hq : q < i) → 0 < c.bs[i].tok → c.bs[q].tok ≠ c.bs[i].tok }) (fun s => [(23, .int .i64 (s.1 : Int)), (22, .int .i64 (c.bs.length : Int)), (21, .slice A c.bs.length cA), (3, .map (some b19))]) (fun s => [.mapI Try.prog 3 3 b19 s.1 (cntT c.bs s.1), .blk b1 24 (c.cs (A, cA))]) (fun _ => [.rd A (bxsV c.bs)]) (fun s => c.bs.length - s.1) ⟨0, Nat.zero_le _, fun _ h => by omega⟩ (by repeat (first | exact trivial | refine And.intro rfl ?_)) rfl (by repeat (first | exact trivial | refine And.intro (by repeat (first | exact Mem.here | apply Mem.there)) ?_)) ?_
      rintro ⟨k, hk, hI⟩
      show Jc _ _ _ _ _ _ [(23, Value.int .i64 (k : Int)), (22, .int .i64 (c.bs.length : Int)), (21, .slice A c.bs.length cA), (3, .map (some b19))] [.mapI Try.prog 3 3 b19 k (cntT c.bs k), .blk b1 24 (c.cs (A, cA))] [.rd A (bxsV c.bs)]
      -- kinds
      refine Jc.seq ?_
      refine Jc.region ?_
      refine Jl.pv (PR.lss _ rfl rfl rfl) ?_
      refine Jl.nil ?_
      refine Jq.thenN ?_
      refine Jc.seq ?_
      refine Jc.cond rfl (fun h2 => ?_) (fun h2 => ?_)
      · try replace h2 := of_decide_eq_true h2
        have hlt : k < c.bs.length := by omega
        have hle := cntT_le c.bs k c.bs[k].tok
        have hwk := hw c.bs[k] (List.getElem_mem _)
        refine Jc.skip ?_
        refine Jq.thenN ?_
        refine Jc.seq ?_
        refine Jc.block ?_
        refine Jc.seq ?_
        refine Jc.region ?_
        refine Jl.pv (PR.move rfl) ?_
        refine Jl.pv (PR.idx k rfl rfl tsl22 (by repeat (first | exact Mem.here | apply Mem.there)) (bxsV_len _) (by omega) rfl hlt) ?_
        refine Jl.pv (PR.loadRA rfl tsh33 (by repeat (first | exact Mem.here | apply Mem.there)) (by decide) (bxs_at hlt)) ?_
        refine Jl.alloc tze33 ?_
        intro b5
        refine Jl.pv (PR.assign rfl) ?_
        refine Jl.storeW rfl tsh33 rfl (by rfl) (by simp [Value.oneCell', Bx.cs]) (by repeat (first | exact Swap.here | apply Swap.there)) (by rfl) ?_
        refine Jl.nil ?_
        refine Jq.thenN ?_
        refine Jc.seq ?_
        refine Jc.seq ?_
        refine Jc.region ?_
        refine Jl.pv (PR.move rfl) ?_
        refine Jl.pv (PR.fieldAddr rfl tfl33_1) ?_
        refine Jl.pv (PR.load1 rfl tsh3 (by repeat (first | exact Has.here | apply Has.there)) (by rfl)) ?_
        refine Jl.pv (PR.lookupI rfl rfl Try.underlying56 Try.underlying3 Try.underlying3 (fun _ => by kernel_rfl) (by repeat (first | exact Del.here | apply Del.there)) hwk) ?_
        refine Jl.pv (PR.add (cntT c.bs k c.bs[k].tok + 1) rfl rfl (w64 (by omega) (by omega))) ?_
        refine Jl.mapUpdateI rfl rfl rfl Try.underlying56 Try.underlying3 Try.underlying3 (by repeat (first | exact Swap.here | apply Swap.there)) hwk (wf64 (by omega) (by omega)) rfl (by omega) (cntT_next hlt) ?_
        refine Jl.nil ?_
        refine Jq.thenN ?_
        refine Jc.seq ?_
        refine Jc.region ?_
        refine Jl.pv (PR.fieldAddr rfl tfl33_1) ?_
        refine Jl.pv (PR.load1 rfl tsh3 (by repeat (first | exact Has.here | apply Has.there)) (by rfl)) ?_
        refine Jl.pv (PR.gtr _ rfl rfl rfl) ?_
        refine Jl.pv (PR.move rfl) ?_
        refine Jl.bsplit (fun g36 => ?_) (fun g36 => ?_)
        · try replace g36 := of_decide_eq_true g36
          refine Jl.on rfl rfl ?_
          refine Jl.pv (PR.move rfl) ?_
          refine Jl.on rfl rfl ?_
          refine Jl.pv (PR.fieldAddr rfl tfl33_1) ?_
          refine Jl.on rfl rfl ?_
          refine Jl.pv (PR.load1 rfl tsh3 (by repeat (first | exact Has.here | apply Has.there)) (by rfl)) ?_
          refine Jl.on rfl rfl ?_
          refine Jl.pv (PR.lookupI rfl rfl Try.underlying56 Try.underlying3 Try.underlying3 (fun _ => by kernel_rfl) (by repeat (first | exact Del.here | apply Del.there)) hwk) ?_
          refine Jl.on rfl rfl ?_
          refine Jl.pv (PR.gtr _ rfl rfl rfl) ?_
          refine Jl.pv (PR.pickT rfl rfl) ?_
          refine Jl.pv (PR.move rfl) ?_
          refine Jl.bsplit (fun g43 => ?_) (fun g43 => ?_)
          · try replace g43 := of_decide_eq_true g43
            obtain ⟨j, hj, hjt⟩ := cntT_dup hlt g43
            refine Jl.offS rfl rfl rfl ?_
            refine Jl.offS rfl rfl rfl ?_
            refine Jl.offS rfl rfl rfl ?_
            refine Jl.offS rfl rfl rfl ?_
            refine Jl.offS rfl rfl rfl ?_
            refine Jl.offS rfl rfl rfl ?_
            refine Jl.offS rfl rfl rfl ?_
            refine Jl.offS rfl rfl rfl ?_
            refine Jl.offS rfl rfl rfl ?_
            refine Jl.pv (PR.pickT rfl rfl) ?_
            refine Jl.pv (PR.move rfl) ?_
            refine Jl.offS rfl rfl rfl ?_
            refine Jl.offS rfl rfl rfl ?_
            refine Jl.offS rfl rfl rfl ?_
            refine Jl.offS rfl rfl rfl ?_
            refine Jl.offS rfl rfl rfl ?_
            refine Jl.pv (PR.pickT rfl rfl) ?_
            refine Jl.nil ?_
            refine Jq.thenN ?_
            refine Jc.condT rfl ?_
            refine Jc.seq ?_
            refine Jc.region ?_
            refine Jl.pv (PR.assign rfl) ?_
            refine Jl.nil ?_
            refine Jq.thenN ?_
            refine Jc.ret ?_
            refine Jq.thenR ?_
            refine Jq.blkR ?_
            refine Jq.thenR ?_
            refine Jq.thenR ?_
            refine Jq.blkR ?_
            refine Jq.thenR ?_
            exact Jq.fin () (.inl rfl) rfl (RetVs.tmp rfl RetVs.nil) (by rw [Cl.ok_no (fun h => (h.bs k hlt).2 j hj g36 hjt)]; rfl) (by repeat (first | exact Take.nil | apply Take.cons (by repeat (first | exact Del.here | apply Del.there)))) (by repeat (first | exact trivial | refine And.intro (by repeat (first | exact Mem.here | apply Mem.there)) ?_))
          · try replace g43 := of_decide_eq_false g43
            have huniq : ∀ q, (hq : q < k) → 0 < c.bs[k].tok → c.bs[q].tok ≠ c.bs[k].tok := fun q hq _ => cntT_uniq hlt g43 q hq
            refine Jl.on rfl rfl ?_
            refine Jl.pv (PR.fieldAddr rfl tfl33_1) ?_
            refine Jl.on rfl rfl ?_
            refine Jl.pv (PR.load1 rfl tsh3 (by repeat (first | exact Has.here | apply Has.there)) (by rfl)) ?_
            refine Jl.on rfl rfl ?_
            refine Jl.pv (PR.fieldAddr rfl tfl33_2) ?_
            refine Jl.on rfl rfl ?_
            refine Jl.pv (PR.load1 rfl tsh3 (by repeat (first | exact Has.here | apply Has.there)) (by rfl)) ?_
            refine Jl.on rfl rfl ?_
            refine Jl.pv (PR.fieldAddr rfl tfl33_3) ?_
            refine Jl.on rfl rfl ?_
            refine Jl.pv (PR.load1 rfl tsh3 (by repeat (first | exact Has.here | apply Has.there)) (by rfl)) ?_
            refine Jl.on rfl rfl ?_
            refine Jl.buildSlice (by rfl) tsl57 tzr57_3 (by rfl) (by rfl) ?_
            intro b50
            refine Jl.seal (by repeat (first | exact Del.here | apply Del.there)) ?_
            refine Jl.on rfl rfl ?_
            refine Jl.call (numbers3_ct (some ⟨b50, 0, none⟩) 3 c.bs[k].tok c.bs[k].ver c.bs[k].zon) en24 (by rfl) (by repeat (first | exact Take.nil | apply Take.cons (by repeat (first | exact Del.here | apply Del.there)))) (by repeat (first | exact trivial | refine And.intro (by repeat (first | exact Mem.here | apply Mem.there)) ?_)) ?_
            rintro ⟨⟩
            refine Jl.on rfl rfl ?_
            refine Jl.pv (PR.not rfl) ?_
            refine Jl.pv (PR.pickF rfl rfl) ?_
            refine Jl.pv (PR.move rfl) ?_
            refine Jl.bsplit (fun g54 => ?_) (fun g54 => ?_)
            · try replace g54 := of_decide_eq_true g54
              refine Jl.offS rfl rfl rfl ?_
              refine Jl.offS rfl rfl rfl ?_
              refine Jl.offS rfl rfl rfl ?_
              refine Jl.offS rfl rfl rfl ?_
              refine Jl.offS rfl rfl rfl ?_
              refine Jl.pv (PR.pickT rfl rfl) ?_
              refine Jl.nil ?_
              refine Jq.thenN ?_
              refine Jc.condT rfl ?_
              refine Jc.seq ?_
              refine Jc.region ?_
              refine Jl.pv (PR.assign rfl) ?_
              refine Jl.nil ?_
              refine Jq.thenN ?_
              refine Jc.ret ?_
              refine Jq.thenR ?_
              refine Jq.blkR ?_
              refine Jq.thenR ?_
              refine Jq.thenR ?_
              refine Jq.blkR ?_
              refine Jq.thenR ?_
              exact Jq.fin () (.inl rfl) rfl (RetVs.tmp rfl RetVs.nil) (by rw [Cl.ok_no (fun h => by obtain ⟨⟨q1, q2, q3, q4, q5, q6, q7⟩, _⟩ := h.bs k hlt; first | omega | (simp_all; done))]; rfl) (by repeat (first | exact Take.nil | apply Take.cons (by repeat (first | exact Del.here | apply Del.there)))) (by repeat (first | exact trivial | refine And.intro (by repeat (first | exact Mem.here | apply Mem.there)) ?_))
            · try replace g54 := of_decide_eq_false g54
              refine Jl.on rfl rfl ?_
              refine Jl.pv (PR.fieldAddr rfl tfl33_0) ?_
              refine Jl.on rfl rfl ?_
              refine Jl.pv (PR.load1 rfl tsh3 (by repeat (first | exact Has.here | apply Has.there)) (by rfl)) ?_
              refine Jl.on rfl rfl ?_
              refine Jl.pv (PR.move rfl) ?_
              refine Jl.on rfl rfl ?_
              refine Jl.pv (PR.add ((k : Int) + 1) rfl rfl (w64 (by omega) (by omega))) ?_
              refine Jl.on rfl rfl ?_
              refine Jl.pv (PR.neq _ rfl rfl rfl) ?_
              refine Jl.pv (PR.pickF rfl rfl) ?_
              refine Jl.nil ?_
              refine Jq.thenN ?_
              refine Jc.cond rfl (fun h3 => ?_) (fun h3 => ?_)
              · try replace h3 := of_decide_eq_true h3
                refine Jc.seq ?_
                refine Jc.region ?_
                refine Jl.pv (PR.assign rfl) ?_
                refine Jl.nil ?_
                refine Jq.thenN ?_
                refine Jc.ret ?_
                refine Jq.thenR ?_
                refine Jq.blkR ?_
                refine Jq.thenR ?_
                refine Jq.thenR ?_
                refine Jq.blkR ?_
                refine Jq.thenR ?_
                exact Jq.fin () (.inl rfl) rfl (RetVs.tmp rfl RetVs.nil) (by rw [Cl.ok_no (fun h => by obtain ⟨⟨q1, q2, q3, q4, q5, q6, q7⟩, _⟩ := h.bs k hlt; first | omega | (simp_all; done))]; rfl) (by repeat (first | exact Take.nil | apply Take.cons (by repeat (first | exact Del.here | apply Del.there)))) (by repeat (first | exact trivial | refine And.intro (by repeat (first | exact Mem.here | apply Mem.there)) ?_))
              · try replace h3 := of_decide_eq_false h3
                refine Jc.skip ?_
                refine Jq.thenN ?_
                refine Jc.seq ?_
                refine Jc.region ?_
                refine Jl.pv (PR.fieldAddr rfl tfl33_8) ?_
                refine Jl.pv (PR.load1 rfl tsh5 (by repeat (first | exact Has.here | apply Has.there)) (by rfl)) ?_
                refine Jl.pv (PR.gtr _ rfl rfl rfl) ?_
                refine Jl.pv (PR.move rfl) ?_
                refine Jl.bsplit (fun g64 => ?_) (fun g64 => ?_)
                · try replace g64 := of_decide_eq_true g64
                  refine Jl.offS rfl rfl rfl ?_
                  refine Jl.offS rfl rfl rfl ?_
                  refine Jl.offS rfl rfl rfl ?_
                  refine Jl.offS rfl rfl rfl ?_
                  refine Jl.offUS rfl rfl ?_
                  refine Jl.offUS rfl rfl ?_
                  refine Jl.offUS rfl rfl ?_
                  refine Jl.offS rfl rfl rfl ?_
                  refine Jl.pv (PR.pickT rfl rfl) ?_
                  refine Jl.pv (PR.move rfl) ?_
                  refine Jl.offS rfl rfl rfl ?_
                  refine Jl.offS rfl rfl rfl ?_
                  refine Jl.offS rfl rfl rfl ?_
                  refine Jl.offUS rfl rfl ?_
                  refine Jl.offUS rfl rfl ?_
                  refine Jl.offS rfl rfl rfl ?_
                  refine Jl.pv (PR.pickT rfl rfl) ?_
                  refine Jl.nil ?_
                  refine Jq.thenN ?_
                  refine Jc.condT rfl ?_
                  refine Jc.seq ?_
                  refine Jc.region ?_
                  refine Jl.pv (PR.assign rfl) ?_
                  refine Jl.nil ?_
                  refine Jq.thenN ?_
                  refine Jc.ret ?_
                  refine Jq.blkR ?_
                  refine Jq.thenR ?_
                  refine Jq.thenR ?_
                  refine Jq.blkR ?_
                  refine Jq.thenR ?_
                  exact Jq.fin () (.inl rfl) rfl (RetVs.tmp rfl RetVs.nil) (by rw [Cl.ok_no (fun h => by obtain ⟨⟨q1, q2, q3, q4, q5, q6, q7⟩, _⟩ := h.bs k hlt; first | omega | (simp_all; done))]; rfl) (by repeat (first | exact Take.nil | apply Take.cons (by repeat (first | exact Del.here | apply Del.there)))) (by repeat (first | exact trivial | refine And.intro (by repeat (first | exact Mem.here | apply Mem.there)) ?_))
                · try replace g64 := of_decide_eq_false g64
                  refine Jl.on rfl rfl ?_
                  refine Jl.pv (PR.fieldAddr rfl tfl33_8) ?_
                  refine Jl.on rfl rfl ?_
                  refine Jl.pv (PR.load1 rfl tsh5 (by repeat (first | exact Has.here | apply Has.there)) (by rfl)) ?_
                  refine Jl.on rfl rfl ?_
                  refine Jl.pv (PR.neq _ rfl rfl rfl) ?_
                  refine Jl.on rfl rfl ?_
                  refine Jl.pv (PR.move rfl) ?_
                  refine Jl.bsplit (fun g68 => ?_) (fun g68 => ?_)
                  · try replace g68 := of_decide_eq_true g68
                    refine Jl.on rfl rfl ?_
                    refine Jl.pv (PR.fieldAddr rfl tfl33_5) ?_
                    refine Jl.on rfl rfl ?_
                    refine Jl.pv (PR.load1 rfl tsh4 (by repeat (first | exact Has.here | apply Has.there)) (by rfl)) ?_
                    refine Jl.on rfl rfl ?_
                    refine Jl.pv (PR.not rfl) ?_
                    refine Jl.on rfl rfl ?_
                    refine Jl.pv (PR.pickT rfl rfl) ?_
                    refine Jl.pv (PR.pickF rfl rfl) ?_
                    refine Jl.pv (PR.move rfl) ?_
                    refine Jl.bsplit (fun g74 => ?_) (fun g74 => ?_)
                    · try replace g74 := of_decide_eq_true g74
                      refine Jl.offS rfl rfl rfl ?_
                      refine Jl.offS rfl rfl rfl ?_
                      refine Jl.offS rfl rfl rfl ?_
                      refine Jl.offUS rfl rfl ?_
                      refine Jl.offUS rfl rfl ?_
                      refine Jl.offS rfl rfl rfl ?_
                      refine Jl.pv (PR.pickT rfl rfl) ?_
                      refine Jl.nil ?_
                      refine Jq.thenN ?_
                      refine Jc.condT rfl ?_
                      refine Jc.seq ?_
                      refine Jc.region ?_
                      refine Jl.pv (PR.assign rfl) ?_
                      refine Jl.nil ?_
                      refine Jq.thenN ?_
                      refine Jc.ret ?_
                      refine Jq.blkR ?_
                      refine Jq.thenR ?_
                      refine Jq.thenR ?_
                      refine Jq.blkR ?_
                      refine Jq.thenR ?_
                      exact Jq.fin () (.inl rfl) rfl (RetVs.tmp rfl RetVs.nil) (by rw [Cl.ok_no (fun h => by obtain ⟨⟨q1, q2, q3, q4, q5, q6, q7⟩, _⟩ := h.bs k hlt; first | omega | (simp_all; done))]; rfl) (by repeat (first | exact Take.nil | apply Take.cons (by repeat (first | exact Del.here | apply Del.there)))) (by repeat (first | exact trivial | refine And.intro (by repeat (first | exact Mem.here | apply Mem.there)) ?_))
                    · try replace g74 := of_decide_eq_false g74
                      refine Jl.on rfl rfl ?_
                      refine Jl.pv (PR.fieldAddr rfl tfl33_6) ?_
                      refine Jl.on rfl rfl ?_
                      refine Jl.pv (PR.load1 rfl tsh4 (by repeat (first | exact Has.here | apply Has.there)) (by rfl)) ?_
                      refine Jl.on rfl rfl ?_
                      refine Jl.pv (PR.move rfl) ?_
                      refine Jl.bsplit (fun g77 => ?_) (fun g77 => ?_)
                      · try replace g77 := of_decide_eq_true g77
                        refine Jl.on rfl rfl ?_
                        refine Jl.pv (PR.fieldAddr rfl tfl33_5) ?_
                        refine Jl.on rfl rfl ?_
                        refine Jl.pv (PR.load1 rfl tsh4 (by repeat (first | exact Has.here | apply Has.there)) (by rfl)) ?_
                        refine Jl.on rfl rfl ?_
                        refine Jl.pv (PR.pickT rfl rfl) ?_
                        refine Jl.pv (PR.pickF rfl rfl) ?_
                        refine Jl.nil ?_
                        refine Jq.thenN ?_
                        refine Jc.cond rfl (fun h4 => ?_) (fun h4 => ?_)
                        · try replace h4 := of_decide_eq_true h4
                          refine Jc.seq ?_
                          refine Jc.region ?_
                          refine Jl.pv (PR.assign rfl) ?_
                          refine Jl.nil ?_
                          refine Jq.thenN ?_
                          refine Jc.ret ?_
                          refine Jq.blkR ?_
                          refine Jq.thenR ?_
                          refine Jq.thenR ?_
                          refine Jq.blkR ?_
                          refine Jq.thenR ?_
                          exact Jq.fin () (.inl rfl) rfl (RetVs.tmp rfl RetVs.nil) (by rw [Cl.ok_no (fun h => by obtain ⟨⟨q1, q2, q3, q4, q5, q6, q7⟩, _⟩ := h.bs k hlt; first | omega | (simp_all; done))]; rfl) (by repeat (first | exact Take.nil | apply Take.cons (by repeat (first | exact Del.here | apply Del.there)))) (by repeat (first | exact trivial | refine And.intro (by repeat (first | exact Mem.here | apply Mem.there)) ?_))
                        · try replace h4 := of_decide_eq_false h4
                          refine Jc.skip ?_
                          refine Jq.blkN ?_
                          refine Jq.thenN ?_
                          refine Jc.region ?_
                          refine Jl.pv (PR.add ((k + 1 : Nat) : Int) rfl rfl (by rw [w64 (by omega) (by omega)]; rfl)) ?_
                          refine Jl.pv (PR.move rfl) ?_
                          refine Jl.nil ?_
                          exact Jq.againT ⟨k + 1, hlt, fun i hi hil => (Nat.lt_succ_iff_lt_or_eq.1 hi).elim (fun h => hI i h hil) (fun e => by subst e; exact ⟨by clear hI huniq hw; simp_all [Bx.okAt] <;> omega, huniq⟩)⟩ (by simp only; omega) (by repeat (first | exact trivial | refine And.intro rfl ?_)) (by repeat (first | exact Take.nil | apply Take.cons (by repeat (first | exact Del.here | apply Del.there)))) (by repeat (first | exact trivial | refine And.intro (by repeat (first | exact Mem.here | apply Mem.there)) ?_))
                      · try replace g77 := of_decide_eq_false g77
                        refine Jl.offS rfl rfl rfl ?_
                        refine Jl.offS rfl rfl rfl ?_
                        refine Jl.on rfl rfl ?_
                        refine Jl.pv (PR.pickF rfl rfl) ?_
                        refine Jl.pv (PR.pickF rfl rfl) ?_
                        refine Jl.nil ?_
                        refine Jq.thenN ?_
                        refine Jc.condF rfl ?_
                        refine Jc.skip ?_
                        refine Jq.blkN ?_
                        refine Jq.thenN ?_
                        refine Jc.region ?_
                        refine Jl.pv (PR.add ((k + 1 : Nat) : Int) rfl rfl (by rw [w64 (by omega) (by omega)]; rfl)) ?_
                        refine Jl.pv (PR.move rfl) ?_
                        refine Jl.nil ?_
                        exact Jq.againT ⟨k + 1, hlt, fun i hi hil => (Nat.lt_succ_iff_lt_or_eq.1 hi).elim (fun h => hI i h hil) (fun e => by subst e; exact ⟨by clear hI huniq hw; simp_all [Bx.okAt] <;> omega, huniq⟩)⟩ (by simp only; omega) (by repeat (first | exact trivial | refine And.intro rfl ?_)) (by repeat (first | exact Take.nil | apply Take.cons (by repeat (first | exact Del.here | apply Del.there)))) (by repeat (first | exact trivial | refine And.intro (by repeat (first | exact Mem.here | apply Mem.there)) ?_))
                  · try replace g68 := of_decide_eq_false g68
                    refine Jl.offS rfl rfl rfl ?_
                    refine Jl.offS rfl rfl rfl ?_
                    refine Jl.offS rfl rfl rfl ?_
                    refine Jl.on rfl rfl ?_
                    refine Jl.pv (PR.pickF rfl rfl) ?_
                    refine Jl.pv (PR.pickF rfl rfl) ?_
                    refine Jl.pv (PR.move rfl) ?_
                    refine Jl.on rfl rfl ?_
                    refine Jl.pv (PR.fieldAddr rfl tfl33_6) ?_
                    refine Jl.on rfl rfl ?_
                    refine Jl.pv (PR.load1 rfl tsh4 (by repeat (first | exact Has.here | apply Has.there)) (by rfl)) ?_
                    refine Jl.on rfl rfl ?_
                    refine Jl.pv (PR.move rfl) ?_
                    refine Jl.bsplit (fun g77 => ?_) (fun g77 => ?_)
                    · try replace g77 := of_decide_eq_true g77
                      refine Jl.on rfl rfl ?_
                      refine Jl.pv (PR.fieldAddr rfl tfl33_5) ?_
                      refine Jl.on rfl rfl ?_
                      refine Jl.pv (PR.load1 rfl tsh4 (by repeat (first | exact Has.here | apply Has.there)) (by rfl)) ?_
                      refine Jl.on rfl rfl ?_
                      refine Jl.pv (PR.pickT rfl rfl) ?_
                      refine Jl.pv (PR.pickF rfl rfl) ?_
                      refine Jl.nil ?_
                      refine Jq.thenN ?_
                      refine Jc.cond rfl (fun h5 => ?_) (fun h5 => ?_)
                      · try replace h5 := of_decide_eq_true h5
                        refine Jc.seq ?_
                        refine Jc.region ?_
                        refine Jl.pv (PR.assign rfl) ?_
                        refine Jl.nil ?_
                        refine Jq.thenN ?_
                        refine Jc.ret ?_
                        refine Jq.blkR ?_
                        refine Jq.thenR ?_
                        refine Jq.thenR ?_
                        refine Jq.blkR ?_
                        refine Jq.thenR ?_
                        exact Jq.fin () (.inl rfl) rfl (RetVs.tmp rfl RetVs.nil) (by rw [Cl.ok_no (fun h => by obtain ⟨⟨q1, q2, q3, q4, q5, q6, q7⟩, _⟩ := h.bs k hlt; first | omega | (simp_all; done))]; rfl) (by repeat (first | exact Take.nil | apply Take.cons (by repeat (first | exact Del.here | apply Del.there)))) (by repeat (first | exact trivial | refine And.intro (by repeat (first | exact Mem.here | apply Mem.there)) ?_))
                      · try replace h5 := of_decide_eq_false h5
                        refine Jc.skip ?_
                        refine Jq.blkN ?_
                        refine Jq.thenN ?_
                        refine Jc.region ?_
                        refine Jl.pv (PR.add ((k + 1 : Nat) : Int) rfl rfl (by rw [w64 (by omega) (by omega)]; rfl)) ?_
                        refine Jl.pv (PR.move rfl) ?_
                        refine Jl.nil ?_
                        exact Jq.againT ⟨k + 1, hlt, fun i hi hil => (Nat.lt_succ_iff_lt_or_eq.1 hi).elim (fun h => hI i h hil) (fun e => by subst e; exact ⟨by clear hI huniq hw; simp_all [Bx.okAt] <;> omega, huniq⟩)⟩ (by simp only; omega) (by repeat (first | exact trivial | refine And.intro rfl ?_)) (by repeat (first | exact Take.nil | apply Take.cons (by repeat (first | exact Del.here | apply Del.there)))) (by repeat (first | exact trivial | refine And.intro (by repeat (first | exact Mem.here | apply Mem.there)) ?_))
                    · try replace g77 := of_decide_eq_false g77
                      refine Jl.offS rfl rfl rfl ?_
                      refine Jl.offS rfl rfl rfl ?_
                      refine Jl.on rfl rfl ?_
                      refine Jl.pv (PR.pickF rfl rfl) ?_
                      refine Jl.pv (PR.pickF rfl rfl) ?_
                      refine Jl.nil ?_
                      refine Jq.thenN ?_
                      refine Jc.condF rfl ?_
                      refine Jc.skip ?_
                      refine Jq.blkN ?_
                      refine Jq.thenN ?_
                      refine Jc.region ?_
                      refine Jl.pv (PR.add ((k + 1 : Nat) : Int) rfl rfl (by rw [w64 (by omega) (by omega)]; rfl)) ?_
                      refine Jl.pv (PR.move rfl) ?_
                      refine Jl.nil ?_
                      exact Jq.againT ⟨k + 1, hlt, fun i hi hil => (Nat.lt_succ_iff_lt_or_eq.1 hi).elim (fun h => hI i h hil) (fun e => by subst e; exact ⟨by clear hI huniq hw; simp_all [Bx.okAt] <;> omega, huniq⟩)⟩ (by simp only; omega) (by repeat (first | exact trivial | refine And.intro rfl ?_)) (by repeat (first | exact Take.nil | apply Take.cons (by repeat (first | exact Del.here | apply Del.there)))) (by repeat (first | exact trivial | refine And.intro (by repeat (first | exact Mem.here | apply Mem.there)) ?_))
        · try replace g36 := of_decide_eq_false g36
          have huniq : ∀ q, (hq : q < k) → 0 < c.bs[k].tok → c.bs[q].tok ≠ c.bs[k].tok := fun q hq ht => (g36 ht).elim
          refine Jl.offS rfl rfl rfl ?_
          refine Jl.offS rfl rfl rfl ?_
          refine Jl.offS rfl rfl rfl ?_
          refine Jl.offS rfl rfl rfl ?_
          refine Jl.offS rfl rfl rfl ?_
          refine Jl.pv (PR.pickF rfl rfl) ?_
          refine Jl.pv (PR.move rfl) ?_
          refine Jl.on rfl rfl ?_
          refine Jl.pv (PR.fieldAddr rfl tfl33_1) ?_
          refine Jl.on rfl rfl ?_
          refine Jl.pv (PR.load1 rfl tsh3 (by repeat (first | exact Has.here | apply Has.there)) (by rfl)) ?_
          refine Jl.on rfl rfl ?_
          refine Jl.pv (PR.fieldAddr rfl tfl33_2) ?_
          refine Jl.on rfl rfl ?_
          refine Jl.pv (PR.load1 rfl tsh3 (by repeat (first | exact Has.here | apply Has.there)) (by rfl)) ?_
          refine Jl.on rfl rfl ?_
          refine Jl.pv (PR.fieldAddr rfl tfl33_3) ?_
          refine Jl.on rfl rfl ?_
          refine Jl.pv (PR.load1 rfl tsh3 (by repeat (first | exact Has.here | apply Has.there)) (by rfl)) ?_
          refine Jl.on rfl rfl ?_
          refine Jl.buildSlice (by rfl) tsl57 tzr57_3 (by rfl) (by rfl) ?_
          intro b50
          refine Jl.seal (by repeat (first | exact Del.here | apply Del.there)) ?_
          refine Jl.on rfl rfl ?_
          refine Jl.call (numbers3_ct (some ⟨b50, 0, none⟩) 3 c.bs[k].tok c.bs[k].ver c.bs[k].zon) en24 (by rfl) (by repeat (first | exact Take.nil | apply Take.cons (by repeat (first | exact Del.here | apply Del.there)))) (by repeat (first | exact trivial | refine And.intro (by repeat (first | exact Mem.here | apply Mem.there)) ?_)) ?_
          rintro ⟨⟩
          refine Jl.on rfl rfl ?_
          refine Jl.pv (PR.not rfl) ?_
          refine Jl.pv (PR.pickF rfl rfl) ?_
          refine Jl.pv (PR.move rfl) ?_
          refine Jl.bsplit (fun g54 => ?_) (fun g54 => ?_)
          · try replace g54 := of_decide_eq_true g54
            refine Jl.offS rfl rfl rfl ?_
            refine Jl.offS rfl rfl rfl ?_
            refine Jl.offS rfl rfl rfl ?_
            refine Jl.offS rfl rfl rfl ?_
            refine Jl.offS rfl rfl rfl ?_
            refine Jl.pv (PR.pickT rfl rfl) ?_
            refine Jl.nil ?_
            refine Jq.thenN ?_
            refine Jc.condT rfl ?_
            refine Jc.seq ?_
            refine Jc.region ?_
            refine Jl.pv (PR.assign rfl) ?_
            refine Jl.nil ?_
            refine Jq.thenN ?_
            refine Jc.ret ?_
            refine Jq.thenR ?_
            refine Jq.blkR ?_
            refine Jq.thenR ?_
            refine Jq.thenR ?_
            refine Jq.blkR ?_
            refine Jq.thenR ?_
            exact Jq.fin () (.inl rfl) rfl (RetVs.tmp rfl RetVs.nil) (by rw [Cl.ok_no (fun h => by obtain ⟨⟨q1, q2, q3, q4, q5, q6, q7⟩, _⟩ := h.bs k hlt; first | omega | (simp_all; done))]; rfl) (by repeat (first | exact Take.nil | apply Take.cons (by repeat (first | exact Del.here | apply Del.there)))) (by repeat (first | exact trivial | refine And.intro (by repeat (first | exact Mem.here | apply Mem.there)) ?_))
          · try replace g54 := of_decide_eq_false g54
            refine Jl.on rfl rfl ?_
            refine Jl.pv (PR.fieldAddr rfl tfl33_0) ?_
            refine Jl.on rfl rfl ?_
            refine Jl.pv (PR.load1 rfl tsh3 (by repeat (first | exact Has.here | apply Has.there)) (by rfl)) ?_
            refine Jl.on rfl rfl ?_
            refine Jl.pv (PR.move rfl) ?_
            refine Jl.on rfl rfl ?_
            refine Jl.pv (PR.add ((k : Int) + 1) rfl rfl (w64 (by omega) (by omega))) ?_
            refine Jl.on rfl rfl ?_
            refine Jl.pv (PR.neq _ rfl rfl rfl) ?_
            refine Jl.pv (PR.pickF rfl rfl) ?_
            refine Jl.nil ?_
            refine Jq.thenN ?_
            refine Jc.cond rfl (fun h6 => ?_) (fun h6 => ?_)
            · try replace h6 := of_decide_eq_true h6
              refine Jc.seq ?_
              refine Jc.region ?_
              refine Jl.pv (PR.assign rfl) ?_
              refine Jl.nil ?_
              refine Jq.thenN ?_
              refine Jc.ret ?_
              refine Jq.thenR ?_
              refine Jq.blkR ?_
              refine Jq.thenR ?_
              refine Jq.thenR ?_
              refine Jq.blkR ?_
              refine Jq.thenR ?_
              exact Jq.fin () (.inl rfl) rfl (RetVs.tmp rfl RetVs.nil) (by rw [Cl.ok_no (fun h => by obtain ⟨⟨q1, q2, q3, q4, q5, q6, q7⟩, _⟩ := h.bs k hlt; first | omega | (simp_all; done))]; rfl) (by repeat (first | exact Take.nil | apply Take.cons (by repeat (first | exact Del.here | apply Del.there)))) (by repeat (first | exact trivial | refine And.intro (by repeat (first | exact Mem.here | apply Mem.there)) ?_))
            · try replace h6 := of_decide_eq_false h6
              refine Jc.skip ?_
              refine Jq.thenN ?_
              refine Jc.seq ?_
              refine Jc.region ?_
              refine Jl.pv (PR.fieldAddr rfl tfl33_8) ?_
              refine Jl.pv (PR.load1 rfl tsh5 (by repeat (first | exact Has.here | apply Has.there)) (by rfl)) ?_
              refine Jl.pv (PR.gtr _ rfl rfl rfl) ?_
              refine Jl.pv (PR.move rfl) ?_
              refine Jl.bsplit (fun g64 => ?_) (fun g64 => ?_)
              · try replace g64 := of_decide_eq_true g64
                refine Jl.offS rfl rfl rfl ?_
                refine Jl.offS rfl rfl rfl ?_
                refine Jl.offS rfl rfl rfl ?_
                refine Jl.offS rfl rfl rfl ?_
                refine Jl.offUS rfl rfl ?_
                refine Jl.offUS rfl rfl ?_
                refine Jl.offUS rfl rfl ?_
                refine Jl.offS rfl rfl rfl ?_
                refine Jl.pv (PR.pickT rfl rfl) ?_
                refine Jl.pv (PR.move rfl) ?_
                refine Jl.offS rfl rfl rfl ?_
                refine Jl.offS rfl rfl rfl ?_
                refine Jl.offS rfl rfl rfl ?_
                refine Jl.offUS rfl rfl ?_
                refine Jl.offUS rfl rfl ?_
                refine Jl.offS rfl rfl rfl ?_
                refine Jl.pv (PR.pickT rfl rfl) ?_
                refine Jl.nil ?_
                refine Jq.thenN ?_
                refine Jc.condT rfl ?_
                refine Jc.seq ?_
                refine Jc.region ?_
                refine Jl.pv (PR.assign rfl) ?_
                refine Jl.nil ?_
                refine Jq.thenN ?_
                refine Jc.ret ?_
                refine Jq.blkR ?_
                refine Jq.thenR ?_
                refine Jq.thenR ?_
                refine Jq.blkR ?_
                refine Jq.thenR ?_
                exact Jq.fin () (.inl rfl) rfl (RetVs.tmp rfl RetVs.nil) (by rw [Cl.ok_no (fun h => by obtain ⟨⟨q1, q2, q3, q4, q5, q6, q7⟩, _⟩ := h.bs k hlt; first | omega | (simp_all; done))]; rfl) (by repeat (first | exact Take.nil | apply Take.cons (by repeat (first | exact Del.here | apply Del.there)))) (by repeat (first | exact trivial | refine And.intro (by repeat (first | exact Mem.here | apply Mem.there)) ?_))
              · try replace g64 := of_decide_eq_false g64
                refine Jl.on rfl rfl ?_
                refine Jl.pv (PR.fieldAddr rfl tfl33_8) ?_
                refine Jl.on rfl rfl ?_
                refine Jl.pv (PR.load1 rfl tsh5 (by repeat (first | exact Has.here | apply Has.there)) (by rfl)) ?_
                refine Jl.on rfl rfl ?_
                refine Jl.pv (PR.neq _ rfl rfl rfl) ?_
                refine Jl.on rfl rfl ?_
                refine Jl.pv (PR.move rfl) ?_
                refine Jl.bsplit (fun g68 => ?_) (fun g68 => ?_)
                · try replace g68 := of_decide_eq_true g68
                  refine Jl.on rfl rfl ?_
                  refine Jl.pv (PR.fieldAddr rfl tfl33_5) ?_
                  refine Jl.on rfl rfl ?_
                  refine Jl.pv (PR.load1 rfl tsh4 (by repeat (first | exact Has.here | apply Has.there)) (by rfl)) ?_
                  refine Jl.on rfl rfl ?_
                  refine Jl.pv (PR.not rfl) ?_
                  refine Jl.on rfl rfl ?_
                  refine Jl.pv (PR.pickT rfl rfl) ?_
                  refine Jl.pv (PR.pickF rfl rfl) ?_
                  refine Jl.pv (PR.move rfl) ?_
                  refine Jl.bsplit (fun g74 => ?_) (fun g74 => ?_)
                  · try replace g74 := of_decide_eq_true g74
                    refine Jl.offS rfl rfl rfl ?_
                    refine Jl.offS rfl rfl rfl ?_
                    refine Jl.offS rfl rfl rfl ?_
                    refine Jl.offUS rfl rfl ?_
                    refine Jl.offUS rfl rfl ?_
                    refine Jl.offS rfl rfl rfl ?_
                    refine Jl.pv (PR.pickT rfl rfl) ?_
                    refine Jl.nil ?_
                    refine Jq.thenN ?_
                    refine Jc.condT rfl ?_
                    refine Jc.seq ?_
                    refine Jc.region ?_
                    refine Jl.pv (PR.assign rfl) ?_
                    refine Jl.nil ?_
                    refine Jq.thenN ?_
                    refine Jc.ret ?_
                    refine Jq.blkR ?_
                    refine Jq.thenR ?_
                    refine Jq.thenR ?_
                    refine Jq.blkR ?_
                    refine Jq.thenR ?_
                    exact Jq.fin () (.inl rfl) rfl (RetVs.tmp rfl RetVs.nil) (by rw [Cl.ok_no (fun h => by obtain ⟨⟨q1, q2, q3, q4, q5, q6, q7⟩, _⟩ := h.bs k hlt; first | omega | (simp_all; done))]; rfl) (by repeat (first | exact Take.nil | apply Take.cons (by repeat (first | exact Del.here | apply Del.there)))) (by repeat (first | exact trivial | refine And.intro (by repeat (first | exact Mem.here | apply Mem.there)) ?_))
                  · try replace g74 := of_decide_eq_false g74
                    refine Jl.on rfl rfl ?_
                    refine Jl.pv (PR.fieldAddr rfl tfl33_6) ?_
                    refine Jl.on rfl rfl ?_
                    refine Jl.pv (PR.load1 rfl tsh4 (by repeat (first | exact Has.here | apply Has.there)) (by rfl)) ?_
                    refine Jl.on rfl rfl ?_
                    refine Jl.pv (PR.move rfl) ?_
                    refine Jl.bsplit (fun g77 => ?_) (fun g77 => ?_)
                    · try replace g77 := of_decide_eq_true g77
                      refine Jl.on rfl rfl ?_
                      refine Jl.pv (PR.fieldAddr rfl tfl33_5) ?_
                      refine Jl.on rfl rfl ?_
                      refine Jl.pv (PR.load1 rfl tsh4 (by repeat (first | exact Has.here | apply Has.there)) (by rfl)) ?_
                      refine Jl.on rfl rfl ?_
                      refine Jl.pv (PR.pickT rfl rfl) ?_
                      refine Jl.pv (PR.pickF rfl rfl) ?_
                      refine Jl.nil ?_
                      refine Jq.thenN ?_
                      refine Jc.cond rfl (fun h7 => ?_) (fun h7 => ?_)
                      · try replace h7 := of_decide_eq_true h7
                        refine Jc.seq ?_
                        refine Jc.region ?_
                        refine Jl.pv (PR.assign rfl) ?_
                        refine Jl.nil ?_
                        refine Jq.thenN ?_
                        refine Jc.ret ?_
                        refine Jq.blkR ?_
                        refine Jq.thenR ?_
                        refine Jq.thenR ?_
                        refine Jq.blkR ?_
                        refine Jq.thenR ?_
                        exact Jq.fin () (.inl rfl) rfl (RetVs.tmp rfl RetVs.nil) (by rw [Cl.ok_no (fun h => by obtain ⟨⟨q1, q2, q3, q4, q5, q6, q7⟩, _⟩ := h.bs k hlt; first | omega | (simp_all; done))]; rfl) (by repeat (first | exact Take.nil | apply Take.cons (by repeat (first | exact Del.here | apply Del.there)))) (by repeat (first | exact trivial | refine And.intro (by repeat (first | exact Mem.here | apply Mem.there)) ?_))
                      · try replace h7 := of_decide_eq_false h7
                        refine Jc.skip ?_
                        refine Jq.blkN ?_
                        refine Jq.thenN ?_
                        refine Jc.region ?_
                        refine Jl.pv (PR.add ((k + 1 : Nat) : Int) rfl rfl (by rw [w64 (by omega) (by omega)]; rfl)) ?_
                        refine Jl.pv (PR.move rfl) ?_
                        refine Jl.nil ?_
                        exact Jq.againT ⟨k + 1, hlt, fun i hi hil => (Nat.lt_succ_iff_lt_or_eq.1 hi).elim (fun h => hI i h hil) (fun e => by subst e; exact ⟨by clear hI huniq hw; simp_all [Bx.okAt] <;> omega, huniq⟩)⟩ (by simp only; omega) (by repeat (first | exact trivial | refine And.intro rfl ?_)) (by repeat (first | exact Take.nil | apply Take.cons (by repeat (first | exact Del.here | apply Del.there)))) (by repeat (first | exact trivial | refine And.intro (by repeat (first | exact Mem.here | apply Mem.there)) ?_))
                    · try replace g77 := of_decide_eq_false g77
                      refine Jl.offS rfl rfl rfl ?_
                      refine Jl.offS rfl rfl rfl ?_
                      refine Jl.on rfl rfl ?_
                      refine Jl.pv (PR.pickF rfl rfl) ?_
                      refine Jl.pv (PR.pickF rfl rfl) ?_
                      refine Jl.nil ?_
                      refine Jq.thenN ?_
                      refine Jc.condF rfl ?_
                      refine Jc.skip ?_
                      refine Jq.blkN ?_
                      refine Jq.thenN ?_
                      refine Jc.region ?_
                      refine Jl.pv (PR.add ((k + 1 : Nat) : Int) rfl rfl (by rw [w64 (by omega) (by omega)]; rfl)) ?_
                      refine Jl.pv (PR.move rfl) ?_
                      refine Jl.nil ?_
                      exact Jq.againT ⟨k + 1, hlt, fun i hi hil => (Nat.lt_succ_iff_lt_or_eq.1 hi).elim (fun h => hI i h hil) (fun e => by subst e; exact ⟨by clear hI huniq hw; simp_all [Bx.okAt] <;> omega, huniq⟩)⟩ (by simp only; omega) (by repeat (first | exact trivial | refine And.intro rfl ?_)) (by repeat (first | exact Take.nil | apply Take.cons (by repeat (first | exact Del.here | apply Del.there)))) (by repeat (first | exact trivial | refine And.intro (by repeat (first | exact Mem.here | apply Mem.there)) ?_))
                · try replace g68 := of_decide_eq_false g68
                  refine Jl.offS rfl rfl rfl ?_
                  refine Jl.offS rfl rfl rfl ?_
                  refine Jl.offS rfl rfl rfl ?_
                  refine Jl.on rfl rfl ?_
                  refine Jl.pv (PR.pickF rfl rfl) ?_
                  refine Jl.pv (PR.pickF rfl rfl) ?_
                  refine Jl.pv (PR.move rfl) ?_
                  refine Jl.on rfl rfl ?_
                  refine Jl.pv (PR.fieldAddr rfl tfl33_6) ?_
                  refine Jl.on rfl rfl ?_
                  refine Jl.pv (PR.load1 rfl tsh4 (by repeat (first | exact Has.here | apply Has.there)) (by rfl)) ?_
                  refine Jl.on rfl rfl ?_
                  refine Jl.pv (PR.move rfl) ?_
                  refine Jl.bsplit (fun g77 => ?_) (fun g77 => ?_)
                  · try replace g77 := of_decide_eq_true g77
                    refine Jl.on rfl rfl ?_
                    refine Jl.pv (PR.fieldAddr rfl tfl33_5) ?_
                    refine Jl.on rfl rfl ?_
                    refine Jl.pv (PR.load1 rfl tsh4 (by repeat (first | exact Has.here | apply Has.there)) (by rfl)) ?_
                    refine Jl.on rfl rfl ?_
                    refine Jl.pv (PR.pickT rfl rfl) ?_
                    refine Jl.pv (PR.pickF rfl rfl) ?_
                    refine Jl.nil ?_
                    refine Jq.thenN ?_
                    refine Jc.cond rfl (fun h8 => ?_) (fun h8 => ?_)
                    · try replace h8 := of_decide_eq_true h8
                      refine Jc.seq ?_
                      refine Jc.region ?_
                      refine Jl.pv (PR.assign rfl) ?_
                      refine Jl.nil ?_
                      refine Jq.thenN ?_
                      refine Jc.ret ?_
                      refine Jq.blkR ?_
                      refine Jq.thenR ?_
                      refine Jq.thenR ?_
                      refine Jq.blkR ?_
                      refine Jq.thenR ?_
                      exact Jq.fin () (.inl rfl) rfl (RetVs.tmp rfl RetVs.nil) (by rw [Cl.ok_no (fun h => by obtain ⟨⟨q1, q2, q3, q4, q5, q6, q7⟩, _⟩ := h.bs k hlt; first | omega | (simp_all; done))]; rfl) (by repeat (first | exact Take.nil | apply Take.cons (by repeat (first | exact Del.here | apply Del.there)))) (by repeat (first | exact trivial | refine And.intro (by repeat (first | exact Mem.here | apply Mem.there)) ?_))
                    · try replace h8 := of_decide_eq_false h8
                      refine Jc.skip ?_
                      refine Jq.blkN ?_
                      refine Jq.thenN ?_
                      refine Jc.region ?_
                      refine Jl.pv (PR.add ((k + 1 : Nat) : Int) rfl rfl (by rw [w64 (by omega) (by omega)]; rfl)) ?_
                      refine Jl.pv (PR.move rfl) ?_
                      refine Jl.nil ?_
                      exact Jq.againT ⟨k + 1, hlt, fun i hi hil => (Nat.lt_succ_iff_lt_or_eq.1 hi).elim (fun h => hI i h hil) (fun e => by subst e; exact ⟨by clear hI huniq hw; simp_all [Bx.okAt] <;> omega, huniq⟩)⟩ (by simp only; omega) (by repeat (first | exact trivial | refine And.intro rfl ?_)) (by repeat (first | exact Take.nil | apply Take.cons (by repeat (first | exact Del.here | apply Del.there)))) (by repeat (first | exact trivial | refine And.intro (by repeat (first | exact Mem.here | apply Mem.there)) ?_))
                  · try replace g77 := of_decide_eq_false g77
                    refine Jl.offS rfl rfl rfl ?_
                    refine Jl.offS rfl rfl rfl ?_
                    refine Jl.on rfl rfl ?_
                    refine Jl.pv (PR.pickF rfl rfl) ?_
                    refine Jl.pv (PR.pickF rfl rfl) ?_
                    refine Jl.nil ?_
                    refine Jq.thenN ?_
                    refine Jc.condF rfl ?_
                    refine Jc.skip ?_
                    refine Jq.blkN ?_
                    refine Jq.thenN ?_
                    refine Jc.region ?_
                    refine Jl.pv (PR.add ((k + 1 : Nat) : Int) rfl rfl (by rw [w64 (by omega) (by omega)]; rfl)) ?_
                    refine Jl.pv (PR.move rfl) ?_
                    refine Jl.nil ?_
                    exact Jq.againT ⟨k + 1, hlt, fun i hi hil => (Nat.lt_succ_iff_lt_or_eq.1 hi).elim (fun h => hI i h hil) (fun e => by subst e; exact ⟨by clear hI huniq hw; simp_all [Bx.okAt] <;> omega, huniq⟩)⟩ (by simp only; omega) (by repeat (first | exact trivial | refine And.intro rfl ?_)) (by repeat (first | exact Take.nil | apply Take.cons (by repeat (first | exact Del.here | apply Del.there)))) (by repeat (first | exact trivial | refine And.intro (by repeat (first | exact Mem.here | apply Mem.there)) ?_))
      · try replace h2 := of_decide_eq_false h2
        refine Jc.exit ?_
        refine Jq.thenX ?_
        refine Jq.thenX ?_
        refine Jq.blkX ?_
        refine Jq.thenN ?_
        refine Jc.seq ?_
        refine Jc.region ?_
        refine Jl.pv (PR.assign rfl) ?_
        refine Jl.nil ?_
        refine Jq.thenN ?_
        refine Jc.ret ?_
        exact Jq.fin () (.inl rfl) rfl (RetVs.tmp rfl RetVs.nil) (by rw [Cl.ok_iff.2 ⟨by omega, h1.1, h1.2.1, h1.2.2, fun i hi => hI i (by omega) hi⟩]; rfl) (by repeat (first | exact Take.nil | apply Take.cons (by repeat (first | exact Del.here | apply Del.there)))) (by repeat (first | exact trivial | refine And.intro (by repeat (first | exact Mem.here | apply Mem.there)) ?_))
end Go.Proofs.Ytoackajhekdckaa
