/-
Contracts of herd/num: Row, TakeRow, with slices' IndexFunc and ContainsFunc; of the laws' and the references' helpers.
-/
import Derived.Test.YtljgaglbgkejhaaDoorNumB
namespace Go.Proofs.YtljgaglbgkejhaaDoor
set_option linter.unusedVariables false
open Go.RowKit
attribute [local irreducible] Res.blk Res.row Fact.rd
/-- What a function that is asked of each number answers. -/
theorem index_ct (q : Int → Bool) (A : Option Addr) (c : Nat) (l : List Int) (hn : l.length ≤ 1000000) (g : FuncId) (hg : ∀ n, Ct Tryd.prog g [.int .i64 n] [] [] (fun _ : Unit => .bool (q n)) (fun _ => []) (fun _ => [])) (hen : ∀ args w, (callFunc g args).run Tryd.prog w = .ok (.enter g args) w) :
    Ct Tryd.prog 46 [.slice A l.length c, .func (.func g) #[] #[]] [] [.rd A (l.map (Value.int .i64))] (fun _ : Unit => .int .i64 (if l.any q then (l.findIdx q : Int) else -1)) (fun _ => []) (fun _ => []) := by
  refine Ct.of _ Tryd.func46 Tryd.ntmps46 rfl rfl (fun X W => ?_)
  refine Jc.seq ?_
  refine Jc.region ?_
  refine Jl.pv (PR.assign rfl) ?_
  refine Jl.nil ?_
  refine Jq.thenN ?_
  refine Jc.seq ?_
  refine Jc.seq ?_
  refine Jc.region ?_
  refine Jl.pv (PR.move rfl) ?_
  refine Jl.pv (PR.len rfl tsl22) ?_
  refine Jl.pv (PR.move rfl) ?_
  refine Jl.nil ?_
  refine Jq.thenN ?_
  refine Jc.block ?_
  refine Jc.loop (σ := { k : Nat // k ≤ l.length ∧ ∀ j, (h : j < k) → (h' : j < l.length) → q l[j] = false }) (fun s => [(8, .int .i64 (s.1 : Int)), (7, .int .i64 (l.length : Int)), (0, .slice A l.length c), (1, .func (.func g) #[] #[])]) (fun _ => []) (fun _ => [.rd A (l.map (Value.int .i64))]) (fun s => l.length - s.1) ⟨0, Nat.zero_le _, fun _ h => by omega⟩ (by exact ⟨rfl, rfl, rfl, rfl, trivial⟩) rfl (by exact ⟨Mem.here, trivial⟩) ?_
  rintro ⟨k, hk, hq⟩
  show Jc _ _ _ _ _ _ [(8, Value.int .i64 (k : Int)), (7, Value.int .i64 (l.length : Int)), (0, .slice A l.length c), (1, .func (.func g) #[] #[])] [] [.rd A (l.map (Value.int .i64))]
  refine Jc.seq ?_
  refine Jc.region ?_
  refine Jl.pv (PR.lss _ rfl rfl rfl) ?_
  refine Jl.nil ?_
  refine Jq.thenN ?_
  refine Jc.seq ?_
  refine Jc.cond rfl (fun hlt => ?_) (fun hlt => ?_)
  · try replace hlt := of_decide_eq_true hlt
    have hlt' : k < l.length := by omega
    refine Jc.skip ?_
    refine Jq.thenN ?_
    refine Jc.seq ?_
    refine Jc.block ?_
    refine Jc.seq ?_
    refine Jc.region ?_
    refine Jl.pv (PR.move rfl) ?_
    refine Jl.pv (PR.assign rfl) ?_
    refine Jl.nil ?_
    refine Jq.thenN ?_
    refine Jc.seq ?_
    refine Jc.region ?_
    refine Jl.pv (PR.move rfl) ?_
    refine Jl.pv (PR.move rfl) ?_
    refine Jl.pv (PR.move rfl) ?_
    refine Jl.pv (PR.idx1 k rfl rfl tsl22 (by repeat (first | exact Mem.here | apply Mem.there)) (by simp) rfl hlt') ?_
    refine Jl.pv (PR.loadR rfl tsh3 (by repeat (first | exact Mem.here | apply Mem.there)) (getm hlt')) ?_
    refine Jl.callv (hg _) hen rfl (by rfl) (by rfl) (by repeat (first | exact Take.nil | apply Take.cons (by repeat (first | exact Del.here | apply Del.there)))) (by repeat (first | exact trivial | refine And.intro (by repeat (first | exact Mem.here | apply Mem.there)) ?_)) ?_
    rintro ⟨⟩
    refine Jl.nil ?_
    refine Jq.thenN ?_
    refine Jc.cond rfl (fun hqk => ?_) (fun hqk => ?_)
    · try replace hqk := of_decide_eq_true hqk
      refine Jc.seq ?_
      refine Jc.region ?_
      refine Jl.pv (PR.move rfl) ?_
      refine Jl.pv (PR.assign rfl) ?_
      refine Jl.nil ?_
      refine Jq.thenN ?_
      refine Jc.ret ?_
      refine Jq.blkR ?_
      refine Jq.thenR ?_
      refine Jq.thenR ?_
      refine Jq.blkR ?_
      refine Jq.thenR ?_
      have ha : l.any q = true := List.any_eq_true.2 ⟨l[k], List.getElem_mem _, hqk⟩
      have hi : l.findIdx q = k := by rw [List.findIdx_eq hlt']; exact ⟨hqk, fun j hj => hq j hj (by omega)⟩
      exact Jq.fin () (.inl rfl) rfl (RetVs.tmp rfl RetVs.nil) (by rw [if_pos ha, hi]; rfl) (by repeat (first | exact Take.nil | apply Take.cons (by repeat (first | exact Del.here | apply Del.there)))) (by repeat (first | exact trivial | refine And.intro (by repeat (first | exact Mem.here | apply Mem.there)) ?_))
    · try replace hqk := of_decide_eq_false hqk
      refine Jc.skip ?_
      refine Jq.blkN ?_
      refine Jq.thenN ?_
      refine Jc.region ?_
      refine Jl.pv (PR.add ((k + 1 : Nat) : Int) rfl rfl (by rw [w64 (by omega) (by omega)]; rfl)) ?_
      refine Jl.pv (PR.move rfl) ?_
      refine Jl.nil ?_
      refine Jq.again ⟨k + 1, hlt', fun j h h' => ?_⟩ (by simp only; omega) (by exact ⟨rfl, rfl, rfl, rfl, trivial⟩) rfl (by exact ⟨Mem.here, trivial⟩)
      rcases Nat.lt_or_ge j k with h1 | h1
      · exact hq j h1 h'
      · obtain rfl : j = k := by omega
        exact hqk
  · try replace hlt := of_decide_eq_false hlt
    refine Jc.exit ?_
    refine Jq.thenX ?_
    refine Jq.thenX ?_
    refine Jq.blkX ?_
    refine Jq.thenN ?_
    refine Jc.seq ?_
    refine Jc.region ?_
    refine Jl.pv (PR.assign rfl) ?_
    refine Jl.nil ?_
    refine Jq.thenN ?_
    refine Jc.ret ?_
    have ha : ¬ l.any q = true := fun h => by
      obtain ⟨x, hx, hxq⟩ := List.any_eq_true.1 h
      obtain ⟨j, hj, rfl⟩ := List.mem_iff_getElem.1 hx
      rw [hq j (by omega) hj] at hxq; cases hxq
    exact Jq.fin () (.inl rfl) rfl (RetVs.tmp rfl RetVs.nil) (by rw [if_neg ha]; rfl) (by repeat (first | exact Take.nil | apply Take.cons (by repeat (first | exact Del.here | apply Del.there)))) (by repeat (first | exact trivial | refine And.intro (by repeat (first | exact Mem.here | apply Mem.there)) ?_))

theorem contains_ct (q : Int → Bool) (A : Option Addr) (c : Nat) (l : List Int) (hn : l.length ≤ 1000000) (g : FuncId) (hg : ∀ n, Ct Tryd.prog g [.int .i64 n] [] [] (fun _ : Unit => .bool (q n)) (fun _ => []) (fun _ => [])) (hen : ∀ args w, (callFunc g args).run Tryd.prog w = .ok (.enter g args) w) :
    Ct Tryd.prog 36 [.slice A l.length c, .func (.func g) #[] #[]] [] [.rd A (l.map (Value.int .i64))] (fun _ : Unit => .bool (l.any q)) (fun _ => []) (fun _ => []) := by
  refine Ct.of _ Tryd.func36 Tryd.ntmps36 rfl rfl (fun X W => ?_)
  refine Jc.seq ?_
  refine Jc.region ?_
  refine Jl.pv (PR.assign rfl) ?_
  refine Jl.nil ?_
  refine Jq.thenN ?_
  refine Jc.seq ?_
  refine Jc.region ?_
  refine Jl.pv (PR.move rfl) ?_
  refine Jl.pv (PR.move rfl) ?_
  refine Jl.call (index_ct q A c l hn g hg hen) en46 (by rfl) (by repeat (first | exact Take.nil | apply Take.cons (by repeat (first | exact Del.here | apply Del.there)))) (by repeat (first | exact trivial | refine And.intro (by repeat (first | exact Mem.here | apply Mem.there)) ?_)) ?_
  rintro ⟨⟩
  refine Jl.pv (PR.geq (l.any q) rfl rfl (by split <;> rename_i h <;> simp [h])) ?_
  refine Jl.pv (PR.assign rfl) ?_
  refine Jl.nil ?_
  refine Jq.thenN ?_
  refine Jc.ret ?_
  exact Jq.fin () (.inl rfl) rfl (RetVs.tmp rfl RetVs.nil) rfl (by repeat (first | exact Take.nil | apply Take.cons (by repeat (first | exact Del.here | apply Del.there)))) (by repeat (first | exact trivial | refine And.intro (by repeat (first | exact Mem.here | apply Mem.there)) ?_))

theorem row1_ct (n : Int) : Ct Tryd.prog 37 [.int .i64 n] [] [] (fun _ : Unit => .bool (!fineN n)) (fun _ => []) (fun _ => []) := by
  refine Ct.of _ Tryd.func37 Tryd.ntmps37 rfl rfl (fun X W => ?_)
  refine Jc.seq ?_
  refine Jc.region ?_
  refine Jl.pv (PR.assign rfl) ?_
  refine Jl.nil ?_
  refine Jq.thenN ?_
  refine Jc.seq ?_
  refine Jc.region ?_
  refine Jl.pv (PR.move rfl) ?_
  refine Jl.call (long_ct n) en38 (by rfl) (by repeat (first | exact Take.nil | apply Take.cons (by repeat (first | exact Del.here | apply Del.there)))) (by repeat (first | exact trivial | refine And.intro (by repeat (first | exact Mem.here | apply Mem.there)) ?_)) ?_
  rintro ⟨⟩
  refine Jl.pv (PR.eql (!fineN n) rfl rfl (by rw [Bool.eq_iff_iff]; simp [longZ_eq0])) ?_
  refine Jl.pv (PR.assign rfl) ?_
  refine Jl.nil ?_
  refine Jq.thenN ?_
  refine Jc.ret ?_
  exact Jq.fin () (.inl rfl) rfl (RetVs.tmp rfl RetVs.nil) rfl (by repeat (first | exact Take.nil | apply Take.cons (by repeat (first | exact Del.here | apply Del.there)))) (by repeat (first | exact trivial | refine And.intro (by repeat (first | exact Mem.here | apply Mem.there)) ?_))

theorem row_ct (A : Option Addr) (c : Nat) (l : List Int) (hl : l.length ≤ 1000) : Ct Tryd.prog 25 [.slice A l.length c] [] [.rd A (l.map (Value.int .i64))] (fun x : Option Addr × Nat => .tuple #[.slice x.1 (rowN l).length x.2, .int .i64 (rowR l)]) (rowU (rowN l)) (fun _ => []) := by
  by_cases hok : rowOk l = true
  · have ho : l.length ≤ 40 ∧ l.any (fun n => !fineN n) = false := by simpa only [rowOk, Bool.and_eq_true, decide_eq_true_eq, Bool.not_eq_true'] using hok
    have hfl := flat_len l
    have hfine : ∀ n ∈ l, 0 ≤ n ∧ n ≤ 1099511627776 := fun n hn => by
      have := List.any_eq_false.1 ho.2 n hn
      simpa [fineN] using this
    have e1 : rowN l = rowsB l := if_pos hok
    have e2 : rowR l = 0 := if_pos hok
    rw [e1, e2]
    refine Ct.of _ Tryd.func25 Tryd.ntmps25 rfl rfl (fun X W => ?_)
    refine Jc.seq ?_
    refine Jc.region ?_
    refine Jl.pv (PR.assign rfl) ?_
    refine Jl.pv (PR.assign rfl) ?_
    refine Jl.nil ?_
    refine Jq.thenN ?_
    refine Jc.seq ?_
    refine Jc.seq ?_
    refine Jc.region ?_
    refine Jl.pv (PR.move rfl) ?_
    refine Jl.pv (PR.len rfl tsl22) ?_
    refine Jl.pv (PR.gtr false rfl rfl (by simp; omega)) ?_
    refine Jl.pv (PR.move rfl) ?_
    refine Jl.on rfl rfl ?_
    refine Jl.pv (PR.move rfl) ?_
    refine Jl.on rfl rfl ?_
    refine Jl.call (contains_ct (fun n => !fineN n) A c l (by omega) 37 row1_ct en37) en36 (by rfl) (by repeat (first | exact Take.nil | apply Take.cons (by repeat (first | exact Del.here | apply Del.there)))) (by repeat (first | exact trivial | refine And.intro (by repeat (first | exact Mem.here | apply Mem.there)) ?_)) ?_
    rintro ⟨⟩
    refine Jl.as (.bool false) (congrArg Value.bool ho.2) ?_
    refine Jl.pv (PR.pickF rfl rfl) ?_
    refine Jl.nil ?_
    refine Jq.thenN ?_
    refine Jc.condF rfl ?_
    refine Jc.skip ?_
    refine Jq.thenN ?_
    refine Jc.seq ?_
    refine Jc.region ?_
    refine Jl.pv (PR.move rfl) ?_
    refine Jl.pv (PR.len rfl tsl22) ?_
    refine Jl.nilRow 5 1 ?_
    refine Jl.call (put_ct [] none 0 l.length (by omega) (by simp)) en39 (by rfl) (by repeat (first | exact Take.nil | apply Take.cons (by repeat (first | exact Del.here | apply Del.there)))) (by repeat (first | exact trivial | refine And.intro (by repeat (first | exact Mem.here | apply Mem.there)) ?_)) ?_
    rintro ⟨A16, c16⟩
    refine Jl.pv (PR.assign rfl) ?_
    refine Jl.nil ?_
    refine Jq.thenN ?_
    refine Jc.seq ?_
    refine Jc.seq ?_
    refine Jc.region ?_
    refine Jl.pv (PR.move rfl) ?_
    refine Jl.pv (PR.len rfl tsl22) ?_
    refine Jl.pv (PR.move rfl) ?_
    refine Jl.nil ?_
    refine Jq.thenN ?_
    refine Jc.block ?_
    refine Jc.loop (σ := (k : { k : Nat // k ≤ l.length }) × (Option Addr × Nat)) (fun s => [(19, .int .i64 (s.1.1 : Int)), (18, .int .i64 (l.length : Int)), (17, .slice A l.length c), (4, .slice s.2.1 (putB l.length ++ (l.take s.1.1).flatMap putB).length s.2.2)]) (fun s => rowU (putB l.length ++ (l.take s.1.1).flatMap putB) s.2) (fun _ => [.rd A (l.map (Value.int .i64))]) (fun s => l.length - s.1.1) ⟨⟨0, Nat.zero_le _⟩, A16, c16⟩ (by exact ⟨rfl, rfl, rfl, by simp [elook], trivial⟩) (by simp [rowU]) (by exact ⟨Mem.here, trivial⟩) ?_
    rintro ⟨⟨k, hk⟩, A', c'⟩
    show Jc _ _ _ _ _ _ [(19, Value.int .i64 (k : Int)), (18, Value.int .i64 (l.length : Int)), (17, .slice A l.length c), (4, .slice A' (putB l.length ++ (l.take k).flatMap putB).length c')] (rowU (putB l.length ++ (l.take k).flatMap putB) (A', c')) [.rd A (l.map (Value.int .i64))]
    refine Jc.seq ?_
    refine Jc.region ?_
    refine Jl.pv (PR.lss _ rfl rfl rfl) ?_
    refine Jl.nil ?_
    refine Jq.thenN ?_
    refine Jc.seq ?_
    refine Jc.cond rfl (fun hlt => ?_) (fun hlt => ?_)
    · try replace hlt := of_decide_eq_true hlt
      have hlt' : k < l.length := by omega
      have hfk := hfine l[k] (List.getElem_mem _)
      have hf10 := flat_len (l.take k)
      have hp10 := putB_len (l.length : Int)
      obtain ⟨v, hv⟩ : ∃ v : Nat, l[k] = v := ⟨l[k].toNat, by omega⟩
      have hstep : putB l.length ++ (l.take (k + 1)).flatMap putB = putB l.length ++ (l.take k).flatMap putB ++ putB v := by rw [List.take_succ_eq_append_getElem hlt', hv]; simp
      refine Jc.skip ?_
      refine Jq.thenN ?_
      refine Jc.seq ?_
      refine Jc.block ?_
      refine Jc.seq ?_
      refine Jc.region ?_
      refine Jl.pv (PR.idx1 k rfl rfl tsl22 (by repeat (first | exact Mem.here | apply Mem.there)) (by simp) rfl hlt') ?_
      refine Jl.pv (PR.loadR rfl tsh3 (by repeat (first | exact Mem.here | apply Mem.there)) ((getm hlt').trans (congrArg (fun x => some (Value.int .i64 x)) hv))) ?_
      refine Jl.pv (PR.assign rfl) ?_
      refine Jl.nil ?_
      refine Jq.thenN ?_
      refine Jc.region ?_
      refine Jl.pv (PR.move rfl) ?_
      refine Jl.pv (PR.move rfl) ?_
      refine Jl.call (put_ct (putB l.length ++ (l.take k).flatMap putB) A' c' v (by omega) (by simp only [List.length_append, List.length_take] at *; omega)) en39 (by rfl) (by repeat (first | exact Take.nil | apply Take.cons (by repeat (first | exact Del.here | apply Del.there)))) (by repeat (first | exact trivial | refine And.intro (by repeat (first | exact Mem.here | apply Mem.there)) ?_)) ?_
      rintro ⟨A25, c25⟩
      refine Jl.pv (PR.assign rfl) ?_
      refine Jl.nil ?_
      refine Jq.blkN ?_
      refine Jq.thenN ?_
      refine Jc.region ?_
      refine Jl.pv (PR.add ((k + 1 : Nat) : Int) rfl rfl (by rw [w64 (by omega) (by omega)]; rfl)) ?_
      refine Jl.pv (PR.move rfl) ?_
      refine Jl.nil ?_
      refine Jq.again ⟨⟨k + 1, hlt'⟩, A25, c25⟩ (by simp only; omega) (by exact ⟨rfl, rfl, rfl, by rw [hstep]; rfl, trivial⟩) (by simp only [hstep, List.append_nil]) (by exact ⟨Mem.here, trivial⟩)
    · try replace hlt := of_decide_eq_false hlt
      have hkl : k = l.length := by omega
      have hall : putB l.length ++ (l.take k).flatMap putB = rowsB l := by rw [hkl, List.take_length]; rfl
      rw [hall]
      refine Jc.exit ?_
      refine Jq.thenX ?_
      refine Jq.thenX ?_
      refine Jq.blkX ?_
      refine Jq.thenN ?_
      refine Jc.seq ?_
      refine Jc.region ?_
      refine Jl.pv (PR.move rfl) ?_
      refine Jl.pv (PR.assign rfl) ?_
      refine Jl.pv (PR.assign rfl) ?_
      refine Jl.nil ?_
      refine Jq.thenN ?_
      refine Jc.ret ?_
      exact Jq.fin (A', c') (.inl rfl) rfl (RetVs.tmp rfl (RetVs.tmp rfl RetVs.nil)) rfl (by repeat (first | exact Take.nil | apply Take.cons (by repeat (first | exact Del.here | apply Del.there)))) (by repeat (first | exact trivial | refine And.intro (by repeat (first | exact Mem.here | apply Mem.there)) ?_))
  · have e1 : rowN l = [] := if_neg hok
    have e2 : rowR l = 2 := if_neg hok
    rw [e1, e2]
    by_cases h40 : l.length ≤ 40
    · have ho : l.any (fun n => !fineN n) = true := by
        simp only [rowOk, Bool.and_eq_true, decide_eq_true_eq, Bool.not_eq_true', not_and] at hok
        simpa only [Bool.not_eq_false] using hok h40
      refine Ct.of _ Tryd.func25 Tryd.ntmps25 rfl rfl (fun X W => ?_)
      refine Jc.seq ?_
      refine Jc.region ?_
      refine Jl.pv (PR.assign rfl) ?_
      refine Jl.pv (PR.assign rfl) ?_
      refine Jl.nil ?_
      refine Jq.thenN ?_
      refine Jc.seq ?_
      refine Jc.seq ?_
      refine Jc.region ?_
      refine Jl.pv (PR.move rfl) ?_
      refine Jl.pv (PR.len rfl tsl22) ?_
      refine Jl.pv (PR.gtr false rfl rfl (by simp; omega)) ?_
      refine Jl.pv (PR.move rfl) ?_
      refine Jl.on rfl rfl ?_
      refine Jl.pv (PR.move rfl) ?_
      refine Jl.on rfl rfl ?_
      refine Jl.call (contains_ct (fun n => !fineN n) A c l (by omega) 37 row1_ct en37) en36 (by rfl) (by repeat (first | exact Take.nil | apply Take.cons (by repeat (first | exact Del.here | apply Del.there)))) (by repeat (first | exact trivial | refine And.intro (by repeat (first | exact Mem.here | apply Mem.there)) ?_)) ?_
      rintro ⟨⟩
      refine Jl.as (.bool true) (congrArg Value.bool ho) ?_
      refine Jl.pv (PR.pickF rfl rfl) ?_
      refine Jl.nil ?_
      refine Jq.thenN ?_
      refine Jc.condT rfl ?_
      refine Jc.seq ?_
      refine Jc.region ?_
      refine Jl.pv (PR.assign rfl) ?_
      refine Jl.pv (PR.assign rfl) ?_
      refine Jl.nil ?_
      refine Jq.thenN ?_
      refine Jc.ret ?_
      refine Jq.thenR ?_
      refine Jq.nilRow 5 1 ?_
      exact Jq.fin (none, 0) (.inl rfl) rfl (RetVs.tmp rfl (RetVs.tmp rfl RetVs.nil)) rfl (by repeat (first | exact Take.nil | apply Take.cons (by repeat (first | exact Del.here | apply Del.there)))) (by repeat (first | exact trivial | refine And.intro (by repeat (first | exact Mem.here | apply Mem.there)) ?_))
    · skip
      refine Ct.of _ Tryd.func25 Tryd.ntmps25 rfl rfl (fun X W => ?_)
      refine Jc.seq ?_
      refine Jc.region ?_
      refine Jl.pv (PR.assign rfl) ?_
      refine Jl.pv (PR.assign rfl) ?_
      refine Jl.nil ?_
      refine Jq.thenN ?_
      refine Jc.seq ?_
      refine Jc.seq ?_
      refine Jc.region ?_
      refine Jl.pv (PR.move rfl) ?_
      refine Jl.pv (PR.len rfl tsl22) ?_
      refine Jl.pv (PR.gtr true rfl rfl (by simp; omega)) ?_
      refine Jl.pv (PR.move rfl) ?_
      refine Jl.offS rfl rfl rfl ?_
      refine Jl.offS rfl rfl rfl ?_
      refine Jl.pv (PR.pickT rfl rfl) ?_
      refine Jl.nil ?_
      refine Jq.thenN ?_
      refine Jc.condT rfl ?_
      refine Jc.seq ?_
      refine Jc.region ?_
      refine Jl.pv (PR.assign rfl) ?_
      refine Jl.pv (PR.assign rfl) ?_
      refine Jl.nil ?_
      refine Jq.thenN ?_
      refine Jc.ret ?_
      refine Jq.thenR ?_
      refine Jq.nilRow 5 1 ?_
      exact Jq.fin (none, 0) (.inl rfl) rfl (RetVs.tmp rfl (RetVs.tmp rfl RetVs.nil)) rfl (by repeat (first | exact Take.nil | apply Take.cons (by repeat (first | exact Del.here | apply Del.there)))) (by repeat (first | exact trivial | refine And.intro (by repeat (first | exact Mem.here | apply Mem.there)) ?_))

def takeRowV (t : List Nat × List UInt8 × Nat) (x : OA × OA) : Value := .tuple #[.slice x.1.1 t.1.length x.1.2, .slice x.2.1 t.2.1.length x.2.2, .int .i64 t.2.2]
abbrev TRS (b : List UInt8) (n : Nat) := { s : (List Nat × List UInt8 × Nat) × OA × OA // TRowI b n s.1.1 s.1.2.1 s.1.2.2 ∧ s.1.2.1.length ≤ s.2.2.2 }
theorem takeRow_ct (A : Option Addr) (c : Nat) (b : List UInt8) (hn : b.length ≤ 1000000) (hc : b.length ≤ c) :
    Ct Tryd.prog 28 [.slice A b.length c] [] [.rd A (u8s b)] (takeRowV (takeRowN b)) (fun x => [.row 3 1 (.slice x.1.1 (takeRowN b).1.length x.1.2) (takeRowN b).1.length (natI (takeRowN b).1)]) (fun x => [.rd x.2.1 (u8s (takeRowN b).2.1), .is ((takeRowN b).2.1.length ≤ x.2.2)]) := by
  refine Ct.of _ Tryd.func28 Tryd.ntmps28 rfl rfl (fun X W => ?_)
  refine Jc.seq ?_
  refine Jc.region ?_
  refine Jl.pv (PR.assign rfl) ?_
  refine Jl.pv (PR.assign rfl) ?_
  refine Jl.pv (PR.assign rfl) ?_
  refine Jl.nil ?_
  refine Jq.thenN ?_
  refine Jc.seq ?_
  refine Jc.region ?_
  refine Jl.pv (PR.move rfl) ?_
  refine Jl.call (take_ct A c b hn hc) en42 (by rfl) (by repeat (first | exact Take.nil | apply Take.cons (by repeat (first | exact Del.here | apply Del.there)))) (by repeat (first | exact trivial | refine And.intro (by repeat (first | exact Mem.here | apply Mem.there)) ?_)) ?_
  rintro ⟨A9, c9⟩
  refine Jl.sealC (by repeat (first | exact Del.here | apply Del.there)) (fun hc9 => ?_)
  refine Jl.pv (PR.move rfl) ?_
  refine Jl.pv (PR.extract rfl (by rfl)) ?_
  refine Jl.pv (PR.extract rfl (by rfl)) ?_
  refine Jl.pv (PR.extract rfl (by rfl)) ?_
  refine Jl.pv (PR.assign rfl) ?_
  refine Jl.pv (PR.assign rfl) ?_
  refine Jl.pv (PR.assign rfl) ?_
  refine Jl.nil ?_
  refine Jq.thenN ?_
  refine Jc.nilRow 3 1 ?_
  refine Jc.mid (σ := TRS b (takeN b).1) (fun s => [(2, .slice s.1.2.1.1 s.1.1.1.length s.1.2.1.2), (3, .slice s.1.2.2.1 s.1.1.2.1.length s.1.2.2.2), (4, .int .i64 (s.1.1.2.2 : Int)), (5, .int .i64 ((takeN b).1 : Int))]) (fun s => [.row 3 1 (.slice s.1.2.1.1 s.1.1.1.length s.1.2.1.2) s.1.1.1.length (natI s.1.1.1)]) (fun s => [.rd s.1.2.2.1 (u8s s.1.1.2.1)]) ?_ ?_
  · refine Jc.seq ?_
    refine Jc.region ?_
    refine Jl.pv (PR.move rfl) ?_
    refine Jl.pv (PR.eql _ rfl rfl rfl) ?_
    refine Jl.pv (PR.move rfl) ?_
    refine Jl.bsplit (fun g15 => ?_) (fun g15 => ?_)
    · try replace g15 := of_decide_eq_true g15
      refine Jl.on rfl rfl ?_
      refine Jl.pv (PR.move rfl) ?_
      refine Jl.on rfl rfl ?_
      refine Jl.pv (PR.gtr _ rfl rfl rfl) ?_
      refine Jl.pv (PR.pickT rfl rfl) ?_
      refine Jl.nil ?_
      refine Jq.thenN ?_
      refine Jc.cond rfl (fun h0 => ?_) (fun h0 => ?_)
      · try replace h0 := of_decide_eq_true h0
        refine Jc.region ?_
        refine Jl.pv (PR.assign rfl) ?_
        refine Jl.nil ?_
        exact Jq.mid ⟨(([], (takeN b).2.1, 11), (none, 0), (A9, c9)), TRowI.zero_big (by omega) (by omega), hc9⟩ (by exact ⟨rfl, rfl, rfl, rfl, trivial⟩) (by simp [natI]) (by exact ⟨(by repeat (first | exact Mem.here | apply Mem.there)), trivial⟩)
      · try replace h0 := of_decide_eq_false h0
        refine Jc.skip ?_
        exact Jq.mid ⟨(([], (takeN b).2.1, (takeN b).2.2), (none, 0), (A9, c9)), by rw [show (takeN b).2.2 = 0 by omega]; exact TRowI.zero_ok (by omega) (by omega), hc9⟩ (by exact ⟨rfl, rfl, rfl, rfl, trivial⟩) (by simp [natI]) (by exact ⟨(by repeat (first | exact Mem.here | apply Mem.there)), trivial⟩)
    · try replace g15 := of_decide_eq_false g15
      refine Jl.offS rfl rfl rfl ?_
      refine Jl.offS rfl rfl rfl ?_
      refine Jl.pv (PR.pickF rfl rfl) ?_
      refine Jl.nil ?_
      refine Jq.thenN ?_
      refine Jc.condF rfl ?_
      refine Jc.skip ?_
      exact Jq.mid ⟨(([], (takeN b).2.1, (takeN b).2.2), (none, 0), (A9, c9)), TRowI.zero_bad (by omega), hc9⟩ (by exact ⟨rfl, rfl, rfl, rfl, trivial⟩) (by simp [natI]) (by exact ⟨(by repeat (first | exact Mem.here | apply Mem.there)), trivial⟩)
  · intro s0
    refine Jc.seq ?_
    refine Jc.block ?_
    refine Jc.loop (σ := TRS b (takeN b).1) (fun s => [(2, .slice s.1.2.1.1 s.1.1.1.length s.1.2.1.2), (3, .slice s.1.2.2.1 s.1.1.2.1.length s.1.2.2.2), (4, .int .i64 (s.1.1.2.2 : Int)), (5, .int .i64 ((takeN b).1 : Int))]) (fun s => [.row 3 1 (.slice s.1.2.1.1 s.1.1.1.length s.1.2.1.2) s.1.1.1.length (natI s.1.1.1)]) (fun s => [.rd s.1.2.2.1 (u8s s.1.1.2.1)]) (fun s => (takeN b).1 - s.1.1.1.length) s0 (by exact ⟨rfl, rfl, rfl, rfl, trivial⟩) rfl (by exact ⟨(by repeat (first | exact Mem.here | apply Mem.there)), trivial⟩) ?_
    rintro ⟨⟨⟨l, r, e⟩, ⟨A1, c1⟩, ⟨A2, c2⟩⟩, hI, hcap⟩
    show Jc _ _ _ _ _ _ [(2, Value.slice A1 l.length c1), (3, .slice A2 r.length c2), (4, .int .i64 (e : Int)), (5, .int .i64 ((takeN b).1 : Int))] [.row 3 1 (.slice A1 l.length c1) l.length (natI l)] [.rd A2 (u8s r)]
    replace hI : TRowI b (takeN b).1 l r e := hI
    replace hcap : r.length ≤ c2 := hcap
    have hle := hI.le
    have hsm := hI.small
    have hrl := hI.len
    refine Jc.seq ?_
    refine Jc.seq ?_
    refine Jc.region ?_
    refine Jl.pv (PR.move rfl) ?_
    refine Jl.pv (PR.eql _ rfl rfl rfl) ?_
    refine Jl.pv (PR.move rfl) ?_
    refine Jl.bsplit (fun g21 => ?_) (fun g21 => ?_)
    · try replace g21 := of_decide_eq_true g21
      obtain rfl : e = 0 := by omega
      refine Jl.on rfl rfl ?_
      refine Jl.pv (PR.move rfl) ?_
      refine Jl.on rfl rfl ?_
      refine Jl.pv (PR.len rfl tsl22) ?_
      refine Jl.on rfl rfl ?_
      refine Jl.pv (PR.move rfl) ?_
      refine Jl.on rfl rfl ?_
      refine Jl.pv (PR.lss _ rfl rfl rfl) ?_
      refine Jl.pv (PR.pickT rfl rfl) ?_
      refine Jl.nil ?_
      refine Jq.thenN ?_
      refine Jc.cond rfl (fun h1 => ?_) (fun h1 => ?_)
      · try replace h1 := of_decide_eq_true h1
        refine Jc.skip ?_
        refine Jq.thenN ?_
        refine Jc.block ?_
        refine Jc.seq ?_
        refine Jc.region ?_
        refine Jl.pv (PR.assign rfl) ?_
        refine Jl.nil ?_
        refine Jq.thenN ?_
        refine Jc.seq ?_
        refine Jc.region ?_
        refine Jl.pv (PR.move rfl) ?_
        refine Jl.call (take_ct A2 c2 r (by omega) hcap) en42 (by rfl) (by repeat (first | exact Take.nil | apply Take.cons (by repeat (first | exact Del.here | apply Del.there)))) (by repeat (first | exact trivial | refine And.intro (by repeat (first | exact Mem.here | apply Mem.there)) ?_)) ?_
        rintro ⟨A29, c29⟩
        refine Jl.sealC (by repeat (first | exact Del.here | apply Del.there)) (fun hc29 => ?_)
        refine Jl.pv (PR.move rfl) ?_
        refine Jl.pv (PR.extract rfl (by rfl)) ?_
        refine Jl.pv (PR.extract rfl (by rfl)) ?_
        refine Jl.pv (PR.extract rfl (by rfl)) ?_
        refine Jl.pv (PR.assign rfl) ?_
        refine Jl.pv (PR.assign rfl) ?_
        refine Jl.pv (PR.assign rfl) ?_
        refine Jl.nil ?_
        refine Jq.thenN ?_
        refine Jc.region ?_
        refine Jl.pv (PR.move rfl) ?_
        refine Jl.pv (PR.move rfl) ?_
        refine Jl.buildSlice (by rfl) tsl22 tzr22_1 (by rfl) (by rfl) ?_
        intro b35
        refine Jl.seal (by repeat (first | exact Del.here | apply Del.there)) ?_
        refine Jl.append (l ++ [(takeN r).1]).length (natI (l ++ [(takeN r).1])) rfl rfl rfl tsl22 tze3 (by rfl) (by decide) tby3 (fun _ _ => (by repeat (first | exact Swap.here | apply Swap.there))) (by repeat (first | exact Mem.here | apply Mem.there)) (by simp) (by simp [natI]) rfl (by simp [Value.oneCell']) (by omega) (by decide) ?_
        intro A36 c36
        refine Jl.pv (PR.assign rfl) ?_
        refine Jl.nil ?_
        refine Jq.blkN ?_
        refine Jq.again ⟨((l ++ [(takeN r).1], (takeN r).2.1, (takeN r).2.2), (A36, c36), (A29, c29)), hI.next (by omega), hc29⟩ (by simp only [List.length_append, List.length_singleton]; omega) (by exact ⟨rfl, rfl, rfl, rfl, trivial⟩) rfl (by exact ⟨(by repeat (first | exact Mem.here | apply Mem.there)), trivial⟩)
      · try replace h1 := of_decide_eq_false h1
        refine Jc.exit ?_
        refine Jq.thenX ?_
        refine Jq.thenX ?_
        refine Jq.blkX ?_
        refine Jq.thenN ?_
        refine Jc.seq ?_
        refine Jc.seq ?_
        refine Jc.region ?_
        refine Jl.pv (PR.move rfl) ?_
        refine Jl.pv (PR.neq false rfl rfl (by simp)) ?_
        refine Jl.nil ?_
        refine Jq.thenN ?_
        refine Jc.condF rfl ?_
        refine Jc.skip ?_
        refine Jq.thenN ?_
        refine Jc.seq ?_
        refine Jc.region ?_
        refine Jl.pv (PR.move rfl) ?_
        refine Jl.pv (PR.move rfl) ?_
        refine Jl.pv (PR.assign rfl) ?_
        refine Jl.pv (PR.assign rfl) ?_
        refine Jl.pv (PR.assign rfl) ?_
        refine Jl.nil ?_
        refine Jq.thenN ?_
        refine Jc.ret ?_
        rw [hI.good (by omega)]
        refine Jq.fact0 (.is (r.length ≤ c2)) (fun _ _ => hcap) ?_
        exact Jq.fin ((A1, c1), (A2, c2)) (.inl rfl) rfl (RetVs.tmp rfl (RetVs.tmp rfl (RetVs.tmp rfl RetVs.nil))) rfl (by repeat (first | exact Take.nil | apply Take.cons (by repeat (first | exact Del.here | apply Del.there)))) (by repeat (first | exact trivial | refine And.intro (by repeat (first | exact Mem.here | apply Mem.there)) ?_))
    · try replace g21 := of_decide_eq_false g21
      refine Jl.offS rfl rfl rfl ?_
      refine Jl.offS rfl rfl rfl ?_
      refine Jl.offS rfl rfl rfl ?_
      refine Jl.offS rfl rfl rfl ?_
      refine Jl.pv (PR.pickF rfl rfl) ?_
      refine Jl.nil ?_
      refine Jq.thenN ?_
      refine Jc.condF rfl ?_
      refine Jc.exit ?_
      refine Jq.thenX ?_
      refine Jq.thenX ?_
      refine Jq.blkX ?_
      refine Jq.thenN ?_
      refine Jc.seq ?_
      refine Jc.seq ?_
      refine Jc.region ?_
      refine Jl.pv (PR.move rfl) ?_
      refine Jl.pv (PR.neq true rfl rfl (by simpa using g21)) ?_
      refine Jl.nil ?_
      refine Jq.thenN ?_
      refine Jc.condT rfl ?_
      refine Jc.seq ?_
      refine Jc.region ?_
      refine Jl.pv (PR.move rfl) ?_
      refine Jl.pv (PR.assign rfl) ?_
      refine Jl.pv (PR.assign rfl) ?_
      refine Jl.pv (PR.assign rfl) ?_
      refine Jl.nil ?_
      refine Jq.thenN ?_
      refine Jc.ret ?_
      refine Jq.thenR ?_
      rw [hI.bad (by omega)]
      refine Jq.nilRow 3 1 ?_
      refine Jq.fact0 (.rd none []) (fun X W => Fact.rd_nil none X W) ?_
      refine Jq.fact0 (.is (([] : List UInt8).length ≤ 0)) (fun _ _ => Nat.le_refl 0) ?_
      exact Jq.fin ((none, 0), (none, 0)) (.inl rfl) rfl (RetVs.tmp rfl (RetVs.tmp rfl (RetVs.tmp rfl RetVs.nil))) rfl (by repeat (first | exact Take.nil | apply Take.cons (by repeat (first | exact Del.here | apply Del.there)))) (by repeat (first | exact trivial | refine And.intro (by repeat (first | exact Mem.here | apply Mem.there)) ?_))

theorem row_at {A : Option Addr} {c : Nat} {l : List Int} {m : List UInt8} {r : Int} (hl : l.length ≤ 1000) (h : rowN l = m) (h2 : rowR l = r) : Ct Tryd.prog 25 [.slice A l.length c] [] [.rd A (l.map (Value.int .i64))] (fun x : Option Addr × Nat => .tuple #[.slice x.1 m.length x.2, .int .i64 r]) (rowU m) (fun _ => []) := by
  subst h h2; exact row_ct A c l hl
end Go.Proofs.YtljgaglbgkejhaaDoor
