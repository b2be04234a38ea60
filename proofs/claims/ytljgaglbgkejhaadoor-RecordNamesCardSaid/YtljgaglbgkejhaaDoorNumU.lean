/-
Contracts of the reference of numbers: Row, TakeRow.
-/
import Derived.Test.YtljgaglbgkejhaaDoorNumT
import Derived.Test.YtljgaglbgkejhaaDoorNumR
namespace Go.Proofs.YtljgaglbgkejhaaDoor
set_option linter.unusedVariables false
open Go.RowKit
attribute [local irreducible] Res.blk Res.row Fact.rd
theorem rput_bad {a : Int} (h : fineN a = false) : Ct Tryd.prog 41 [.int .i64 a] [] [] (fun x : OA => .tuple #[.slice x.1 0 x.2, .int .i64 2]) (rowU []) (fun _ => []) := by
  have h0 := rput_ct a
  rw [show putN a = [] from if_neg (by rw [h]; simp), show putR a = 2 from if_neg (by rw [h]; simp)] at h0
  exact h0
theorem rrowN_ct (A : Option Addr) (c : Nat) (l : List Int) (hl : l.length ≤ 1000) : Ct Tryd.prog 27 [.slice A l.length c] [] [.rd A (l.map (Value.int .i64))] (fun x : Option Addr × Nat => .tuple #[.slice x.1 (rowN l).length x.2, .int .i64 (rowR l)]) (rowU (rowN l)) (fun _ => []) := by
  have hno : rowOk l = false → rowN l = [] ∧ rowR l = 2 := fun h => ⟨if_neg (by rw [h]; simp), if_neg (by rw [h]; simp)⟩
  refine Ct.of _ Tryd.func27 Tryd.ntmps27 rfl rfl (fun X W => ?_)
  refine Jc.seq ?_
  refine Jc.region ?_
  refine Jl.pv (PR.assign rfl) ?_
  refine Jl.pv (PR.assign rfl) ?_
  refine Jl.nil ?_
  refine Jq.thenN ?_
  refine Jc.seq ?_
  refine Jc.seq ?_
  refine Jc.region ?_
  refine Jl.pv (PR.move rfl) ?_
  refine Jl.pv (PR.len rfl tsl22) ?_
  refine Jl.pv (PR.gtr _ rfl rfl rfl) ?_
  refine Jl.nil ?_
  refine Jq.thenN ?_
  refine Jc.cond rfl (fun h0 => ?_) (fun h0 => ?_)
  · try replace h0 := of_decide_eq_true h0
    have hb : rowOk l = false := by rw [rowOk, decide_eq_false (by omega), Bool.false_and]
    refine Jc.seq ?_
    refine Jc.region ?_
    refine Jl.pv (PR.assign rfl) ?_
    refine Jl.pv (PR.assign rfl) ?_
    refine Jl.nil ?_
    refine Jq.thenN ?_
    refine Jc.ret ?_
    refine Jq.thenR ?_
    rw [(hno hb).1, (hno hb).2]
    refine Jq.nilRow 5 1 ?_
    exact Jq.fin (none, 0) (.inl rfl) rfl (RetVs.tmp rfl (RetVs.tmp rfl RetVs.nil)) rfl (by repeat (first | exact Take.nil | apply Take.cons (by repeat (first | exact Del.here | apply Del.there)))) (by repeat (first | exact trivial | refine And.intro (by repeat (first | exact Mem.here | apply Mem.there)) ?_))
  · try replace h0 := of_decide_eq_false h0
    have h40 : l.length ≤ 40 := by omega
    refine Jc.skip ?_
    refine Jq.thenN ?_
    refine Jc.seq ?_
    refine Jc.region ?_
    refine Jl.pv (PR.move rfl) ?_
    refine Jl.pv (PR.len rfl tsl22) ?_
    refine Jl.call (rput_fine (a := l.length) (by simp [fineN]; omega)) en41 (by rfl) (by repeat (first | exact Take.nil | apply Take.cons (by repeat (first | exact Del.here | apply Del.there)))) (by repeat (first | exact trivial | refine And.intro (by repeat (first | exact Mem.here | apply Mem.there)) ?_)) ?_
    rintro ⟨A15, c15⟩
    refine Jl.pv (PR.move rfl) ?_
    refine Jl.pv (PR.extract rfl (by rfl)) ?_
    refine Jl.pv (PR.extract rfl (by rfl)) ?_
    refine Jl.pv (PR.assign rfl) ?_
    refine Jl.pv (PR.assign rfl) ?_
    refine Jl.nil ?_
    refine Jq.thenN ?_
    refine Jc.seq ?_
    refine Jc.seq ?_
    refine Jc.region ?_
    refine Jl.pv (PR.assign rfl) ?_
    refine Jl.nil ?_
    refine Jq.thenN ?_
    refine Jc.block ?_
    refine Jc.loop (σ := (k : { k : Nat // k ≤ l.length ∧ ∀ j, j < k → ∀ h : j < l.length, fineN l[j] = true }) × (Option Addr × Nat)) (fun s => [(6, .int .i64 (s.1.1 : Int)), (0, .slice A l.length c), (4, .slice s.2.1 (putB l.length ++ (l.take s.1.1).flatMap putB).length s.2.2)]) (fun s => rowU (putB l.length ++ (l.take s.1.1).flatMap putB) s.2) (fun _ => [.rd A (l.map (Value.int .i64))]) (fun s => l.length - s.1.1) ⟨⟨0, Nat.zero_le _, fun _ h => by omega⟩, A15, c15⟩ (by exact ⟨rfl, rfl, by simp [elook], trivial⟩) (by simp [rowU]) (by repeat (first | exact trivial | refine And.intro (by repeat (first | exact Mem.here | apply Mem.there)) ?_)) ?_
    rintro ⟨⟨k, hk, hF⟩, A', c'⟩
    show Jc _ _ _ _ _ _ [(6, Value.int .i64 (k : Int)), (0, .slice A l.length c), (4, .slice A' (putB l.length ++ (l.take k).flatMap putB).length c')] (rowU (putB l.length ++ (l.take k).flatMap putB) (A', c')) [.rd A (l.map (Value.int .i64))]
    refine Jc.seq ?_
    refine Jc.seq ?_
    refine Jc.region ?_
    refine Jl.pv (PR.move rfl) ?_
    refine Jl.pv (PR.move rfl) ?_
    refine Jl.pv (PR.len rfl tsl22) ?_
    refine Jl.pv (PR.lss _ rfl rfl rfl) ?_
    refine Jl.nil ?_
    refine Jq.thenN ?_
    refine Jc.cond rfl (fun hlt => ?_) (fun hlt => ?_)
    · try replace hlt := of_decide_eq_true hlt
      have hlt' : k < l.length := by omega
      have hf10 := flat_len (l.take k)
      have hp10 := putB_len (l.length : Int)
      obtain ⟨v, hv⟩ : ∃ v : Int, l[k] = v := ⟨_, rfl⟩
      have hpv := putB_len v
      have hstep : putB l.length ++ (l.take (k + 1)).flatMap putB = putB l.length ++ (l.take k).flatMap putB ++ putB v := by rw [List.take_succ_eq_append_getElem hlt', hv]; simp
      have hlen : (putB l.length ++ (l.take k).flatMap putB).length ≤ 1000 := by simp only [List.length_append, List.length_take] at *; omega
      refine Jc.skip ?_
      refine Jq.thenN ?_
      refine Jc.seq ?_
      refine Jc.block ?_
      refine Jc.seq ?_
      refine Jc.region ?_
      refine Jl.pv (PR.move rfl) ?_
      refine Jl.pv (PR.move rfl) ?_
      refine Jl.pv (PR.idx1 k rfl rfl tsl22 (by repeat (first | exact Mem.here | apply Mem.there)) (by simp) rfl hlt') ?_
      refine Jl.pv (PR.loadR rfl tsh3 (by repeat (first | exact Mem.here | apply Mem.there)) ((getm hlt').trans (congrArg (fun x => some (Value.int .i64 x)) hv))) ?_
      refine Jl.call (rput_ct v) en41 (by rfl) (by repeat (first | exact Take.nil | apply Take.cons (by repeat (first | exact Del.here | apply Del.there)))) (by repeat (first | exact trivial | refine And.intro (by repeat (first | exact Mem.here | apply Mem.there)) ?_)) ?_
      rintro ⟨A29, c29⟩
      refine Jl.sealR (by repeat (first | exact Del.here | apply Del.there)) ?_
      refine Jl.pv (PR.move rfl) ?_
      refine Jl.pv (PR.extract rfl (by rfl)) ?_
      refine Jl.pv (PR.extract rfl (by rfl)) ?_
      refine Jl.pv (PR.assign rfl) ?_
      refine Jl.pv (PR.assign rfl) ?_
      refine Jl.nil ?_
      refine Jq.thenN ?_
      refine Jc.seq ?_
      refine Jc.seq ?_
      refine Jc.region ?_
      refine Jl.pv (PR.move rfl) ?_
      refine Jl.pv (PR.neq _ rfl rfl rfl) ?_
      refine Jl.nil ?_
      refine Jq.thenN ?_
      refine Jc.cond rfl (fun h2 => ?_) (fun h2 => ?_)
      · try replace h2 := of_decide_eq_true h2
        have hfv : fineN v = false := by rw [Bool.eq_false_iff]; intro h; exact h2 (if_pos h)
        have hb : rowOk l = false := by
          rw [rowOk, List.any_eq_true.2 ⟨l[k], List.getElem_mem _, by rw [hv, hfv]; rfl⟩]; simp
        refine Jc.seq ?_
        refine Jc.region ?_
        refine Jl.pv (PR.move rfl) ?_
        refine Jl.pv (PR.assign rfl) ?_
        refine Jl.pv (PR.assign rfl) ?_
        refine Jl.nil ?_
        refine Jq.thenN ?_
        refine Jc.ret ?_
        refine Jq.thenR ?_
        refine Jq.blkR ?_
        refine Jq.thenR ?_
        refine Jq.thenR ?_
        refine Jq.blkR ?_
        refine Jq.thenR ?_
        rw [(hno hb).1, (hno hb).2]
        refine Jq.nilRow 5 1 ?_
        exact Jq.fin (none, 0) (.inl rfl) rfl (RetVs.tmp rfl (RetVs.tmp rfl RetVs.nil)) (by rw [show putR v = 2 from if_neg (by rw [hfv]; simp)]; rfl) (by repeat (first | exact Take.nil | apply Take.cons (by repeat (first | exact Del.here | apply Del.there)))) (by repeat (first | exact trivial | refine And.intro (by repeat (first | exact Mem.here | apply Mem.there)) ?_))
      · try replace h2 := of_decide_eq_false h2
        have hfv : fineN v = true := by
          by_cases h : fineN v = true
          · exact h
          · exact absurd (show putR v = 2 from if_neg h) (by omega)
        have hpn : putN v = putB v := if_pos hfv
        refine Jc.skip ?_
        refine Jq.thenN ?_
        refine Jc.region ?_
        refine Jl.pv (PR.move rfl) ?_
        refine Jl.pv (PR.move rfl) ?_
        refine Jl.append (putB l.length ++ (l.take (k + 1)).flatMap putB).length (u8s (putB l.length ++ (l.take (k + 1)).flatMap putB)) rfl rfl rfl tsl26 tze5 (by rfl) (by decide) tby5 (fun _ _ => (by repeat (first | exact Swap.here | apply Swap.there))) (by repeat (first | exact Mem.here | apply Mem.there)) (by rw [hstep, hpn]; simp only [List.length_append]) (by rw [hstep, hpn]; simp only [u8s, List.map_append]) (by simp) (u8s_one _) (by rw [hpn]; omega) (by decide) ?_
        intro A37 c37
        refine Jl.pv (PR.assign rfl) ?_
        refine Jl.nil ?_
        refine Jq.blkN ?_
        refine Jq.thenN ?_
        refine Jc.region ?_
        refine Jl.pv (PR.move rfl) ?_
        refine Jl.pv (PR.add ((k + 1 : Nat) : Int) rfl rfl (by rw [w64 (by omega) (by omega)]; rfl)) ?_
        refine Jl.pv (PR.assign rfl) ?_
        refine Jl.nil ?_
        refine Jq.again ⟨⟨k + 1, hlt', fun j hj hjl => (Nat.lt_succ_iff_lt_or_eq.1 hj).elim (fun h => hF j h hjl) (fun e => by subst e; rw [hv]; exact hfv)⟩, A37, c37⟩ (by simp only; omega) (by repeat (first | exact trivial | refine And.intro rfl ?_)) rfl (by repeat (first | exact trivial | refine And.intro (by repeat (first | exact Mem.here | apply Mem.there)) ?_))
    · try replace hlt := of_decide_eq_false hlt
      have hkl : k = l.length := by omega
      have hall : putB l.length ++ (l.take k).flatMap putB = rowsB l := by rw [hkl, List.take_length]; rfl
      have hok : rowOk l = true := by
        simp only [rowOk, Bool.and_eq_true, decide_eq_true_eq, Bool.not_eq_true']
        refine ⟨h40, List.any_eq_false.2 fun n hn => ?_⟩
        obtain ⟨j, hj, rfl⟩ := List.mem_iff_getElem.1 hn
        rw [hF j (by omega) hj]; simp
      rw [hall, show rowN l = rowsB l from if_pos hok, show rowR l = 0 from if_pos hok]
      refine Jc.exit ?_
      refine Jq.thenX ?_
      refine Jq.thenX ?_
      refine Jq.blkX ?_
      refine Jq.thenN ?_
      refine Jc.seq ?_
      refine Jc.region ?_
      refine Jl.pv (PR.move rfl) ?_
      refine Jl.pv (PR.assign rfl) ?_
      refine Jl.pv (PR.assign rfl) ?_
      refine Jl.nil ?_
      refine Jq.thenN ?_
      refine Jc.ret ?_
      exact Jq.fin (A', c') (.inl rfl) rfl (RetVs.tmp rfl (RetVs.tmp rfl RetVs.nil)) rfl (by repeat (first | exact Take.nil | apply Take.cons (by repeat (first | exact Del.here | apply Del.there)))) (by repeat (first | exact trivial | refine And.intro (by repeat (first | exact Mem.here | apply Mem.there)) ?_))
abbrev TRT (b : List UInt8) (n : Nat) := { s : (List Nat × List UInt8) × OA × OA // TRowI b n s.1.1 s.1.2 0 ∧ s.1.2.length ≤ s.2.2.2 }
theorem rtakeRow_ct (A : Option Addr) (c : Nat) (b : List UInt8) (hn : b.length ≤ 1000000) (hc : b.length ≤ c) :
    Ct Tryd.prog 29 [.slice A b.length c] [] [.rd A (u8s b)] (takeRowV (takeRowN b)) (fun x => [.row 3 1 (.slice x.1.1 (takeRowN b).1.length x.1.2) (takeRowN b).1.length (natI (takeRowN b).1)]) (fun x => [.rd x.2.1 (u8s (takeRowN b).2.1), .is ((takeRowN b).2.1.length ≤ x.2.2)]) := by
  refine Ct.of _ Tryd.func29 Tryd.ntmps29 rfl rfl (fun X W => ?_)
  refine Jc.seq ?_
  refine Jc.region ?_
  refine Jl.pv (PR.assign rfl) ?_
  refine Jl.pv (PR.assign rfl) ?_
  refine Jl.pv (PR.assign rfl) ?_
  refine Jl.nil ?_
  refine Jq.thenN ?_
  refine Jc.seq ?_
  refine Jc.region ?_
  refine Jl.pv (PR.move rfl) ?_
  refine Jl.call (rtake_ct A c b hn hc) en43 (by rfl) (by repeat (first | exact Take.nil | apply Take.cons (by repeat (first | exact Del.here | apply Del.there)))) (by repeat (first | exact trivial | refine And.intro (by repeat (first | exact Mem.here | apply Mem.there)) ?_)) ?_
  rintro ⟨A14, c14⟩
  refine Jl.sealC (by repeat (first | exact Del.here | apply Del.there)) (fun hc14 => ?_)
  refine Jl.pv (PR.move rfl) ?_
  refine Jl.pv (PR.extract rfl (by rfl)) ?_
  refine Jl.pv (PR.extract rfl (by rfl)) ?_
  refine Jl.pv (PR.extract rfl (by rfl)) ?_
  refine Jl.pv (PR.assign rfl) ?_
  refine Jl.pv (PR.assign rfl) ?_
  refine Jl.pv (PR.assign rfl) ?_
  refine Jl.nil ?_
  refine Jq.thenN ?_
  refine Jc.seq ?_
  refine Jc.seq ?_
  refine Jc.region ?_
  refine Jl.pv (PR.move rfl) ?_
  refine Jl.pv (PR.neq _ rfl rfl rfl) ?_
  refine Jl.nil ?_
  refine Jq.thenN ?_
  refine Jc.cond rfl (fun h0 => ?_) (fun h0 => ?_)
  · try replace h0 := of_decide_eq_true h0
    refine Jc.seq ?_
    refine Jc.region ?_
    refine Jl.pv (PR.move rfl) ?_
    refine Jl.pv (PR.assign rfl) ?_
    refine Jl.pv (PR.assign rfl) ?_
    refine Jl.pv (PR.assign rfl) ?_
    refine Jl.nil ?_
    refine Jq.thenN ?_
    refine Jc.ret ?_
    refine Jq.thenR ?_
    rw [(TRowI.zero_bad (b := b) (by omega)).bad (by omega)]
    refine Jq.nilRow 3 1 ?_
    refine Jq.fact0 (.rd none []) (fun X W => Fact.rd_nil none X W) ?_
    refine Jq.fact0 (.is (([] : List UInt8).length ≤ 0)) (fun _ _ => Nat.le_refl 0) ?_
    exact Jq.fin ((none, 0), (none, 0)) (.inl rfl) rfl (RetVs.tmp rfl (RetVs.tmp rfl (RetVs.tmp rfl RetVs.nil))) rfl (by repeat (first | exact Take.nil | apply Take.cons (by repeat (first | exact Del.here | apply Del.there)))) (by repeat (first | exact trivial | refine And.intro (by repeat (first | exact Mem.here | apply Mem.there)) ?_))
  · try replace h0 := of_decide_eq_false h0
    refine Jc.skip ?_
    refine Jq.thenN ?_
    refine Jc.seq ?_
    refine Jc.seq ?_
    refine Jc.region ?_
    refine Jl.pv (PR.move rfl) ?_
    refine Jl.pv (PR.gtr _ rfl rfl rfl) ?_
    refine Jl.nil ?_
    refine Jq.thenN ?_
    refine Jc.cond rfl (fun h1 => ?_) (fun h1 => ?_)
    · try replace h1 := of_decide_eq_true h1
      refine Jc.seq ?_
      refine Jc.region ?_
      refine Jl.pv (PR.assign rfl) ?_
      refine Jl.pv (PR.assign rfl) ?_
      refine Jl.pv (PR.assign rfl) ?_
      refine Jl.nil ?_
      refine Jq.thenN ?_
      refine Jc.ret ?_
      refine Jq.thenR ?_
      rw [(TRowI.zero_big (b := b) (by omega) (by omega)).bad (by omega)]
      refine Jq.nilRow 3 1 ?_
      refine Jq.fact0 (.rd none []) (fun X W => Fact.rd_nil none X W) ?_
      refine Jq.fact0 (.is (([] : List UInt8).length ≤ 0)) (fun _ _ => Nat.le_refl 0) ?_
      exact Jq.fin ((none, 0), (none, 0)) (.inl rfl) rfl (RetVs.tmp rfl (RetVs.tmp rfl (RetVs.tmp rfl RetVs.nil))) rfl (by repeat (first | exact Take.nil | apply Take.cons (by repeat (first | exact Del.here | apply Del.there)))) (by repeat (first | exact trivial | refine And.intro (by repeat (first | exact Mem.here | apply Mem.there)) ?_))
    · try replace h1 := of_decide_eq_false h1
      refine Jc.skip ?_
      refine Jq.thenN ?_
      refine Jc.seq ?_
      refine Jc.region ?_
      refine Jl.pv (PR.assign rfl) ?_
      refine Jl.nil ?_
      refine Jq.thenN ?_
      refine Jc.seq ?_
      refine Jc.seq ?_
      refine Jc.region ?_
      refine Jl.pv (PR.assign rfl) ?_
      refine Jl.nil ?_
      refine Jq.thenN ?_
      refine Jc.block ?_
      refine Jc.nilRow 3 1 ?_
      refine Jc.loop (σ := TRT b (takeN b).1) (fun s => [(8, .int .i64 (s.1.1.1.length : Int)), (7, .slice s.1.2.1.1 s.1.1.1.length s.1.2.1.2), (0, .slice s.1.2.2.1 s.1.1.2.length s.1.2.2.2), (5, .int .i64 ((takeN b).1 : Int))]) (fun s => [.row 3 1 (.slice s.1.2.1.1 s.1.1.1.length s.1.2.1.2) s.1.1.1.length (natI s.1.1.1)]) (fun s => [.rd s.1.2.2.1 (u8s s.1.1.2)]) (fun s => (takeN b).1 - s.1.1.1.length) ⟨(([], (takeN b).2.1), (none, 0), (A14, c14)), TRowI.zero_ok (by omega) (by omega), hc14⟩ (by repeat (first | exact trivial | refine And.intro rfl ?_)) (by simp [natI]) (by repeat (first | exact trivial | refine And.intro (by repeat (first | exact Mem.here | apply Mem.there)) ?_)) ?_
      rintro ⟨⟨⟨l, r⟩, ⟨A1, c1⟩, ⟨A2, c2⟩⟩, hI, hcap⟩
      show Jc _ _ _ _ _ _ [(8, .int .i64 (l.length : Int)), (7, Value.slice A1 l.length c1), (0, .slice A2 r.length c2), (5, .int .i64 ((takeN b).1 : Int))] [.row 3 1 (.slice A1 l.length c1) l.length (natI l)] [.rd A2 (u8s r)]
      replace hI : TRowI b (takeN b).1 l r 0 := hI
      replace hcap : r.length ≤ c2 := hcap
      have hle := hI.le
      have hsm := hI.small rfl
      have hrl := hI.len
      refine Jc.seq ?_
      refine Jc.seq ?_
      refine Jc.region ?_
      refine Jl.pv (PR.move rfl) ?_
      refine Jl.pv (PR.move rfl) ?_
      refine Jl.pv (PR.lss _ rfl rfl rfl) ?_
      refine Jl.nil ?_
      refine Jq.thenN ?_
      refine Jc.cond rfl (fun h2 => ?_) (fun h2 => ?_)
      · try replace h2 := of_decide_eq_true h2
        have hnx := hI.next (by omega)
        refine Jc.skip ?_
        refine Jq.thenN ?_
        refine Jc.seq ?_
        refine Jc.block ?_
        refine Jc.seq ?_
        refine Jc.region ?_
        refine Jl.pv (PR.move rfl) ?_
        refine Jl.call (rtake_ct A2 c2 r (by omega) hcap) en43 (by rfl) (by repeat (first | exact Take.nil | apply Take.cons (by repeat (first | exact Del.here | apply Del.there)))) (by repeat (first | exact trivial | refine And.intro (by repeat (first | exact Mem.here | apply Mem.there)) ?_)) ?_
        rintro ⟨A30, c30⟩
        refine Jl.sealC (by repeat (first | exact Del.here | apply Del.there)) (fun hc30 => ?_)
        refine Jl.pv (PR.move rfl) ?_
        refine Jl.pv (PR.extract rfl (by rfl)) ?_
        refine Jl.pv (PR.extract rfl (by rfl)) ?_
        refine Jl.pv (PR.extract rfl (by rfl)) ?_
        refine Jl.pv (PR.assign rfl) ?_
        refine Jl.pv (PR.assign rfl) ?_
        refine Jl.pv (PR.assign rfl) ?_
        refine Jl.nil ?_
        refine Jq.thenN ?_
        refine Jc.seq ?_
        refine Jc.seq ?_
        refine Jc.region ?_
        refine Jl.pv (PR.move rfl) ?_
        refine Jl.pv (PR.neq _ rfl rfl rfl) ?_
        refine Jl.nil ?_
        refine Jq.thenN ?_
        refine Jc.cond rfl (fun h3 => ?_) (fun h3 => ?_)
        · try replace h3 := of_decide_eq_true h3
          refine Jc.seq ?_
          refine Jc.region ?_
          refine Jl.pv (PR.move rfl) ?_
          refine Jl.pv (PR.assign rfl) ?_
          refine Jl.pv (PR.assign rfl) ?_
          refine Jl.pv (PR.assign rfl) ?_
          refine Jl.nil ?_
          refine Jq.thenN ?_
          refine Jc.ret ?_
          refine Jq.thenR ?_
          refine Jq.blkR ?_
          refine Jq.thenR ?_
          refine Jq.thenR ?_
          refine Jq.blkR ?_
          refine Jq.thenR ?_
          rw [hnx.bad (by omega)]
          refine Jq.nilRow 3 1 ?_
          refine Jq.fact0 (.rd none []) (fun X W => Fact.rd_nil none X W) ?_
          refine Jq.fact0 (.is (([] : List UInt8).length ≤ 0)) (fun _ _ => Nat.le_refl 0) ?_
          exact Jq.fin ((none, 0), (none, 0)) (.inl rfl) rfl (RetVs.tmp rfl (RetVs.tmp rfl (RetVs.tmp rfl RetVs.nil))) rfl (by repeat (first | exact Take.nil | apply Take.cons (by repeat (first | exact Del.here | apply Del.there)))) (by repeat (first | exact trivial | refine And.intro (by repeat (first | exact Mem.here | apply Mem.there)) ?_))
        · try replace h3 := of_decide_eq_false h3
          have he0 : (takeN r).2.2 = 0 := by omega
          rw [he0] at hnx
          refine Jc.skip ?_
          refine Jq.thenN ?_
          refine Jc.seq ?_
          refine Jc.region ?_
          refine Jl.pv (PR.move rfl) ?_
          refine Jl.pv (PR.move rfl) ?_
          refine Jl.buildSlice (by rfl) tsl22 tzr22_1 (by rfl) (by rfl) ?_
          intro b39
          refine Jl.seal (by repeat (first | exact Del.here | apply Del.there)) ?_
          refine Jl.append (l ++ [(takeN r).1]).length (natI (l ++ [(takeN r).1])) rfl rfl rfl tsl22 tze3 (by rfl) (by decide) tby3 (fun _ _ => (by repeat (first | exact Swap.here | apply Swap.there))) (by repeat (first | exact Mem.here | apply Mem.there)) (by simp) (by simp [natI]) rfl (by simp [Value.oneCell']) (by omega) (by decide) ?_
          intro A40 c40
          refine Jl.pv (PR.assign rfl) ?_
          refine Jl.nil ?_
          refine Jq.thenN ?_
          refine Jc.region ?_
          refine Jl.pv (PR.move rfl) ?_
          refine Jl.pv (PR.assign rfl) ?_
          refine Jl.nil ?_
          refine Jq.blkN ?_
          refine Jq.thenN ?_
          refine Jc.region ?_
          refine Jl.pv (PR.move rfl) ?_
          refine Jl.pv (PR.add ((l ++ [(takeN r).1]).length : Int) rfl rfl (by rw [w64 (by omega) (by omega)]; simp)) ?_
          refine Jl.pv (PR.assign rfl) ?_
          refine Jl.nil ?_
          refine Jq.again ⟨((l ++ [(takeN r).1], (takeN r).2.1), (A40, c40), (A30, c30)), hnx, hc30⟩ (by simp only [List.length_append, List.length_singleton]; omega) (by repeat (first | exact trivial | refine And.intro rfl ?_)) rfl (by repeat (first | exact trivial | refine And.intro (by repeat (first | exact Mem.here | apply Mem.there)) ?_))
      · try replace h2 := of_decide_eq_false h2
        refine Jc.exit ?_
        refine Jq.thenX ?_
        refine Jq.thenX ?_
        refine Jq.blkX ?_
        refine Jq.thenN ?_
        refine Jc.seq ?_
        refine Jc.region ?_
        refine Jl.pv (PR.move rfl) ?_
        refine Jl.pv (PR.move rfl) ?_
        refine Jl.pv (PR.assign rfl) ?_
        refine Jl.pv (PR.assign rfl) ?_
        refine Jl.pv (PR.assign rfl) ?_
        refine Jl.nil ?_
        refine Jq.thenN ?_
        refine Jc.ret ?_
        rw [hI.good (by omega)]
        refine Jq.fact0 (.is (r.length ≤ c2)) (fun _ _ => hcap) ?_
        exact Jq.fin ((A1, c1), (A2, c2)) (.inl rfl) rfl (RetVs.tmp rfl (RetVs.tmp rfl (RetVs.tmp rfl RetVs.nil))) rfl (by repeat (first | exact Take.nil | apply Take.cons (by repeat (first | exact Del.here | apply Del.there)))) (by repeat (first | exact trivial | refine And.intro (by repeat (first | exact Mem.here | apply Mem.there)) ?_))
end Go.Proofs.YtljgaglbgkejhaaDoor
