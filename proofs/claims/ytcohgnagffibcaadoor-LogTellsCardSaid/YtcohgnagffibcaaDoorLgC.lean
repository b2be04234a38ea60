/-
Contracts of the references of logs: Same; of the laws: great, wakes.
-/
import Derived.Test.YtcohgnagffibcaaDoorLgB
import Derived.Test.YtcohgnagffibcaaDoorMr
import Derived.Test.YtcohgnagffibcaaDoorMd
namespace Go.Proofs.YtcohgnagffibcaaDoor
set_option linter.unusedVariables false
open Go.RowKit
attribute [local irreducible] Res.blk Res.row Fact.rd
instance : DecidableEq Rc := fun a b => decidable_of_iff _ (sameR_iff (a := a) (b := b))
theorem rcsN_at {zs : Rcs} {k : Nat} (h : k < zs.length) : (rcsN zs)[k]'(by simpa [rcsN] using h) = zs[k].2 := by simp [rcsN]
theorem rcsN_len (zs : Rcs) : (rcsN zs).length = zs.length := by simp [rcsN]
theorem lsame_ct (A B : Option Addr) (c d : Nat) (zs ws : Rcs) (hn : zs.length ≤ 1000000) (hl : ∀ z ∈ zs, z.2.l.length ≤ 1000000) :
    Ct Tryd.prog 16 [.slice A zs.length c, .slice B ws.length d] [] [.rd A (rcsV zs), .rcs zs, .rd B (rcsV ws), .rcs ws] (fun _ : Unit => .bool (decide (rcsN zs = rcsN ws))) (fun _ => []) (fun _ => []) := by
  have hz2 := rcsV_len zs
  have hw2 := rcsV_len ws
  have hzn := rcsN_len zs
  have hwn := rcsN_len ws
  refine Ct.of _ Tryd.func16 Tryd.ntmps16 rfl rfl (fun X W => ?_)
  refine Jc.seq ?_
  refine Jc.region ?_
  refine Jl.pv (PR.assign rfl) ?_
  refine Jl.nil ?_
  refine Jq.thenN ?_
  refine Jc.seq ?_
  refine Jc.seq ?_
  refine Jc.region ?_
  refine Jl.pv (PR.move rfl) ?_
  refine Jl.pv (PR.len rfl tsl25) ?_
  refine Jl.pv (PR.move rfl) ?_
  refine Jl.pv (PR.len rfl tsl25) ?_
  refine Jl.pv (PR.neq _ rfl rfl rfl) ?_
  refine Jl.nil ?_
  refine Jq.thenN ?_
  refine Jc.cond rfl (fun h0 => ?_) (fun h0 => ?_)
  · try replace h0 := of_decide_eq_true h0
    refine Jc.seq ?_
    refine Jc.region ?_
    refine Jl.pv (PR.assign rfl) ?_
    refine Jl.nil ?_
    refine Jq.thenN ?_
    refine Jc.ret ?_
    refine Jq.thenR ?_
    exact Jq.fin () (.inl rfl) rfl (RetVs.tmp rfl RetVs.nil) (by rw [decide_eq_false (fun e => h0 (by have := congrArg List.length e; omega))]; rfl) (by repeat (first | exact Take.nil | apply Take.cons (by repeat (first | exact Del.here | apply Del.there)))) (by repeat (first | exact trivial | refine And.intro (by repeat (first | exact Mem.here | apply Mem.there)) ?_))
  · try replace h0 := of_decide_eq_false h0
    have hll : zs.length = ws.length := by omega
    refine Jc.skip ?_
    refine Jq.thenN ?_
    refine Jc.seq ?_
    refine Jc.seq ?_
    refine Jc.region ?_
    refine Jl.pv (PR.assign rfl) ?_
    refine Jl.nil ?_
    refine Jq.thenN ?_
    refine Jc.block ?_
    refine Jc.loop (σ := { k : Nat // k ≤ zs.length ∧ (rcsN zs).take k = (rcsN ws).take k }) (fun s => [(5, .int .i64 (s.1 : Int)), (0, .slice A zs.length c), (1, .slice B ws.length d)]) (fun _ => []) (fun s => [.rd A (rcsV zs), .rcs zs, .rd B (rcsV ws), .rcs ws]) (fun s => zs.length - s.1) ⟨0, Nat.zero_le _, rfl⟩ (by repeat (first | exact trivial | refine And.intro rfl ?_)) rfl (by repeat (first | exact trivial | refine And.intro (by repeat (first | exact Mem.here | apply Mem.there)) ?_)) ?_
    rintro ⟨k, hk, hE⟩
    show Jc _ _ _ _ _ _ [(5, Value.int .i64 (k : Int)), (0, .slice A zs.length c), (1, .slice B ws.length d)] [] [.rd A (rcsV zs), .rcs zs, .rd B (rcsV ws), .rcs ws]
    refine Jc.seq ?_
    refine Jc.seq ?_
    refine Jc.region ?_
    refine Jl.pv (PR.move rfl) ?_
    refine Jl.pv (PR.move rfl) ?_
    refine Jl.pv (PR.len rfl tsl25) ?_
    refine Jl.pv (PR.lss _ rfl rfl rfl) ?_
    refine Jl.nil ?_
    refine Jq.thenN ?_
    refine Jc.cond rfl (fun h1 => ?_) (fun h1 => ?_)
    · try replace h1 := of_decide_eq_true h1
      have hlt : k < zs.length := by omega
      have hlt2 : k < ws.length := by omega
      refine Jc.fact (.rd zs[k].1.1 (i64s zs[k].2.l)) (φ := .rcs zs) (by repeat (first | exact Mem.here | apply Mem.there)) (fun X W h => h _ (List.getElem_mem _)) ?_
      refine Jc.fact (.rd ws[k].1.1 (i64s ws[k].2.l)) (φ := .rcs ws) (by repeat (first | exact Mem.here | apply Mem.there)) (fun X W h => h _ (List.getElem_mem _)) ?_
      refine Jc.skip ?_
      refine Jq.thenN ?_
      refine Jc.seq ?_
      refine Jc.block ?_
      refine Jc.seq ?_
      refine Jc.drawn [0, 0, 3, 7, 0, 0, 48, 112, 255, 511] ([(9, false)], []) [⟨[(0, false), (1, false), (2, false), (3, false), (4, false), (5, false), (6, false), (7, false)], [], 8⟩] tmx (by kernel_rfl) ?_
      refine Dh.JH.cons ?_
      refine Dh.JB.pv rfl trivial (fun _ => PR.move rfl) ?_
      refine Dh.JB.pv rfl trivial (fun _ => PR.move rfl) ?_
      refine Dh.JB.pv rfl trivial (fun _ => PR.idx k rfl rfl tsl25 (by repeat (first | exact Mem.here | apply Mem.there)) (rcsV_len _) (by omega) rfl hlt) ?_
      refine Dh.JB.pv rfl trivial (fun _ => PR.loadRA rfl tsh43 (by repeat (first | exact Mem.here | apply Mem.there)) (by decide) (rcs_at hlt)) ?_
      refine Dh.JB.pv rfl trivial (fun _ => PR.move rfl) ?_
      refine Dh.JB.pv rfl trivial (fun _ => PR.move rfl) ?_
      refine Dh.JB.pv rfl trivial (fun _ => PR.idx k rfl rfl tsl25 (by repeat (first | exact Mem.here | apply Mem.there)) (rcsV_len _) (by omega) rfl hlt2) ?_
      refine Dh.JB.pv rfl trivial (fun _ => PR.loadRA rfl tsh43 (by repeat (first | exact Mem.here | apply Mem.there)) (by decide) (rcs_at hlt2)) ?_
      refine Dh.JB.nil ?_
      refine Dh.JL.nil ?_
      refine Dh.JE.mk rfl (fun _ h => by cases h) (fun C6_8 => ?_)
      refine Jl.call (rsameR_ct zs[k].2 ws[k].2 zs[k].1 ws[k].1 (hl _ (List.getElem_mem _))) en26 (by rfl) (by repeat (first | exact Take.nil | apply Take.cons (by repeat (first | exact Del.here | apply Del.there)))) (by repeat (first | exact trivial | refine And.intro (by repeat (first | exact Mem.here | apply Mem.there)) ?_)) ?_
      rintro ⟨⟩
      refine Jl.nil ?_
      refine Dh.Jq.segV (by repeat (first | exact Dh.FExt.refl | apply Dh.FExt.cons | apply Dh.FExt.app)) ?_ (by repeat (first | exact Dh.KeepL.nil | apply Dh.KeepL.anc (by rfl) | apply Dh.KeepL.keep (by repeat (first | exact Take.nil | apply Take.cons (by repeat (first | exact Del.here | apply Del.there))))))
      refine Dh.JH.nil ?_
      refine Dh.JB.pv rfl trivial (fun _ => PR.not rfl) ?_
      refine Dh.JB.nil ?_
      refine Dh.JL.nil ?_
      refine Jq.thenN ?_
      refine Jc.cond rfl (fun h2 => ?_) (fun h2 => ?_)
      · try replace h2 := of_decide_eq_true h2
        refine Jc.seq ?_
        refine Jc.region ?_
        refine Jl.pv (PR.assign rfl) ?_
        refine Jl.nil ?_
        refine Jq.thenN ?_
        refine Jc.ret ?_
        refine Jq.blkR ?_
        refine Jq.thenR ?_
        refine Jq.thenR ?_
        refine Jq.blkR ?_
        refine Jq.thenR ?_
        exact Jq.fin () (.inl rfl) rfl (RetVs.tmp rfl RetVs.nil) (by rw [decide_eq_false (fun e => ?_)]; rfl; have h3 : sameR zs[k].2 ws[k].2 = false := (by simpa using h2); rw [sameR_iff.2 (by rw [← rcsN_at hlt, ← rcsN_at hlt2]; simp [e])] at h3; cases h3) (by repeat (first | exact Take.nil | apply Take.cons (by repeat (first | exact Del.here | apply Del.there)))) (by repeat (first | exact trivial | refine And.intro (by repeat (first | exact Mem.here | apply Mem.there)) ?_))
      · try replace h2 := of_decide_eq_false h2
        refine Jc.skip ?_
        refine Jq.blkN ?_
        refine Jq.thenN ?_
        refine Jc.region ?_
        refine Jl.pv (PR.move rfl) ?_
        refine Jl.pv (PR.add ((k + 1 : Nat) : Int) rfl rfl (by rw [w64 (by omega) (by omega)]; rfl)) ?_
        refine Jl.pv (PR.assign rfl) ?_
        refine Jl.nil ?_
        exact Jq.againT ⟨k + 1, hlt, by rw [List.take_succ_eq_append_getElem (show k < (rcsN zs).length by omega), List.take_succ_eq_append_getElem (show k < (rcsN ws).length by omega), hE, rcsN_at hlt, rcsN_at hlt2, sameR_iff.1 (show sameR zs[k].2 ws[k].2 = true by simpa using h2)]⟩ (by simp only; omega) (by repeat (first | exact trivial | refine And.intro rfl ?_)) (by repeat (first | exact Take.nil | apply Take.cons (by repeat (first | exact Del.here | apply Del.there)))) (by repeat (first | exact trivial | refine And.intro (by repeat (first | exact Mem.here | apply Mem.there)) ?_))
    · try replace h1 := of_decide_eq_false h1
      obtain rfl : k = zs.length := by omega
      have hE2 : rcsN zs = rcsN ws := by rw [List.take_of_length_le (by omega), List.take_of_length_le (by omega)] at hE; exact hE
      refine Jc.exit ?_
      refine Jq.thenX ?_
      refine Jq.thenX ?_
      refine Jq.blkX ?_
      refine Jq.thenN ?_
      refine Jc.seq ?_
      refine Jc.region ?_
      refine Jl.pv (PR.assign rfl) ?_
      refine Jl.nil ?_
      refine Jq.thenN ?_
      refine Jc.ret ?_
      exact Jq.fin () (.inl rfl) rfl (RetVs.tmp rfl RetVs.nil) (by rw [decide_eq_true hE2]; rfl) (by repeat (first | exact Take.nil | apply Take.cons (by repeat (first | exact Del.here | apply Del.there)))) (by repeat (first | exact trivial | refine And.intro (by repeat (first | exact Mem.here | apply Mem.there)) ?_))
theorem lsame_eq {A B : Option Addr} {c d n m : Nat} (zs ws : Rcs) (h1 : zs.length = n) (h2 : ws.length = m) (hn : n ≤ 1000000) (hl : ∀ z ∈ zs, z.2.l.length ≤ 1000000) (h : rcsN zs = rcsN ws) :
    Ct Tryd.prog 16 [.slice A n c, .slice B m d] [] [.rd A (rcsV zs), .rcs zs, .rd B (rcsV ws), .rcs ws] (fun _ : Unit => .bool true) (fun _ => []) (fun _ => []) := by
  subst h1 h2
  have h0 := lsame_ct A B c d zs ws hn hl
  rw [decide_eq_true h] at h0
  exact h0
def lgGreat (d : Dk) (zs : Rcs) : Bool := (zs.take 31).any (fun z => decide (45 < z.2.l.length)) || decide (1500 < d.b.length ∨ 30 < zs.length)
theorem lgGreat_no {d : Dk} {zs : Rcs} (h : lgGreat d zs = false) : d.b.length ≤ 1500 ∧ zs.length ≤ 30 ∧ ∀ z ∈ zs, z.2.l.length ≤ 45 := by
  simp only [lgGreat, Bool.or_eq_false_iff, decide_eq_false_iff_not, not_or] at h
  refine ⟨by omega, by omega, fun z hz => ?_⟩
  rw [List.take_of_length_le (by omega), List.any_eq_false] at h
  have := h.1 z hz
  simpa using this
theorem lgGreat_at {d : Dk} {zs : Rcs} {k : Nat} (h : k < zs.length) (h1 : k ≤ 30) (h2 : 45 < zs[k].2.l.length) : lgGreat d zs = true := by
  rw [lgGreat, Bool.or_eq_true]
  left
  rw [List.any_eq_true]
  exact ⟨zs[k], List.mem_iff_getElem.2 ⟨k, by rw [List.length_take]; omega, by simp⟩, by simpa using h2⟩
theorem lgGreat_end {d : Dk} {zs : Rcs} {k : Nat} (h : ∀ j (hj : j < zs.length), j < k → zs[j].2.l.length ≤ 45) (hk : k = zs.length ∨ 31 ≤ k) : lgGreat d zs = decide (1500 < d.b.length ∨ 30 < zs.length) := by
  rw [lgGreat]
  have : (zs.take 31).any (fun z => decide (45 < z.2.l.length)) = false := by
    rw [List.any_eq_false]
    intro z hz
    obtain ⟨j, hj, rfl⟩ := List.mem_iff_getElem.1 hz
    rw [List.length_take] at hj
    rw [List.getElem_take]
    have := h j (by omega) (by omega)
    simpa using this
  rw [this, Bool.false_or]
theorem lgreat_ct (d : Dk) (x : AdC) (L : Option Addr) (cL : Nat) (zs : Rcs) : Ct Tryd.prog 8 [d.v x, .slice L zs.length cL] [] [.rd L (rcsV zs)] (fun _ : Unit => .bool (lgGreat d zs)) (fun _ => []) (fun _ => []) := by
  have hz2 := rcsV_len zs
  refine Ct.of _ Tryd.func8 Tryd.ntmps8 rfl rfl (fun X W => ?_)
  refine Jc.seq ?_
  refine Jc.region ?_
  refine Jl.box rfl (by rfl) ?_
  intro b2
  refine Jl.pv (PR.assign rfl) ?_
  refine Jl.nil ?_
  refine Jq.thenN ?_
  refine Jc.seq ?_
  refine Jc.seq ?_
  refine Jc.region ?_
  refine Jl.pv (PR.assign rfl) ?_
  refine Jl.nil ?_
  refine Jq.thenN ?_
  refine Jc.block ?_
  refine Jc.loop (σ := { k : Nat // (k ≤ zs.length ∧ k ≤ 31) ∧ ∀ j (hj : j < zs.length), j < k → zs[j].2.l.length ≤ 45 }) (fun s => [(5, .int .i64 (s.1 : Int)), (1, .slice L zs.length cL), (2, .pointer (some ⟨b2, 0, none⟩))]) (fun _ => [.blk b2 24 (d.cs x)]) (fun s => [.rd L (rcsV zs)]) (fun s => 31 - s.1) ⟨0, ⟨Nat.zero_le _, Nat.zero_le _⟩, fun j hj h => by omega⟩ (by repeat (first | exact trivial | refine And.intro rfl ?_)) rfl (by repeat (first | exact trivial | refine And.intro (by repeat (first | exact Mem.here | apply Mem.there)) ?_)) ?_
  rintro ⟨k, ⟨hk, hk2⟩, hN⟩
  show Jc _ _ _ _ _ _ [(5, Value.int .i64 (k : Int)), (1, .slice L zs.length cL), (2, .pointer (some ⟨b2, 0, none⟩))] [.blk b2 24 (d.cs x)] [.rd L (rcsV zs)]
  refine Jc.seq ?_
  refine Jc.seq ?_
  refine Jc.region ?_
  refine Jl.pv (PR.move rfl) ?_
  refine Jl.pv (PR.move rfl) ?_
  refine Jl.pv (PR.len rfl tsl25) ?_
  refine Jl.pv (PR.lss _ rfl rfl rfl) ?_
  refine Jl.pv (PR.move rfl) ?_
  refine Jl.bsplit (fun g10 => ?_) (fun g10 => ?_)
  · try replace g10 := of_decide_eq_true g10
    refine Jl.on rfl rfl ?_
    refine Jl.pv (PR.move rfl) ?_
    refine Jl.on rfl rfl ?_
    refine Jl.pv (PR.leq _ rfl rfl rfl) ?_
    refine Jl.pv (PR.pickT rfl rfl) ?_
    refine Jl.nil ?_
    refine Jq.thenN ?_
    refine Jc.cond rfl (fun h0 => ?_) (fun h0 => ?_)
    · try replace h0 := of_decide_eq_true h0
      have hlt : k < zs.length := by omega
      refine Jc.skip ?_
      refine Jq.thenN ?_
      refine Jc.seq ?_
      refine Jc.block ?_
      refine Jc.seq ?_
      refine Jc.region ?_
      refine Jl.pv (PR.move rfl) ?_
      refine Jl.pv (PR.move rfl) ?_
      refine Jl.pv (PR.idx k rfl rfl tsl25 (by repeat (first | exact Mem.here | apply Mem.there)) (rcsV_len _) (by omega) rfl hlt) ?_
      refine Jl.pv (PR.fieldAddrR rfl tfl43_1 (by repeat (first | exact Mem.here | apply Mem.there)) (by omega)) ?_
      refine Jl.pv (PR.loadR rfl tsh41 (by repeat (first | exact Mem.here | apply Mem.there)) ((takeL_spec (rcs_at hlt)).2 1 _ rfl)) ?_
      refine Jl.pv (PR.len rfl tsl41) ?_
      refine Jl.pv (PR.gtr _ rfl rfl rfl) ?_
      refine Jl.nil ?_
      refine Jq.thenN ?_
      refine Jc.cond rfl (fun h1 => ?_) (fun h1 => ?_)
      · try replace h1 := of_decide_eq_true h1
        refine Jc.seq ?_
        refine Jc.region ?_
        refine Jl.pv (PR.assign rfl) ?_
        refine Jl.nil ?_
        refine Jq.thenN ?_
        refine Jc.ret ?_
        refine Jq.blkR ?_
        refine Jq.thenR ?_
        refine Jq.thenR ?_
        refine Jq.blkR ?_
        refine Jq.thenR ?_
        exact Jq.fin () (.inl rfl) rfl (RetVs.tmp rfl RetVs.nil) (congrArg Value.bool (lgGreat_at hlt (by omega) (by omega))) (by repeat (first | exact Take.nil | apply Take.cons (by repeat (first | exact Del.here | apply Del.there)))) (by repeat (first | exact trivial | refine And.intro (by repeat (first | exact Mem.here | apply Mem.there)) ?_))
      · try replace h1 := of_decide_eq_false h1
        refine Jc.skip ?_
        refine Jq.blkN ?_
        refine Jq.thenN ?_
        refine Jc.region ?_
        refine Jl.pv (PR.move rfl) ?_
        refine Jl.pv (PR.add ((k + 1 : Nat) : Int) rfl rfl (by rw [w64 (by omega) (by omega)]; rfl)) ?_
        refine Jl.pv (PR.assign rfl) ?_
        refine Jl.nil ?_
        exact Jq.againT ⟨k + 1, ⟨hlt, by omega⟩, fun j hj hjk => by rcases Nat.lt_succ_iff_lt_or_eq.1 hjk with h | rfl; exact hN j hj h; omega⟩ (by simp only; omega) (by repeat (first | exact trivial | refine And.intro rfl ?_)) (by repeat (first | exact Take.nil | apply Take.cons (by repeat (first | exact Del.here | apply Del.there)))) (by repeat (first | exact trivial | refine And.intro (by repeat (first | exact Mem.here | apply Mem.there)) ?_))
    · try replace h0 := of_decide_eq_false h0
      have hgr := lgGreat_end (d := d) hN (by omega)
      refine Jc.exit ?_
      refine Jq.thenX ?_
      refine Jq.thenX ?_
      refine Jq.blkX ?_
      refine Jq.thenN ?_
      refine Jc.seq ?_
      refine Jc.region ?_
      refine Jl.pv (PR.fieldAddr rfl tfl24_0) ?_
      refine Jl.pv (PR.load1 rfl tsh22 (by repeat (first | exact Has.here | apply Has.there)) (by rfl)) ?_
      refine Jl.pv (PR.len rfl tsl22) ?_
      refine Jl.pv (PR.gtr _ rfl rfl rfl) ?_
      refine Jl.pv (PR.move rfl) ?_
      refine Jl.bsplit (fun g27 => ?_) (fun g27 => ?_)
      · try replace g27 := of_decide_eq_true g27
        refine Jl.offS rfl rfl rfl ?_
        refine Jl.offS rfl rfl rfl ?_
        refine Jl.offS rfl rfl rfl ?_
        refine Jl.pv (PR.pickT rfl rfl) ?_
        refine Jl.pv (PR.assign rfl) ?_
        refine Jl.nil ?_
        refine Jq.thenN ?_
        refine Jc.ret ?_
        exact Jq.fin () (.inl rfl) rfl (RetVs.tmp rfl RetVs.nil) (congrArg Value.bool (by rw [hgr, Bool.eq_iff_iff]; simp; omega)) (by repeat (first | exact Take.nil | apply Take.cons (by repeat (first | exact Del.here | apply Del.there)))) (by repeat (first | exact trivial | refine And.intro (by repeat (first | exact Mem.here | apply Mem.there)) ?_))
      · try replace g27 := of_decide_eq_false g27
        refine Jl.on rfl rfl ?_
        refine Jl.pv (PR.move rfl) ?_
        refine Jl.on rfl rfl ?_
        refine Jl.pv (PR.len rfl tsl25) ?_
        refine Jl.on rfl rfl ?_
        refine Jl.pv (PR.gtr _ rfl rfl rfl) ?_
        refine Jl.pv (PR.pickF rfl rfl) ?_
        refine Jl.pv (PR.assign rfl) ?_
        refine Jl.nil ?_
        refine Jq.thenN ?_
        refine Jc.ret ?_
        exact Jq.fin () (.inl rfl) rfl (RetVs.tmp rfl RetVs.nil) (congrArg Value.bool (by rw [hgr, Bool.eq_iff_iff]; simp; omega)) (by repeat (first | exact Take.nil | apply Take.cons (by repeat (first | exact Del.here | apply Del.there)))) (by repeat (first | exact trivial | refine And.intro (by repeat (first | exact Mem.here | apply Mem.there)) ?_))
  · try replace g10 := of_decide_eq_false g10
    have hgr := lgGreat_end (d := d) hN (by omega)
    refine Jl.offS rfl rfl rfl ?_
    refine Jl.offS rfl rfl rfl ?_
    refine Jl.pv (PR.pickF rfl rfl) ?_
    refine Jl.nil ?_
    refine Jq.thenN ?_
    refine Jc.condF rfl ?_
    refine Jc.exit ?_
    refine Jq.thenX ?_
    refine Jq.thenX ?_
    refine Jq.blkX ?_
    refine Jq.thenN ?_
    refine Jc.seq ?_
    refine Jc.region ?_
    refine Jl.pv (PR.fieldAddr rfl tfl24_0) ?_
    refine Jl.pv (PR.load1 rfl tsh22 (by repeat (first | exact Has.here | apply Has.there)) (by rfl)) ?_
    refine Jl.pv (PR.len rfl tsl22) ?_
    refine Jl.pv (PR.gtr _ rfl rfl rfl) ?_
    refine Jl.pv (PR.move rfl) ?_
    refine Jl.bsplit (fun g27 => ?_) (fun g27 => ?_)
    · try replace g27 := of_decide_eq_true g27
      refine Jl.offS rfl rfl rfl ?_
      refine Jl.offS rfl rfl rfl ?_
      refine Jl.offS rfl rfl rfl ?_
      refine Jl.pv (PR.pickT rfl rfl) ?_
      refine Jl.pv (PR.assign rfl) ?_
      refine Jl.nil ?_
      refine Jq.thenN ?_
      refine Jc.ret ?_
      exact Jq.fin () (.inl rfl) rfl (RetVs.tmp rfl RetVs.nil) (congrArg Value.bool (by rw [hgr, Bool.eq_iff_iff]; simp; omega)) (by repeat (first | exact Take.nil | apply Take.cons (by repeat (first | exact Del.here | apply Del.there)))) (by repeat (first | exact trivial | refine And.intro (by repeat (first | exact Mem.here | apply Mem.there)) ?_))
    · try replace g27 := of_decide_eq_false g27
      refine Jl.on rfl rfl ?_
      refine Jl.pv (PR.move rfl) ?_
      refine Jl.on rfl rfl ?_
      refine Jl.pv (PR.len rfl tsl25) ?_
      refine Jl.on rfl rfl ?_
      refine Jl.pv (PR.gtr _ rfl rfl rfl) ?_
      refine Jl.pv (PR.pickF rfl rfl) ?_
      refine Jl.pv (PR.assign rfl) ?_
      refine Jl.nil ?_
      refine Jq.thenN ?_
      refine Jc.ret ?_
      exact Jq.fin () (.inl rfl) rfl (RetVs.tmp rfl RetVs.nil) (congrArg Value.bool (by rw [hgr, Bool.eq_iff_iff]; simp; omega)) (by repeat (first | exact Take.nil | apply Take.cons (by repeat (first | exact Del.here | apply Del.there)))) (by repeat (first | exact trivial | refine And.intro (by repeat (first | exact Mem.here | apply Mem.there)) ?_))
  -- hint not used: one
  -- hint not used: ret@h0F
  -- hint not used: ret@g10F
end Go.Proofs.YtcohgnagffibcaaDoor
