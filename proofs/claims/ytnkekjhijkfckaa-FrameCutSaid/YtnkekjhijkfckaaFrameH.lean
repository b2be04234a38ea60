/-
The law FrameCut.
-/
import Derived.Test.YtnkekjhijkfckaaFrameF
import Derived.Test.YtnkekjhijkfckaaFrameG
namespace Go.Proofs.Ytnkekjhijkfckaa
open Go.RowKit
attribute [local irreducible] Res.blk Res.row Fact.rd
/-- Where frames end. -/
def eN (l : List (List UInt8)) (k : Nat) : Nat := (framesB (l.take k)).length
def ends (l : List (List UInt8)) (k : Nat) : List Value := (List.range k).map fun i => Value.int .i64 ((eN l (i + 1) : Nat) : Int)
theorem ends_at {l : List (List UInt8)} {k i : Nat} (h : i < k) : (ends l k)[i]? = some (.int .i64 ((eN l (i + 1) : Nat) : Int)) := by simp [ends, h]
theorem ends_succ (l : List (List UInt8)) (k : Nat) : ends l k ++ [.int .i64 ((eN l (k + 1) : Nat) : Int)] = ends l (k + 1) := by simp [ends, List.range_succ]
/-- How many frames are whole. -/
structure Whole (l : List (List UInt8)) (j w : Nat) : Prop where
  le : w ≤ l.length
  fits : eN l w ≤ j
theorem whole_cut {l : List (List UInt8)} {j w : Nat} (h : Whole l j w) (hj : j ≤ (framesB l).length) (hl : ∀ p ∈ l, p.length ≤ 4000) (he : w = l.length ∨ j < eN l (w + 1)) :
    ∃ t, (framesB l).take j = framesB (l.take w) ++ t ∧ cutF t = none := by
  by_cases hw : w = l.length
  · subst hw
    have : j = (framesB l).length := by have := h.fits; simp [eN] at this; omega
    subst this
    exact ⟨[], by simp, cutF_nil⟩
  · have hwl : w < l.length := by have := h.le; omega
    have he := he.resolve_left hw
    have hsp : framesB l = framesB (l.take w) ++ (frameB l[w] ++ framesB (l.drop (w + 1))) := by
      have e : l = l.take w ++ l[w] :: l.drop (w + 1) := by simp
      have := congrArg framesB e
      rw [this]
      unfold framesB
      rw [List.flatMap_append, List.flatMap_cons]
    have hst : eN l (w + 1) = eN l w + (frameB l[w]).length := by simp only [eN]; rw [framesB_take hwl, List.length_append]
    have hf := h.fits
    refine ⟨(frameB l[w]).take (j - eN l w), ?_, cutF_cut (hl _ (List.getElem_mem hwl)) (by omega)⟩
    rw [hsp, List.take_append, List.take_of_length_le hf]
    congr 1
    rw [List.take_append_of_le_length]
    · rfl
    · show j - eN l w ≤ _; omega
theorem whole_all {l : List (List UInt8)} {j w : Nat} (h : Whole l j w) (hj : j ≤ (framesB l).length) (hl : ∀ p ∈ l, p.length ≤ 4000) (he : w = l.length ∨ j < eN l (w + 1)) :
    allP ((framesB l).take j) = l.take w ∧ allU ((framesB l).take j) = eN l w := by
  obtain ⟨t, ht, hc⟩ := whole_cut h hj hl he
  have hl' : ∀ p ∈ l.take w, p.length ≤ 4000 := fun p hp => hl p (List.mem_of_mem_take hp)
  rw [ht]
  exact ⟨(framesN_put t hl' hc).1, allU_put t hl' hc⟩
theorem rows_at {A B : Option Addr} {c d n m : Nat} (zs ws : Zs) (h1 : zs.length = n) (h2 : ws.length = m) (hn : n ≤ 1000000) : Ct Try.prog 16 [.slice A n c, .slice B m d] [] [.rd A (slv zs), .rd B (slv ws), .rds zs, .rds ws] (fun _ : Unit => .bool (decide (pays zs = pays ws))) (fun _ => []) (fun _ => []) := by
  subst h1 h2; exact rows_ct A B c d zs ws hn
theorem frameCut_ct (A : Option Addr) (c : Nat) (zs : Zs) (left : Int) (hc : zs.length ≤ c) :
    Ct Try.prog 5 [.slice A zs.length c, .int .i64 left] [] [.rd A (slv zs), .rds zs] (fun _ : Unit => .bool true) (fun _ => []) (fun _ => []) := by
  refine Ct.of _ Try.func5 Try.ntmps5 rfl rfl (fun X W => ?_)
  refine Jc.seq ?_
  refine Jc.region ?_
  refine Jl.pv (PR.assign rfl) ?_
  refine Jl.nil ?_
  refine Jq.thenN ?_
  refine Jc.seq ?_
  refine Jc.seq ?_
  refine Jc.region ?_
  refine Jl.pv (PR.move rfl) ?_
  refine Jl.pv (PR.len rfl tsl29) ?_
  refine Jl.pv (PR.gtr _ rfl rfl rfl) ?_
  refine Jl.nil ?_
  refine Jq.thenN ?_
  refine Jc.cond rfl (fun h0 => ?_) (fun h0 => ?_)
  · try replace h0 := of_decide_eq_true h0
    refine Jc.seq ?_
    refine Jc.region ?_
    refine Jl.call fwakes_ct en8 (by rfl) (by repeat (first | exact Take.nil | apply Take.cons (by repeat (first | exact Del.here | apply Del.there)))) (by repeat (first | exact trivial | refine And.intro (by repeat (first | exact Mem.here | apply Mem.there)) ?_)) ?_
    rintro ⟨⟩
    refine Jl.pv (PR.assign rfl) ?_
    refine Jl.nil ?_
    refine Jq.thenN ?_
    refine Jc.ret ?_
    refine Jq.thenR ?_
    exact Jq.fin () (.inl rfl) rfl (RetVs.tmp rfl RetVs.nil) rfl (by repeat (first | exact Take.nil | apply Take.cons (by repeat (first | exact Del.here | apply Del.there)))) (by repeat (first | exact trivial | refine And.intro (by repeat (first | exact Mem.here | apply Mem.there)) ?_))
  · try replace h0 := of_decide_eq_false h0
    refine Jc.skip ?_
    refine Jq.thenN ?_
    refine Jc.seq ?_
    refine Jc.region ?_
    refine Jl.pv (PR.assign rfl) ?_
    refine Jl.nil ?_
    refine Jq.thenN ?_
    refine Jc.seq ?_
    refine Jc.region ?_
    refine Jl.pv (PR.assign rfl) ?_
    refine Jl.nil ?_
    refine Jq.thenN ?_
    refine Jc.seq ?_
    refine Jc.seq ?_
    refine Jc.region ?_
    refine Jl.pv (PR.assign rfl) ?_
    refine Jl.nil ?_
    refine Jq.thenN ?_
    refine Jc.block ?_
    refine Jc.nilRow 3 1 ?_
    refine Jc.nilRow 5 1 ?_
    refine Jc.loop (σ := { k : Nat // small zs k } × OA × OA) (fun s => [(7, .int .i64 (s.1.1 : Int)), (0, .slice A zs.length c), (1, .int .i64 left), (5, .slice s.2.1.1 (framesB ((pays zs).take s.1.1)).length s.2.1.2), (6, .slice s.2.2.1 s.1.1 s.2.2.2)]) (fun s => [.row 5 1 (.slice s.2.1.1 (framesB ((pays zs).take s.1.1)).length s.2.1.2) (framesB ((pays zs).take s.1.1)).length (u8s (framesB ((pays zs).take s.1.1))), .row 3 1 (.slice s.2.2.1 s.1.1 s.2.2.2) s.1.1 (ends (pays zs) s.1.1)]) (fun _ => [.rd A (slv zs), .rds zs]) (fun s => zs.length - s.1.1) (⟨0, Nat.zero_le _, fun p h => by simp at h⟩, (none, 0), (none, 0)) (by exact ⟨rfl, rfl, rfl, rfl, rfl, trivial⟩) rfl (by exact ⟨(by repeat (first | exact Mem.here | apply Mem.there)), (by repeat (first | exact Mem.here | apply Mem.there)), trivial⟩) ?_
    rintro ⟨⟨k, hk⟩, ⟨A5, c5⟩, ⟨A6, c6⟩⟩
    have hsm := small_len hk (by omega)
    show Jc _ _ _ _ _ _ [(7, Value.int .i64 (k : Int)), (0, .slice A zs.length c), (1, .int .i64 left), (5, .slice A5 (framesB ((pays zs).take k)).length c5), (6, .slice A6 k c6)] [.row 5 1 (.slice A5 (framesB ((pays zs).take k)).length c5) (framesB ((pays zs).take k)).length (u8s (framesB ((pays zs).take k))), .row 3 1 (.slice A6 k c6) k (ends (pays zs) k)] [.rd A (slv zs), .rds zs]
    refine Jc.seq ?_
    refine Jc.seq ?_
    refine Jc.region ?_
    refine Jl.pv (PR.move rfl) ?_
    refine Jl.pv (PR.move rfl) ?_
    refine Jl.pv (PR.len rfl tsl29) ?_
    refine Jl.pv (PR.lss _ rfl rfl rfl) ?_
    refine Jl.nil ?_
    refine Jq.thenN ?_
    refine Jc.cond rfl (fun hlt => ?_) (fun hlt => ?_)
    · try replace hlt := of_decide_eq_true hlt
      have hlt' : k < zs.length := by omega
      refine Jc.skip ?_
      refine Jq.thenN ?_
      refine Jc.seq ?_
      refine Jc.block ?_
      refine Jc.seq ?_
      refine Jc.seq ?_
      refine Jc.rds1 (zs := zs) k hlt' (by repeat (first | exact Mem.here | apply Mem.there)) ?_
      obtain ⟨p, hp⟩ : ∃ p, zs[k].2 = p := ⟨_, rfl⟩
      have hgz : (slv zs)[k]? = some (.slice zs[k].1.1 p.length zs[k].1.2) := by rw [← hp]; exact getz hlt'
      rw [hp]
      refine Jc.region ?_
      refine Jl.pv (PR.move rfl) ?_
      refine Jl.pv (PR.move rfl) ?_
      refine Jl.pv (PR.idx1 k rfl rfl tsl29 (by repeat (first | exact Mem.here | apply Mem.there)) (by simp [slv]) rfl hlt') ?_
      refine Jl.pv (PR.loadR rfl tsh22 (by repeat (first | exact Mem.here | apply Mem.there)) hgz) ?_
      refine Jl.pv (PR.len rfl tsl22) ?_
      refine Jl.pv (PR.gtr _ rfl rfl rfl) ?_
      refine Jl.nil ?_
      refine Jq.thenN ?_
      refine Jc.cond rfl (fun h2 => ?_) (fun h2 => ?_)
      · try replace h2 := of_decide_eq_true h2
        refine Jc.seq ?_
        refine Jc.region ?_
        refine Jl.call fwakes_ct en8 (by rfl) (by repeat (first | exact Take.nil | apply Take.cons (by repeat (first | exact Del.here | apply Del.there)))) (by repeat (first | exact trivial | refine And.intro (by repeat (first | exact Mem.here | apply Mem.there)) ?_)) ?_
        rintro ⟨⟩
        refine Jl.pv (PR.assign rfl) ?_
        refine Jl.nil ?_
        refine Jq.thenN ?_
        refine Jc.ret ?_
        refine Jq.thenR ?_
        refine Jq.blkR ?_
        refine Jq.thenR ?_
        refine Jq.thenR ?_
        refine Jq.blkR ?_
        refine Jq.thenR ?_
        exact Jq.fin () (.inl rfl) rfl (RetVs.tmp rfl RetVs.nil) rfl (by repeat (first | exact Take.nil | apply Take.cons (by repeat (first | exact Del.here | apply Del.there)))) (by repeat (first | exact trivial | refine And.intro (by repeat (first | exact Mem.here | apply Mem.there)) ?_))
      · try replace h2 := of_decide_eq_false h2
        have hp60 : p.length ≤ 60 := by omega
        have hfl := frameB_len p
        have hpb := putB_len (p.length : Int)
        refine Jc.skip ?_
        refine Jq.thenN ?_
        refine Jc.seq ?_
        refine Jc.region ?_
        refine Jl.pv (PR.move rfl) ?_
        refine Jl.pv (PR.move rfl) ?_
        refine Jl.pv (PR.idx1 k rfl rfl tsl29 (by repeat (first | exact Mem.here | apply Mem.there)) (by simp [slv]) rfl hlt') ?_
        refine Jl.pv (PR.loadR rfl tsh22 (by repeat (first | exact Mem.here | apply Mem.there)) hgz) ?_
        refine Jl.call (fput_at (p := p) rfl (by omega) (if_pos (by omega)) (if_pos (by omega))) en9 (by rfl) (by repeat (first | exact Take.nil | apply Take.cons (by repeat (first | exact Del.here | apply Del.there)))) (by repeat (first | exact trivial | refine And.intro (by repeat (first | exact Mem.here | apply Mem.there)) ?_)) ?_
        rintro ⟨A35, c35⟩
        refine Jl.sealC (by repeat (first | exact Del.here | apply Del.there)) (fun hc35 => ?_)
        refine Jl.pv (PR.move rfl) ?_
        refine Jl.pv (PR.extract rfl (by rfl)) ?_
        refine Jl.pv (PR.extract rfl (by rfl)) ?_
        refine Jl.pv (PR.assign rfl) ?_
        refine Jl.pv (PR.assign rfl) ?_
        refine Jl.nil ?_
        refine Jq.thenN ?_
        refine Jc.seq ?_
        refine Jc.seq ?_
        refine Jc.region ?_
        refine Jl.pv (PR.move rfl) ?_
        refine Jl.pv (PR.neq false rfl rfl rfl) ?_
        refine Jl.nil ?_
        refine Jq.thenN ?_
        refine Jc.condF rfl ?_
        refine Jc.skip ?_
        refine Jq.thenN ?_
        refine Jc.seq ?_
        refine Jc.region ?_
        refine Jl.pv (PR.move rfl) ?_
        refine Jl.pv (PR.move rfl) ?_
        refine Jl.append (framesB ((pays zs).take (k + 1))).length (u8s (framesB ((pays zs).take (k + 1)))) rfl rfl rfl tsl22 tze5 (by rfl) (by decide) tby5 (fun _ _ => (by repeat (first | exact Swap.here | apply Swap.there))) (by repeat (first | exact Mem.here | apply Mem.there)) (by rw [frames_step hlt', hp, List.length_append]) (by rw [frames_step hlt', hp]; simp [u8s]) (by simp [u8s]) (u8s_one _) (by omega) (by decide) ?_
        intro A42 c42
        refine Jl.pv (PR.assign rfl) ?_
        refine Jl.nil ?_
        refine Jq.thenN ?_
        refine Jc.region ?_
        refine Jl.pv (PR.move rfl) ?_
        refine Jl.pv (PR.move rfl) ?_
        refine Jl.pv (PR.len rfl tsl22) ?_
        refine Jl.buildSlice (by rfl) tsl39 tzr39_1 (by rfl) (by rfl) ?_
        intro b46
        refine Jl.seal (by repeat (first | exact Del.here | apply Del.there)) ?_
        refine Jl.append (k + 1) (ends (pays zs) (k + 1)) rfl rfl rfl tsl39 tze3 (by rfl) (by decide) tby3 (fun _ _ => (by repeat (first | exact Swap.here | apply Swap.there))) (by repeat (first | exact Mem.here | apply Mem.there)) rfl (ends_succ _ _) rfl (by simp [Value.oneCell']) (by omega) (by decide) ?_
        intro A47 c47
        refine Jl.pv (PR.assign rfl) ?_
        refine Jl.nil ?_
        refine Jq.blkN ?_
        refine Jq.thenN ?_
        refine Jc.region ?_
        refine Jl.pv (PR.move rfl) ?_
        refine Jl.pv (PR.add ((k + 1 : Nat) : Int) rfl rfl (by rw [w64 (by omega) (by omega)]; rfl)) ?_
        refine Jl.pv (PR.assign rfl) ?_
        refine Jl.nil ?_
        refine Jq.again (⟨k + 1, small_next hk hlt' (by rw [hp]; exact hp60)⟩, (A42, c42), (A47, c47)) (by simp only; omega) (by exact ⟨rfl, rfl, rfl, rfl, rfl, trivial⟩) rfl (by exact ⟨(by repeat (first | exact Mem.here | apply Mem.there)), (by repeat (first | exact Mem.here | apply Mem.there)), trivial⟩)
    · try replace hlt := of_decide_eq_false hlt
      have hkl : k = zs.length := by have := hk.1; omega
      have hall : (pays zs).take k = pays zs := by rw [hkl, List.take_of_length_le (by simp [pays])]
      have hp60 : ∀ p ∈ pays zs, p.length ≤ 4000 := fun p hp => by have := hk.2 p (by rw [hall]; exact hp); omega
      have hpl : (pays zs).length = zs.length := by simp [pays]
      rw [hall] at hsm ⊢
      obtain ⟨L, hL⟩ : ∃ L, (framesB (pays zs)).length = L := ⟨_, rfl⟩
      rw [hL] at hsm ⊢
      obtain ⟨j, hj, hjl⟩ := tmod2 left (L + 1) (by omega)
      have hbd := tmod_bd left (L + 1) (by omega)
      refine Jc.exit ?_
      refine Jq.thenX ?_
      refine Jq.thenX ?_
      refine Jq.blkX ?_
      refine Jq.thenN ?_
      refine Jc.seq ?_
      refine Jc.region ?_
      refine Jl.sealC (by repeat (first | exact Del.here | apply Del.there)) (fun hc5 => ?_)
      refine Jl.sealC (by repeat (first | exact Del.here | apply Del.there)) (fun hc6 => ?_)
      refine Jl.pv (PR.move rfl) ?_
      refine Jl.pv (PR.move rfl) ?_
      refine Jl.pv (PR.len rfl tsl22) ?_
      refine Jl.pv (PR.add ((L + 1 : Nat) : Int) rfl rfl (by rw [w64 (by omega) (by omega)]; rfl)) ?_
      refine Jl.pv (PR.rem (left.tmod ((L + 1 : Nat) : Int)) rfl rfl (by omega) rfl) ?_
      refine Jl.pv (PR.move rfl) ?_
      refine Jl.pv (PR.len rfl tsl22) ?_
      refine Jl.pv (PR.add _ rfl rfl (w64 (by omega) (by omega))) ?_
      refine Jl.pv (PR.add (left.tmod ((L + 1 : Nat) : Int) + ((L + 1 : Nat) : Int)) rfl rfl (by rw [w64 (by omega) (by omega)]; omega)) ?_
      refine Jl.pv (PR.move rfl) ?_
      refine Jl.pv (PR.len rfl tsl22) ?_
      refine Jl.pv (PR.add ((L + 1 : Nat) : Int) rfl rfl (by rw [w64 (by omega) (by omega)]; rfl)) ?_
      refine Jl.pv (PR.rem (j : Int) rfl rfl (by omega) hj) ?_
      refine Jl.pv (PR.assign rfl) ?_
      refine Jl.nil ?_
      refine Jq.thenN ?_
      refine Jc.seq ?_
      refine Jc.region ?_
      refine Jl.pv (PR.assign rfl) ?_
      refine Jl.nil ?_
      refine Jq.thenN ?_
      refine Jc.mid (σ := { w : Nat // Whole (pays zs) j w ∧ (w = (pays zs).length ∨ j < eN (pays zs) (w + 1)) }) (fun s => [(10, .int .i64 (s.1 : Int)), (0, .slice A zs.length c), (1, .int .i64 (j : Int)), (5, .slice A5 L c5), (6, .slice A6 k c6)]) (fun _ => []) (fun _ => [.rd A (slv zs), .rds zs, .rd A5 (u8s (framesB (pays zs))), .rd A6 (ends (pays zs) k)]) ?_ ?_
      · refine Jc.block ?_
        refine Jc.loop (σ := { w : Nat // Whole (pays zs) j w }) (fun s => [(10, .int .i64 (s.1 : Int)), (0, .slice A zs.length c), (1, .int .i64 (j : Int)), (5, .slice A5 L c5), (6, .slice A6 k c6)]) (fun _ => []) (fun _ => [.rd A (slv zs), .rds zs, .rd A5 (u8s (framesB (pays zs))), .rd A6 (ends (pays zs) k)]) (fun s => zs.length - s.1) ⟨0, Nat.zero_le _, by simp [eN, framesB]⟩ (by exact ⟨rfl, rfl, rfl, rfl, rfl, trivial⟩) rfl (by exact ⟨(by repeat (first | exact Mem.here | apply Mem.there)), (by repeat (first | exact Mem.here | apply Mem.there)), (by repeat (first | exact Mem.here | apply Mem.there)), (by repeat (first | exact Mem.here | apply Mem.there)), trivial⟩) ?_
        rintro ⟨w, hw⟩
        have hwle := hw.le
        show Jc _ _ _ _ _ _ [(10, Value.int .i64 (w : Int)), (0, .slice A zs.length c), (1, .int .i64 (j : Int)), (5, .slice A5 L c5), (6, .slice A6 k c6)] [] [.rd A (slv zs), .rds zs, .rd A5 (u8s (framesB (pays zs))), .rd A6 (ends (pays zs) k)]
        refine Jc.seq ?_
        refine Jc.seq ?_
        refine Jc.region ?_
        refine Jl.pv (PR.move rfl) ?_
        refine Jl.pv (PR.move rfl) ?_
        refine Jl.pv (PR.len rfl tsl39) ?_
        refine Jl.pv (PR.lss _ rfl rfl rfl) ?_
        refine Jl.pv (PR.move rfl) ?_
        refine Jl.bsplit (fun g65 => ?_) (fun g65 => ?_)
        · try replace g65 := of_decide_eq_true g65
          have hwl : w < k := by omega
          refine Jl.on rfl rfl ?_
          refine Jl.pv (PR.move rfl) ?_
          refine Jl.on rfl rfl ?_
          refine Jl.pv (PR.move rfl) ?_
          refine Jl.on rfl rfl ?_
          refine Jl.pv (PR.idx1 w rfl rfl tsl39 (by repeat (first | exact Mem.here | apply Mem.there)) (by simp [ends]) rfl hwl) ?_
          refine Jl.on rfl rfl ?_
          refine Jl.pv (PR.loadR rfl tsh3 (by repeat (first | exact Mem.here | apply Mem.there)) (ends_at hwl)) ?_
          refine Jl.on rfl rfl ?_
          refine Jl.pv (PR.move rfl) ?_
          refine Jl.on rfl rfl ?_
          refine Jl.pv (PR.leq _ rfl rfl rfl) ?_
          refine Jl.pv (PR.pickT rfl rfl) ?_
          refine Jl.nil ?_
          refine Jq.thenN ?_
          refine Jc.cond rfl (fun h3 => ?_) (fun h3 => ?_)
          · try replace h3 := of_decide_eq_true h3
            refine Jc.skip ?_
            refine Jq.thenN ?_
            refine Jc.block ?_
            refine Jc.region ?_
            refine Jl.pv (PR.move rfl) ?_
            refine Jl.pv (PR.add ((w + 1 : Nat) : Int) rfl rfl (by rw [w64 (by omega) (by omega)]; rfl)) ?_
            refine Jl.pv (PR.assign rfl) ?_
            refine Jl.nil ?_
            refine Jq.blkN ?_
            refine Jq.again ⟨w + 1, by omega, by omega⟩ (by simp only; omega) (by exact ⟨rfl, rfl, rfl, rfl, rfl, trivial⟩) rfl (by exact ⟨(by repeat (first | exact Mem.here | apply Mem.there)), (by repeat (first | exact Mem.here | apply Mem.there)), (by repeat (first | exact Mem.here | apply Mem.there)), (by repeat (first | exact Mem.here | apply Mem.there)), trivial⟩)
          · try replace h3 := of_decide_eq_false h3
            refine Jc.exit ?_
            refine Jq.thenX ?_
            refine Jq.thenX ?_
            refine Jq.blkX ?_
            exact Jq.mid ⟨w, hw, .inr (by omega)⟩ (by exact ⟨rfl, rfl, rfl, rfl, rfl, trivial⟩) rfl (by exact ⟨(by repeat (first | exact Mem.here | apply Mem.there)), (by repeat (first | exact Mem.here | apply Mem.there)), (by repeat (first | exact Mem.here | apply Mem.there)), (by repeat (first | exact Mem.here | apply Mem.there)), trivial⟩)
        · try replace g65 := of_decide_eq_false g65
          refine Jl.off rfl rfl rfl rfl ?_
          refine Jl.off rfl rfl rfl rfl ?_
          refine Jl.off rfl rfl rfl rfl ?_
          refine Jl.off rfl rfl rfl rfl ?_
          refine Jl.off rfl rfl rfl rfl ?_
          refine Jl.off rfl rfl rfl rfl ?_
          refine Jl.pv (PR.pickF rfl rfl) ?_
          refine Jl.nil ?_
          refine Jq.thenN ?_
          refine Jc.condF rfl ?_
          refine Jc.exit ?_
          refine Jq.thenX ?_
          refine Jq.thenX ?_
          refine Jq.blkX ?_
          exact Jq.mid ⟨w, hw, .inl (by omega)⟩ (by exact ⟨rfl, rfl, rfl, rfl, rfl, trivial⟩) rfl (by exact ⟨(by repeat (first | exact Mem.here | apply Mem.there)), (by repeat (first | exact Mem.here | apply Mem.there)), (by repeat (first | exact Mem.here | apply Mem.there)), (by repeat (first | exact Mem.here | apply Mem.there)), trivial⟩)
      · rintro ⟨w, hw, hwe⟩
        have hwle := hw.le
        show Jc _ _ _ _ _ _ [(10, Value.int .i64 (w : Int)), (0, .slice A zs.length c), (1, .int .i64 (j : Int)), (5, .slice A5 L c5), (6, .slice A6 k c6)] [] [.rd A (slv zs), .rds zs, .rd A5 (u8s (framesB (pays zs))), .rd A6 (ends (pays zs) k)]
        obtain ⟨ha1, ha2⟩ := whole_all hw (by omega) hp60 hwe
        have hjL : ((framesB (pays zs)).take j).length = j := by simp; omega
        refine Jc.seq ?_
        refine Jc.region ?_
        refine Jl.pv (PR.move rfl) ?_
        refine Jl.pv (PR.move rfl) ?_
        refine Jl.slice 0 j j (u8s ((framesB (pays zs)).take j)) rfl tsl22 rfl rfl (by repeat (first | exact Mem.here | apply Mem.there)) (by omega) (by omega) hc5 rfl (sl_take _ j) ?_
        intro A78 c78 hc78
        skip
        refine Jl.call (all_at (c := c78) (b := (framesB (pays zs)).take j) (l := (pays zs).take w) (u := eN (pays zs) w) hjL (by omega) (by have h9 : L ≤ c5 := hc5; omega) ha1 ha2) en13 (by rfl) (by repeat (first | exact Take.nil | apply Take.cons (by repeat (first | exact Del.here | apply Del.there)))) (by repeat (first | exact trivial | refine And.intro (by repeat (first | exact Mem.here | apply Mem.there)) ?_)) ?_
        rintro ⟨⟨zs79, hz79⟩, ⟨A79, c79⟩⟩
        refine Jl.sealR (by repeat (first | exact Del.here | apply Del.there)) ?_
        refine Jl.pv (PR.move rfl) ?_
        refine Jl.pv (PR.extract rfl (by rfl)) ?_
        refine Jl.pv (PR.extract rfl (by rfl)) ?_
        refine Jl.pv (PR.assign rfl) ?_
        refine Jl.pv (PR.assign rfl) ?_
        refine Jl.nil ?_
        refine Jq.thenN ?_
        refine Jc.seq ?_
        refine Jc.seq ?_
        refine Jc.region ?_
        refine Jl.pv (PR.move rfl) ?_
        refine Jl.pv (PR.gtr _ rfl rfl rfl) ?_
        refine Jl.pv (PR.move rfl) ?_
        refine Jl.bsplit (fun g84 => ?_) (fun g84 => ?_)
        · try replace g84 := of_decide_eq_true g84
          refine Jl.on rfl rfl ?_
          refine Jl.pv (PR.move rfl) ?_
          refine Jl.on rfl rfl ?_
          refine Jl.pv (PR.move rfl) ?_
          refine Jl.on rfl rfl ?_
          refine Jl.pv (PR.move rfl) ?_
          refine Jl.on rfl rfl ?_
          refine Jl.pv (PR.sub ((w - 1 : Nat) : Int) rfl rfl (by rw [w64 (by omega) (by omega)]; omega)) ?_
          refine Jl.on rfl rfl ?_
          refine Jl.pv (PR.idx1 (w - 1) rfl rfl tsl39 (by repeat (first | exact Mem.here | apply Mem.there)) (by simp [ends]) rfl (by omega)) ?_
          refine Jl.on rfl rfl ?_
          refine Jl.pv (PR.loadR rfl tsh3 (by repeat (first | exact Mem.here | apply Mem.there)) (ends_at (by omega))) ?_
          refine Jl.on rfl rfl ?_
          refine Jl.pv (PR.neq false rfl rfl (decide_eq_false (fun h => h (by rw [show w - 1 + 1 = w by omega])))) ?_
          refine Jl.pv (PR.pickT rfl rfl) ?_
          refine Jl.pv (PR.move rfl) ?_
          refine Jl.on rfl rfl ?_
          refine Jl.pv (PR.move rfl) ?_
          refine Jl.on rfl rfl ?_
          refine Jl.pv (PR.eql false rfl rfl (decide_eq_false (by omega))) ?_
          refine Jl.on rfl rfl ?_
          refine Jl.pv (PR.move rfl) ?_
          refine Jl.off rfl rfl rfl rfl ?_
          refine Jl.off rfl rfl rfl rfl ?_
          refine Jl.on rfl rfl ?_
          refine Jl.pv (PR.pickF rfl rfl) ?_
          refine Jl.pv (PR.pickF rfl rfl) ?_
          refine Jl.nil ?_
          refine Jq.thenN ?_
          refine Jc.condF rfl ?_
          refine Jc.skip ?_
          refine Jq.thenN ?_
          refine Jc.seq ?_
          refine Jc.region ?_
          refine Jl.pv (PR.move rfl) ?_
          refine Jl.pv (PR.move rfl) ?_
          refine Jl.pv (PR.move rfl) ?_
          refine Jl.slice 0 w w (slv (zs.take w)) rfl tsl29 rfl rfl (by repeat (first | exact Mem.here | apply Mem.there)) (by omega) (by omega) hc rfl (by simp [slv]) ?_
          intro A104 c104 hc104
          clear hc104
          have hz1 : pays (zs.take w) = pays zs79 := by rw [hz79]; simp [pays]
          have hl79 : zs79.length = w := by have := congrArg List.length hz79; simp [pays] at this; omega
          have hlt79 : (zs.take w).length = w := by simp; omega
          have hltp : ((pays zs).take w).length = w := by simp; omega
          refine Jl.fact (.rds (zs.take w)) (φ := .rds zs) (by repeat (first | exact Mem.here | apply Mem.there)) (fun X W h z hz => h z (List.mem_of_mem_take hz)) ?_
          rw [hltp]
          refine Jl.call (rows_at zs79 (zs.take w) hl79 hlt79 (by omega)) en16 (by rfl) (by repeat (first | exact Take.nil | apply Take.cons (by repeat (first | exact Del.here | apply Del.there)))) (by repeat (first | exact trivial | refine And.intro (by repeat (first | exact Mem.here | apply Mem.there)) ?_)) ?_
          rintro ⟨⟩
          refine Jl.as (.bool true) (congrArg Value.bool (by simp [hz1])) ?_
          refine Jl.pv (PR.move rfl) ?_
          refine Jl.on rfl rfl ?_
          refine Jl.call fwakes_ct en8 (by rfl) (by repeat (first | exact Take.nil | apply Take.cons (by repeat (first | exact Del.here | apply Del.there)))) (by repeat (first | exact trivial | refine And.intro (by repeat (first | exact Mem.here | apply Mem.there)) ?_)) ?_
          rintro ⟨⟩
          refine Jl.pv (PR.pickT rfl rfl) ?_
          refine Jl.pv (PR.assign rfl) ?_
          refine Jl.nil ?_
          refine Jq.thenN ?_
          refine Jc.ret ?_
          exact Jq.fin () (.inl rfl) rfl (RetVs.tmp rfl RetVs.nil) rfl (by repeat (first | exact Take.nil | apply Take.cons (by repeat (first | exact Del.here | apply Del.there)))) (by repeat (first | exact trivial | refine And.intro (by repeat (first | exact Mem.here | apply Mem.there)) ?_))
        · try replace g84 := of_decide_eq_false g84
          refine Jl.off rfl rfl rfl rfl ?_
          refine Jl.off rfl rfl rfl rfl ?_
          refine Jl.off rfl rfl rfl rfl ?_
          refine Jl.off rfl rfl rfl rfl ?_
          refine Jl.off rfl rfl rfl rfl ?_
          refine Jl.off rfl rfl rfl rfl ?_
          refine Jl.off rfl rfl rfl rfl ?_
          refine Jl.pv (PR.pickF rfl rfl) ?_
          refine Jl.pv (PR.move rfl) ?_
          refine Jl.on rfl rfl ?_
          refine Jl.pv (PR.move rfl) ?_
          refine Jl.on rfl rfl ?_
          refine Jl.pv (PR.eql true rfl rfl (decide_eq_true (by omega))) ?_
          refine Jl.on rfl rfl ?_
          refine Jl.pv (PR.move rfl) ?_
          refine Jl.on rfl rfl ?_
          refine Jl.pv (PR.move rfl) ?_
          refine Jl.on rfl rfl ?_
          refine Jl.pv (PR.neq false rfl rfl (decide_eq_false (fun h => h (by rw [show w = 0 by omega]; simp [eN, framesB])))) ?_
          refine Jl.on rfl rfl ?_
          refine Jl.pv (PR.pickT rfl rfl) ?_
          refine Jl.pv (PR.pickF rfl rfl) ?_
          refine Jl.nil ?_
          refine Jq.thenN ?_
          refine Jc.condF rfl ?_
          refine Jc.skip ?_
          refine Jq.thenN ?_
          refine Jc.seq ?_
          refine Jc.region ?_
          refine Jl.pv (PR.move rfl) ?_
          refine Jl.pv (PR.move rfl) ?_
          refine Jl.pv (PR.move rfl) ?_
          refine Jl.slice 0 w w (slv (zs.take w)) rfl tsl29 rfl rfl (by repeat (first | exact Mem.here | apply Mem.there)) (by omega) (by omega) hc rfl (by simp [slv]) ?_
          intro A104 c104 hc104
          clear hc104
          have hz1 : pays (zs.take w) = pays zs79 := by rw [hz79]; simp [pays]
          have hl79 : zs79.length = w := by have := congrArg List.length hz79; simp [pays] at this; omega
          have hlt79 : (zs.take w).length = w := by simp; omega
          have hltp : ((pays zs).take w).length = w := by simp; omega
          refine Jl.fact (.rds (zs.take w)) (φ := .rds zs) (by repeat (first | exact Mem.here | apply Mem.there)) (fun X W h z hz => h z (List.mem_of_mem_take hz)) ?_
          rw [hltp]
          refine Jl.call (rows_at zs79 (zs.take w) hl79 hlt79 (by omega)) en16 (by rfl) (by repeat (first | exact Take.nil | apply Take.cons (by repeat (first | exact Del.here | apply Del.there)))) (by repeat (first | exact trivial | refine And.intro (by repeat (first | exact Mem.here | apply Mem.there)) ?_)) ?_
          rintro ⟨⟩
          refine Jl.as (.bool true) (congrArg Value.bool (by simp [hz1])) ?_
          refine Jl.pv (PR.move rfl) ?_
          refine Jl.on rfl rfl ?_
          refine Jl.call fwakes_ct en8 (by rfl) (by repeat (first | exact Take.nil | apply Take.cons (by repeat (first | exact Del.here | apply Del.there)))) (by repeat (first | exact trivial | refine And.intro (by repeat (first | exact Mem.here | apply Mem.there)) ?_)) ?_
          rintro ⟨⟩
          refine Jl.pv (PR.pickT rfl rfl) ?_
          refine Jl.pv (PR.assign rfl) ?_
          refine Jl.nil ?_
          refine Jq.thenN ?_
          refine Jc.ret ?_
          exact Jq.fin () (.inl rfl) rfl (RetVs.tmp rfl RetVs.nil) rfl (by repeat (first | exact Take.nil | apply Take.cons (by repeat (first | exact Del.here | apply Del.there)))) (by repeat (first | exact trivial | refine And.intro (by repeat (first | exact Mem.here | apply Mem.there)) ?_))
end Go.Proofs.Ytnkekjhijkfckaa
