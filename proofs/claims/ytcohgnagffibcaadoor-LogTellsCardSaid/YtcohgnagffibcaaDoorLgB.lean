/-
Contracts of logs: Scan, frames, Long, Add, Open, Safe.
-/
import Derived.Test.YtcohgnagffibcaaDoorLgA
import Derived.Test.YtcohgnagffibcaaDoorMr
import Derived.Test.YtcohgnagffibcaaDoorMd
namespace Go.Proofs.YtcohgnagffibcaaDoor
set_option linter.unusedVariables false
open Go.RowKit
attribute [local irreducible] Res.blk Res.row Fact.rd
theorem rcs_snoc {zs : Rcs} {y : AdC} {p : Rc} {X : Nat → Prop} {W : World} (h : (Fact.rcs zs).p X W) (k : (Fact.rd y.1 (i64s p.l)).p X W) : (Fact.rcs (zs ++ [(y, p)])).p X W := fun z hz => by
  rcases List.mem_append.1 hz with hz | hz
  · exact h z hz
  · obtain rfl : z = (y, p) := by simpa using hz
    exact k
def rcsN (zs : Rcs) : List Rc := zs.map (·.2)
structure LS (b : List UInt8) where
  k : Nat
  zs : Rcs
  A : Option Addr
  c : Nat
  hz : rcsN zs = (logN b).take k
theorem LS.len {b : List UInt8} (s : LS b) (hk : s.k ≤ (scanN b).length) : s.zs.length = s.k := by
  have := congrArg List.length s.hz
  simp [rcsN, logN] at this
  omega
theorem rcsV_snoc (zs : Rcs) (y : AdC) (p : Rc) : rcsV (zs ++ [(y, p)]) = rcsV zs ++ p.cs y := by simp [rcsV]
abbrev RcsOf (l : List Rc) := { zs : Rcs // rcsN zs = l }
theorem RcsOf.len {l : List Rc} (x : RcsOf l) : x.1.length = l.length := by
  have := congrArg List.length x.2
  simpa [rcsN] using this
theorem scan_ct (A : Option Addr) (c : Nat) (b : List UInt8) (mm : Nat → AdC) (hn : b.length ≤ 1000000) (hc : b.length ≤ c) :
    Ct Tryd.prog 10 [.slice A b.length c] [] [.rd A (u8s b), .many mm] (fun x : RcsOf (logN b) × AdC => .tuple #[.slice x.2.1 (scanN b).length x.2.2, .int .i64 (logU b)])
      (fun x => [.row 43 2 (.slice x.2.1 (scanN b).length x.2.2) (scanN b).length (rcsV x.1.1)]) (fun x => [.rcs x.1.1]) := by
  have hfl := scanN_len b
  refine Ct.of _ Tryd.func10 Tryd.ntmps10 rfl rfl (fun X W => ?_)
  refine Jc.seq ?_
  refine Jc.region ?_
  refine Jl.alloc tze25 ?_
  intro b2
  refine Jl.alloc tze3 ?_
  intro b3
  refine Jl.nil ?_
  refine Jq.thenN ?_
  refine Jc.seq ?_
  refine Jc.seq ?_
  refine Jc.region ?_
  refine Jl.pv (PR.move rfl) ?_
  refine Jl.call (scanned_ct A c b.length) en29 (by rfl) (by repeat (first | exact Take.nil | apply Take.cons (by repeat (first | exact Del.here | apply Del.there)))) (by repeat (first | exact trivial | refine And.intro (by repeat (first | exact Mem.here | apply Mem.there)) ?_)) ?_
  rintro b7
  refine Jl.nil ?_
  refine Jq.thenN ?_
  refine Jc.block ?_
  refine Jc.nilRow 43 2 ?_
  refine Jc.fact0 (.rcs []) (fun X W => by intro z hz; simp at hz) ?_
  refine Jc.rangeY (σ := LS b) (τ := Empty) (Inv := fun k s => s.k = k) (Rs := fun s => [.row 43 2 (.slice s.A s.k s.c) s.k (rcsV s.zs), .blk b3 3 [.int .i64 (usedL b s.k : Nat)], .blk b2 25 [.slice s.A s.k s.c]]) (Φs := fun s => [.rcs s.zs]) (InvX := fun _ _ _ => False) (RsX := fun _ => []) (ΦsX := fun _ => []) (vals := svals b) (posts := sposts b) rfl en38 (scanned1_it A c b mm hn hc b7) (by repeat (first | exact Take.nil | apply Take.cons (by repeat (first | exact Del.here | apply Del.there)))) (by repeat (first | exact trivial | refine And.intro (by repeat (first | exact Mem.here | apply Mem.there)) ?_)) (fun _ _ => rfl) rfl ⟨0, [], none, 0, rfl⟩ rfl (by simp [rcsV, usedL]) (by exact ⟨Mem.here, trivial⟩) ?_ ?_ ?_
  · rintro k ⟨j, zs, A', c', hz⟩ y hk hj l C1
    obtain rfl : k = j := hj.symm
    have hfa := scanAt_len hk
    have hzl : zs.length = k := LS.len ⟨k, zs, A', c', hz⟩ (by simp only; omega)
    have hrl := rcsV_len zs
    obtain ⟨p, r, hpr⟩ : ∃ p r, scanAt b k = (p, r) := ⟨_, _, rfl⟩
    rw [hpr] at hfa
    simp only at hfa
    rw [show svals b k y = [.int .i64 ((b.length : Int) - (r.length : Nat)), p.v y] by rw [svals, hpr], show sposts b k y = [.rd y.1 (i64s p.l)] by rw [sposts, hpr]]
    show Jc _ _ _ _ _ _ (psetL [8, 9] [.int .i64 ((b.length : Int) - (r.length : Nat)), p.v y] _) [.row 43 2 (.slice A' k c') k (rcsV zs), .blk b3 3 [.int .i64 (usedL b k : Nat)], .blk b2 25 [.slice A' k c']] [.rd y.1 (i64s p.l), .rcs zs]
    refine Jc.seq ?_
    refine Jc.region ?_
    refine Jl.pv (PR.assign rfl) ?_
    refine Jl.nil ?_
    refine Jq.thenN ?_
    refine Jc.region ?_
    refine Jl.alloc tze43 ?_
    intro b5
    refine Jl.storeW rfl tsh43 rfl (by rfl) (by first | exact rc_one _ _ | simp [Value.oneCell', Rc.cs]) (by repeat (first | exact Swap.here | apply Swap.there)) (by rfl) ?_
    refine Jl.nil ?_
    refine Jq.assigned (fun C2 => ?_)
    refine Jc.block ?_
    refine Jc.region ?_
    refine Jl.pv (PR.load1 rfl tsh25 (by repeat (first | exact Has.here | apply Has.there)) (by rfl)) ?_
    refine Jl.pv (PR.loadW rfl tsh43 (by repeat (first | exact Has.here | apply Has.there)) (by rfl)) ?_
    refine Jl.buildSlice (by rfl) tsl25 tzr25_1 (by rfl) (by rfl) ?_
    intro b12
    refine Jl.seal (by repeat (first | exact Del.here | apply Del.there)) ?_
    refine Jl.append (k + 1) (rcsV (zs ++ [(y, p)])) rfl rfl rfl tsl25 tze43 (by rfl) (by decide) tby43 (fun _ _ => (by repeat (first | exact Swap.here | apply Swap.there))) (by repeat (first | exact Mem.here | apply Mem.there)) rfl (by rw [rcsV_snoc]; rfl) rfl (by simp [Rc.cs, Value.oneCell']) (by omega) (by decide) ?_
    intro A13 c13
    refine Jl.fact2' (.rcs (zs ++ [(y, p)])) (φ := .rcs zs) (ψ := .rd y.1 (i64s p.l)) (by repeat (first | exact Mem.here | apply Mem.there)) (by repeat (first | exact Mem.here | apply Mem.there)) (fun X W h1 h2 => rcs_snoc h1 h2) ?_
    refine Jl.pv (PR.move rfl) ?_
    refine Jl.store1 rfl tsh25 rfl (by rfl) (by repeat (first | exact Swap.here | apply Swap.there)) (by rfl) ?_
    refine Jl.store1 rfl tsh3 rfl (by rfl) (by repeat (first | exact Swap.here | apply Swap.there)) (by rfl) ?_
    refine Jl.nil ?_
    refine Jq.blkN ?_
    refine Jq.lessR (rs := [.row 43 2 (.slice A13 (k + 1) c13) (k + 1) (rcsV (zs ++ [(y, p)])), .blk b3 3 [.int .i64 ((b.length : Int) - (r.length : Nat))], .blk b2 25 [.slice A13 (k + 1) c13]]) (by repeat (first | exact Take.nil | apply Take.cons (by repeat (first | exact Del.here | apply Del.there)))) ?_
    exact Jq.next ⟨k + 1, zs ++ [(y, p)], A13, c13, by rw [logN_take hpr hk, rcsN, List.map_append, ← rcsN, hz]; rfl⟩ rfl (by rw [usedL_succ, hpr, Int.ofNat_sub hfa]) (by exact ⟨(by repeat (first | exact Mem.here | apply Mem.there)), trivial⟩)
  · rintro ⟨j, zs, A', c', hz⟩ D0 hj
    obtain rfl : j = (scanN b).length := hj
    show Jq _ _ _ .normal _ [.mark D0, .row 43 2 (.slice A' (scanN b).length c') (scanN b).length (rcsV zs), .blk b3 3 [.int .i64 (usedL b (scanN b).length : Nat)], .blk b2 25 [.slice A' (scanN b).length c']] [.rcs zs]
    have hz' : rcsN zs = logN b := by rw [hz, List.take_of_length_le (by simp [logN])]
    refine Jq.blkN ?_
    refine Jq.thenN ?_
    refine Jc.seq ?_
    refine Jc.drawn [0, 0, 1, 7] ([], []) [⟨[(0, false), (1, false)], [], 2⟩, ⟨[], [], 3⟩] tmx (by kernel_rfl) ?_
    refine Dh.JH.cons ?_
    refine Dh.JB.rd [.blk _ _ _] rfl trivial (by repeat (first | exact Take.nil | apply Take.cons (by repeat (first | exact Del.here | apply Del.there)))) (fun _ => PR.load1 rfl tsh25 Has.here (by rfl)) ?_
    refine Dh.JB.rd [.blk _ _ _] rfl trivial (by repeat (first | exact Take.nil | apply Take.cons (by repeat (first | exact Del.here | apply Del.there)))) (fun _ => PR.load1 rfl tsh3 Has.here (by rfl)) ?_
    refine Dh.JB.nil ?_
    refine Dh.JL.nil ?_
    refine Dh.JE.mk rfl (fun _ h => by cases h) (fun C5_2 => ?_)
    refine Jl.store1 rfl tsh25 rfl (by rfl) (by repeat (first | exact Swap.here | apply Swap.there)) (by rfl) ?_
    refine Jl.nil ?_
    refine Dh.Jq.segN (by repeat (first | exact Dh.FExt.refl | apply Dh.FExt.cons | apply Dh.FExt.app)) ?_ (by repeat (first | exact Dh.KeepL.nil | apply Dh.KeepL.anc (by rfl) | apply Dh.KeepL.keep (by repeat (first | exact Take.nil | apply Take.cons (by repeat (first | exact Del.here | apply Del.there))))))
    refine Dh.JH.cons ?_
    refine Dh.JB.nil ?_
    refine Dh.JL.nil ?_
    refine Dh.JE.mk rfl (fun _ h => by cases h) (fun C5_3 => ?_)
    refine Jl.store1 rfl tsh3 rfl (by rfl) (by repeat (first | exact Swap.here | apply Swap.there)) (by rfl) ?_
    refine Jl.nil ?_
    refine Dh.Jq.segN (by repeat (first | exact Dh.FExt.refl | apply Dh.FExt.cons | apply Dh.FExt.app)) ?_ (by repeat (first | exact Dh.KeepL.nil | apply Dh.KeepL.anc (by rfl) | apply Dh.KeepL.keep (by repeat (first | exact Take.nil | apply Take.cons (by repeat (first | exact Del.here | apply Del.there))))))
    refine Dh.JH.nil ?_
    refine Dh.JB.nil ?_
    refine Dh.JL.nil ?_
    refine Jq.thenN ?_
    refine Jc.ret ?_
    exact Jq.finM (Ds := [D0]) (⟨zs, hz'⟩, (A', c')) (.inl rfl) rfl (by repeat (first | exact Take.nil | apply Take.cons (by repeat (first | exact Del.here | apply Del.there)))) (RetVs.cell1 rfl (by repeat (first | exact Has.here | apply Has.there)) tsh25 (by rfl) (RetVs.cell1 rfl (by repeat (first | exact Has.here | apply Has.there)) tsh3 (by rfl) RetVs.nil)) rfl (by repeat (first | exact Take.nil | apply Take.cons (by repeat (first | exact Del.here | apply Del.there)))) (by repeat (first | exact trivial | refine And.intro (by repeat (first | exact Mem.here | apply Mem.there)) ?_))
  · exact fun _ _ t => t.elim
theorem fput_rec {A : Option Addr} {c : Nat} (r : Rc) : Ct Tryd.prog 46 [.slice A r.bytes.length c] [] [.rd A (u8s r.bytes)] (fun x : AdC => .tuple #[.slice x.1 (recB r).length x.2, .int .i64 0]) (fun x => [.row 5 1 (.slice x.1 (recB r).length x.2) (recB r).length (u8s (recB r))]) (fun _ => []) := by
  have h1 := bytes_le (r := r)
  have h0 := fput_ct A c r.bytes (by omega)
  rw [show putFN r.bytes = recB r from if_pos (by omega), show putFR r.bytes = 0 from if_pos (by omega)] at h0
  exact h0
theorem okAll_no {zs : Rcs} {k : Nat} (h : k < zs.length) (h2 : zs[k].2.ok = false) : okAll zs = false := by
  rw [okAll, List.all_eq_false]
  exact ⟨zs[k], List.getElem_mem h, by simp [h2]⟩
theorem okAll_yes {zs : Rcs} (h : ∀ j (hj : j < zs.length), zs[j].2.ok = true) : okAll zs = true := by
  rw [okAll, List.all_eq_true]
  intro z hz
  obtain ⟨j, hj, rfl⟩ := List.mem_iff_getElem.1 hz
  exact h j hj
theorem okAll_rcs {zs : Rcs} : okAll zs = true ↔ ∀ r ∈ rcsN zs, r.ok = true := by
  simp only [okAll, rcsN, List.all_eq_true, List.mem_map]
  exact ⟨fun h r ⟨z, hz, e⟩ => e ▸ h z hz, fun h z hz => h _ ⟨z, hz, rfl⟩⟩
def frsN (zs : Rcs) : List UInt8 := if okAll zs = true then recsB (rcsN zs) else []
theorem recsK {zs : Rcs} {k : Nat} (h : k < zs.length) : recsB ((rcsN zs).take (k + 1)) = recsB ((rcsN zs).take k) ++ recB zs[k].2 := by
  have hl : k < (rcsN zs).length := by simpa [rcsN] using h
  rw [List.take_succ_eq_append_getElem hl, recsB_app]
  simp [recsB, rcsN]
theorem recsK_len {zs : Rcs} (k : Nat) (h : zs.length ≤ 1000) : (recsB ((rcsN zs).take k)).length ≤ 1014000 := by
  have h1 := recsB_len ((rcsN zs).take k)
  have h2 : ((rcsN zs).take k).length ≤ 1000 := by rw [List.length_take]; simp [rcsN]; omega
  omega
theorem putE_no {r : Rc} (h : r.putE ≠ 0) : r.ok = false := by
  unfold Rc.putE at h
  split at h
  · exact absurd rfl h
  · rename_i h2; simpa using h2
theorem putE_yes {r : Rc} (h : r.putE = 0) : r.ok = true := by
  unfold Rc.putE at h
  split at h
  · assumption
  · cases h
theorem frames_ct (L : Option Addr) (cL : Nat) (zs : Rcs) (mm : Nat → AdC) (hn : zs.length ≤ 1000) (hl : ∀ z ∈ zs, z.2.l.length ≤ 1000000) :
    Ct Tryd.prog 32 [.slice L zs.length cL] [] [.rd L (rcsV zs), .rcs zs, .many mm] (fun x : AdC => .tuple #[.slice x.1 (frsN zs).length x.2, .bool (okAll zs)]) (fun x => [.row 5 1 (.slice x.1 (frsN zs).length x.2) (frsN zs).length (u8s (frsN zs))]) (fun _ => []) := by
  have hrl := rcsV_len zs
  refine Ct.of _ Tryd.func32 Tryd.ntmps32 rfl rfl (fun X W => ?_)
  refine Jc.seq ?_
  refine Jc.region ?_
  refine Jl.pv (PR.assign rfl) ?_
  refine Jl.pv (PR.assign rfl) ?_
  refine Jl.nil ?_
  refine Jq.thenN ?_
  refine Jc.scope (σ := { _u : Unit // okAll zs = false }) (fun _ => []) (fun _ => []) (fun _ => []) (fun _ => 0) (l := 0) rfl ?_ ?_
  · rintro ⟨_, hno⟩
    rw [show frsN zs = [] from if_neg (by simp [hno]), hno]
    refine Jc.seq ?_
    refine Jc.region ?_
    refine Jl.pv (PR.assign rfl) ?_
    refine Jl.pv (PR.assign rfl) ?_
    refine Jl.nil ?_
    refine Jq.thenN ?_
    refine Jc.ret ?_
    refine Jq.jmpR ?_
    refine Jq.nilRow 5 1 ?_
    exact Jq.fin (none, 0) (.inl rfl) rfl (RetVs.tmp rfl (RetVs.tmp rfl RetVs.nil)) rfl (by repeat (first | exact Take.nil | apply Take.cons (by repeat (first | exact Del.here | apply Del.there)))) (by repeat (first | exact trivial | refine And.intro (by repeat (first | exact Mem.here | apply Mem.there)) ?_))
  · intro hfirst0
    refine Jc.seq ?_
    refine Jc.seq ?_
    refine Jc.region ?_
    refine Jl.pv (PR.move rfl) ?_
    refine Jl.pv (PR.len rfl tsl25) ?_
    refine Jl.pv (PR.move rfl) ?_
    refine Jl.nil ?_
    refine Jq.thenN ?_
    refine Jc.block ?_
    refine Jc.nilRow 5 1 ?_
    refine Jc.loop (σ := { k : Nat // k ≤ zs.length ∧ ∀ j (hj : j < zs.length), j < k → zs[j].2.ok = true } × AdC) (fun s => [(11, .int .i64 (s.1.1 : Int)), (10, .int .i64 (zs.length : Int)), (9, .slice L zs.length cL), (2, .slice s.2.1 (recsB ((rcsN zs).take s.1.1)).length s.2.2)]) (fun s => [.row 5 1 (.slice s.2.1 (recsB ((rcsN zs).take s.1.1)).length s.2.2) (recsB ((rcsN zs).take s.1.1)).length (u8s (recsB ((rcsN zs).take s.1.1)))]) (fun s => [.rd L (rcsV zs), .rcs zs, .many mm]) (fun s => zs.length - s.1.1) (⟨0, Nat.zero_le _, fun j hj h => by omega⟩, (none, 0)) (by repeat (first | exact trivial | refine And.intro rfl ?_)) rfl (by repeat (first | exact trivial | refine And.intro (by repeat (first | exact Mem.here | apply Mem.there)) ?_)) ?_
    rintro ⟨⟨k, hk, hO⟩, ⟨A2, c2⟩⟩
    show Jc _ _ _ _ _ _ [(11, Value.int .i64 (k : Int)), (10, .int .i64 (zs.length : Int)), (9, .slice L zs.length cL), (2, .slice A2 (recsB ((rcsN zs).take k)).length c2)] [.row 5 1 (.slice A2 (recsB ((rcsN zs).take k)).length c2) (recsB ((rcsN zs).take k)).length (u8s (recsB ((rcsN zs).take k)))] [.rd L (rcsV zs), .rcs zs, .many mm]
    refine Jc.seq ?_
    refine Jc.region ?_
    refine Jl.pv (PR.lss _ rfl rfl rfl) ?_
    refine Jl.nil ?_
    refine Jq.thenN ?_
    refine Jc.seq ?_
    refine Jc.cond rfl (fun h0 => ?_) (fun h0 => ?_)
    · try replace h0 := of_decide_eq_true h0
      have hlt : k < zs.length := by omega
      have hkz := hl _ (List.getElem_mem hlt)
      have hb1 := recsK_len k hn
      have hb2 := recB_len zs[k].2
      refine Jc.fact (.rd zs[k].1.1 (i64s zs[k].2.l)) (φ := .rcs zs) (by repeat (first | exact Mem.here | apply Mem.there)) (fun X W h => h _ (List.getElem_mem _)) ?_
      refine Jc.skip ?_
      refine Jq.thenN ?_
      refine Jc.seq ?_
      refine Jc.block ?_
      refine Jc.seq ?_
      refine Jc.region ?_
      refine Jl.pv (PR.idx k rfl rfl tsl25 (by repeat (first | exact Mem.here | apply Mem.there)) (rcsV_len _) (by omega) rfl hlt) ?_
      refine Jl.pv (PR.loadRA rfl tsh43 (by repeat (first | exact Mem.here | apply Mem.there)) (by decide) (rcs_at hlt)) ?_
      refine Jl.alloc tze43 ?_
      intro b5
      refine Jl.storeW rfl tsh43 rfl (by rfl) (by first | exact rc_one _ _ | simp [Value.oneCell', Rc.cs]) (by repeat (first | exact Swap.here | apply Swap.there)) (by rfl) ?_
      refine Jl.nil ?_
      refine Jq.thenN ?_
      refine Jc.seq ?_
      refine Jc.region ?_
      refine Jl.pv (PR.loadW rfl tsh43 (by repeat (first | exact Has.here | apply Has.there)) (by rfl)) ?_
      refine Jl.call (rcput_ct zs[k].2 zs[k].1 mm hkz) en45 (by rfl) (by repeat (first | exact Take.nil | apply Take.cons (by repeat (first | exact Del.here | apply Del.there)))) (by repeat (first | exact trivial | refine And.intro (by repeat (first | exact Mem.here | apply Mem.there)) ?_)) ?_
      rintro ⟨A17, c17⟩
      refine Jl.pv (PR.move rfl) ?_
      refine Jl.pv (PR.extract rfl (by rfl)) ?_
      refine Jl.pv (PR.extract rfl (by rfl)) ?_
      refine Jl.pv (PR.assign rfl) ?_
      refine Jl.pv (PR.assign rfl) ?_
      refine Jl.nil ?_
      refine Jq.thenN ?_
      refine Jc.seq ?_
      refine Jc.seq ?_
      refine Jc.region ?_
      refine Jl.pv (PR.move rfl) ?_
      refine Jl.pv (PR.neq _ rfl rfl rfl) ?_
      refine Jl.nil ?_
      refine Jq.thenN ?_
      refine Jc.cond rfl (fun h1 => ?_) (fun h1 => ?_)
      · try replace h1 := of_decide_eq_true h1
        refine Jc.goto ?_
        refine Jq.thenG ?_
        refine Jq.blkG ?_
        refine Jq.thenG ?_
        refine Jq.thenG ?_
        refine Jq.blkG ?_
        refine Jq.thenG ?_
        refine Jq.lessR (rs := []) (by repeat (first | exact Take.nil | apply Take.cons (by repeat (first | exact Del.here | apply Del.there)))) ?_
        exact Jq.jmpA ⟨(), okAll_no hlt (putE_no h1)⟩ (by repeat (first | exact trivial | refine And.intro rfl ?_)) rfl trivial
      · try replace h1 := of_decide_eq_false h1
        have hok : zs[k].2.ok = true := putE_yes (by simpa using h1)
        refine Jc.skip ?_
        refine Jq.thenN ?_
        refine Jc.seq ?_
        refine Jc.region ?_
        refine Jl.pv (PR.move rfl) ?_
        refine Jl.sealR (by repeat (first | exact Del.here | apply Del.there)) ?_
        refine Jl.call (fput_rec zs[k].2) en46 (by rfl) (by repeat (first | exact Take.nil | apply Take.cons (by repeat (first | exact Del.here | apply Del.there)))) (by repeat (first | exact trivial | refine And.intro (by repeat (first | exact Mem.here | apply Mem.there)) ?_)) ?_
        rintro ⟨A24, c24⟩
        refine Jl.sealR (by repeat (first | exact Del.here | apply Del.there)) ?_
        refine Jl.pv (PR.move rfl) ?_
        refine Jl.pv (PR.extract rfl (by rfl)) ?_
        refine Jl.pv (PR.extract rfl (by rfl)) ?_
        refine Jl.pv (PR.assign rfl) ?_
        refine Jl.pv (PR.assign rfl) ?_
        refine Jl.nil ?_
        refine Jq.thenN ?_
        refine Jc.seq ?_
        refine Jc.seq ?_
        refine Jc.region ?_
        refine Jl.pv (PR.move rfl) ?_
        refine Jl.pv (PR.neq false rfl rfl (by simp)) ?_
        refine Jl.nil ?_
        refine Jq.thenN ?_
        refine Jc.condF rfl ?_
        refine Jc.skip ?_
        refine Jq.thenN ?_
        refine Jc.region ?_
        refine Jl.pv (PR.move rfl) ?_
        refine Jl.pv (PR.move rfl) ?_
        refine Jl.append (recsB ((rcsN zs).take (k + 1))).length (u8s (recsB ((rcsN zs).take (k + 1)))) rfl rfl rfl tsl22 tze5 (by rfl) (by decide) tby5 (fun _ _ => (by repeat (first | exact Swap.here | apply Swap.there))) (by repeat (first | exact Mem.here | apply Mem.there)) (by rw [recsK hlt]; simp) (by rw [recsK hlt]; simp [u8s]) (by simp [u8s]) (u8s_one _) (by omega) (by decide) ?_
        intro A31 c31
        refine Jl.pv (PR.assign rfl) ?_
        refine Jl.nil ?_
        refine Jq.blkN ?_
        refine Jq.thenN ?_
        refine Jc.region ?_
        refine Jl.pv (PR.add ((k + 1 : Nat) : Int) rfl rfl (by rw [w64 (by omega) (by omega)]; rfl)) ?_
        refine Jl.pv (PR.move rfl) ?_
        refine Jl.nil ?_
        exact Jq.againT (⟨k + 1, hlt, fun j hj hjk => by rcases Nat.lt_succ_iff_lt_or_eq.1 hjk with h | rfl; exact hO j hj h; exact hok⟩, (A31, c31)) (by simp only; omega) (by repeat (first | exact trivial | refine And.intro rfl ?_)) (by repeat (first | exact Take.nil | apply Take.cons (by repeat (first | exact Del.here | apply Del.there)))) (by repeat (first | exact trivial | refine And.intro (by repeat (first | exact Mem.here | apply Mem.there)) ?_))
    · try replace h0 := of_decide_eq_false h0
      obtain rfl : k = zs.length := by omega
      have hall : okAll zs = true := okAll_yes fun j hj => hO j hj hj
      have htk : (rcsN zs).take zs.length = rcsN zs := List.take_of_length_le (by simp [rcsN])
      rw [htk]
      refine Jc.exit ?_
      refine Jq.thenX ?_
      refine Jq.thenX ?_
      refine Jq.blkX ?_
      refine Jq.thenN ?_
      refine Jc.seq ?_
      refine Jc.seq ?_
      refine Jc.region ?_
      refine Jl.pv (PR.move rfl) ?_
      refine Jl.pv (PR.assign rfl) ?_
      refine Jl.pv (PR.assign rfl) ?_
      refine Jl.nil ?_
      refine Jq.thenN ?_
      refine Jc.ret ?_
      refine Jq.thenR ?_
      refine Jq.jmpR ?_
      rw [show frsN zs = recsB (rcsN zs) from if_pos hall, hall]
      exact Jq.fin (A2, c2) (.inl rfl) rfl (RetVs.tmp rfl (RetVs.tmp rfl RetVs.nil)) rfl (by repeat (first | exact Take.nil | apply Take.cons (by repeat (first | exact Del.here | apply Del.there)))) (by repeat (first | exact trivial | refine And.intro (by repeat (first | exact Mem.here | apply Mem.there)) ?_))
def longL (zs : Rcs) : Int := if okAll zs = true then ((recsB (rcsN zs)).length : Nat) else -1
theorem long_ct' (L : Option Addr) (cL : Nat) (zs : Rcs) (mm : Nat → AdC) (hn : zs.length ≤ 1000) (hl : ∀ z ∈ zs, z.2.l.length ≤ 1000000) :
    Ct Tryd.prog 20 [.slice L zs.length cL] [] [.rd L (rcsV zs), .rcs zs, .many mm] (fun _ : Unit => .int .i64 (longL zs)) (fun _ => []) (fun _ => []) := by
  refine Ct.of _ Tryd.func20 Tryd.ntmps20 rfl rfl (fun X W => ?_)
  refine Jc.seq ?_
  refine Jc.region ?_
  refine Jl.pv (PR.assign rfl) ?_
  refine Jl.nil ?_
  refine Jq.thenN ?_
  refine Jc.seq ?_
  refine Jc.region ?_
  refine Jl.pv (PR.move rfl) ?_
  refine Jl.call (frames_ct L cL zs mm hn hl) en32 (by rfl) (by repeat (first | exact Take.nil | apply Take.cons (by repeat (first | exact Del.here | apply Del.there)))) (by repeat (first | exact trivial | refine And.intro (by repeat (first | exact Mem.here | apply Mem.there)) ?_)) ?_
  rintro ⟨A7, c7⟩
  refine Jl.pv (PR.move rfl) ?_
  refine Jl.pv (PR.extract rfl (by rfl)) ?_
  refine Jl.pv (PR.extract rfl (by rfl)) ?_
  refine Jl.pv (PR.assign rfl) ?_
  refine Jl.pv (PR.assign rfl) ?_
  refine Jl.nil ?_
  refine Jq.thenN ?_
  refine Jc.seq ?_
  refine Jc.seq ?_
  refine Jc.region ?_
  refine Jl.pv (PR.move rfl) ?_
  refine Jl.pv (PR.not rfl) ?_
  refine Jl.nil ?_
  refine Jq.thenN ?_
  refine Jc.cond rfl (fun h0 => ?_) (fun h0 => ?_)
  · try replace h0 := of_decide_eq_true h0
    refine Jc.seq ?_
    refine Jc.region ?_
    refine Jl.pv (PR.assign rfl) ?_
    refine Jl.nil ?_
    refine Jq.thenN ?_
    refine Jc.ret ?_
    refine Jq.thenR ?_
    exact Jq.fin () (.inl rfl) rfl (RetVs.tmp rfl RetVs.nil) (by rw [longL, if_neg (by simpa using h0)]; rfl) (by repeat (first | exact Take.nil | apply Take.cons (by repeat (first | exact Del.here | apply Del.there)))) (by repeat (first | exact trivial | refine And.intro (by repeat (first | exact Mem.here | apply Mem.there)) ?_))
  · try replace h0 := of_decide_eq_false h0
    refine Jc.skip ?_
    refine Jq.thenN ?_
    refine Jc.seq ?_
    refine Jc.region ?_
    refine Jl.pv (PR.move rfl) ?_
    refine Jl.pv (PR.len rfl tsl22) ?_
    refine Jl.pv (PR.assign rfl) ?_
    refine Jl.nil ?_
    refine Jq.thenN ?_
    refine Jc.ret ?_
    exact Jq.fin () (.inl rfl) rfl (RetVs.tmp rfl RetVs.nil) (by have h := (by simpa using h0 : okAll zs = true); rw [longL, if_pos h, frsN, if_pos h]; rfl) (by repeat (first | exact Take.nil | apply Take.cons (by repeat (first | exact Del.here | apply Del.there)))) (by repeat (first | exact trivial | refine And.intro (by repeat (first | exact Mem.here | apply Mem.there)) ?_))
def addD (d : Dk) (zs : Rcs) : Dk := if okAll zs = true then d.app (recsB (rcsN zs)) else d.own
def addE (d : Dk) (zs : Rcs) : Int := if okAll zs = true then d.appE (recsB (rcsN zs)) else 2
theorem add_ct (d : Dk) (x : AdC) (L : Option Addr) (cL : Nat) (zs : Rcs) (mm : Nat → AdC) (hd : d.b.length ≤ 500000) (hc : d.b.length ≤ x.2) (hn : zs.length ≤ 90) (hl : ∀ z ∈ zs, z.2.l.length ≤ 1000000) :
    Ct Tryd.prog 12 [d.v x, .slice L zs.length cL] [] [.rd x.1 (u8s d.b), .rd L (rcsV zs), .rcs zs, .many mm] (fun y : AdC => .tuple #[(addD d zs).v y, .int .i64 (addE d zs)]) (fun y => [(addD d zs).row y]) (fun _ => []) := by
  obtain ⟨A, c⟩ := x
  have hfl : (frsN zs).length ≤ 100000 := by
    unfold frsN; split
    · have h1 := recsB_len (rcsN zs)
      have h2 : (rcsN zs).length = zs.length := by simp [rcsN]
      omega
    · simp
  refine Ct.of _ Tryd.func12 Tryd.ntmps12 rfl rfl (fun X W => ?_)
  refine Jc.seq ?_
  refine Jc.region ?_
  refine Jl.box rfl (by rfl) ?_
  intro b2
  refine Jl.alloc tze24 ?_
  intro b4
  refine Jl.pv (PR.assign rfl) ?_
  refine Jl.nil ?_
  refine Jq.thenN ?_
  refine Jc.seq ?_
  refine Jc.region ?_
  refine Jl.pv (PR.move rfl) ?_
  refine Jl.call (frames_ct L cL zs mm (by omega) hl) en32 (by rfl) (by repeat (first | exact Take.nil | apply Take.cons (by repeat (first | exact Del.here | apply Del.there)))) (by repeat (first | exact trivial | refine And.intro (by repeat (first | exact Mem.here | apply Mem.there)) ?_)) ?_
  rintro ⟨A10, c10⟩
  refine Jl.sealR (by repeat (first | exact Del.here | apply Del.there)) ?_
  refine Jl.pv (PR.move rfl) ?_
  refine Jl.pv (PR.extract rfl (by rfl)) ?_
  refine Jl.pv (PR.extract rfl (by rfl)) ?_
  refine Jl.pv (PR.assign rfl) ?_
  refine Jl.pv (PR.assign rfl) ?_
  refine Jl.nil ?_
  refine Jq.thenN ?_
  refine Jc.seq ?_
  refine Jc.seq ?_
  refine Jc.region ?_
  refine Jl.pv (PR.move rfl) ?_
  refine Jl.pv (PR.not rfl) ?_
  refine Jl.nil ?_
  refine Jq.thenN ?_
  refine Jc.cond rfl (fun h0 => ?_) (fun h0 => ?_)
  · try replace h0 := of_decide_eq_true h0
    have hok : okAll zs = false := by simpa using h0
    refine Jc.seq ?_
    refine Jc.region ?_
    refine Jl.pv (PR.loadW rfl tsh24 (by repeat (first | exact Has.here | apply Has.there)) (by rfl)) ?_
    refine Jl.call (own_ct A c d hd hc) en33 (by rfl) (by repeat (first | exact Take.nil | apply Take.cons (by repeat (first | exact Del.here | apply Del.there)))) (by repeat (first | exact trivial | refine And.intro (by repeat (first | exact Mem.here | apply Mem.there)) ?_)) ?_
    rintro ⟨A16, c16⟩
    refine Jl.storeW rfl tsh24 rfl (by rfl) (by simp [Value.oneCell', Dk.cs]) (by repeat (first | exact Swap.here | apply Swap.there)) (by rfl) ?_
    refine Jl.pv (PR.assign rfl) ?_
    refine Jl.nil ?_
    refine Jq.thenN ?_
    refine Jc.ret ?_
    refine Jq.thenR ?_
    rw [show addD d zs = d.own from if_neg (by simp [hok]), show addE d zs = 2 from if_neg (by simp [hok])]
    exact Jq.fin (A16, c16) (.inl rfl) rfl (RetVs.cellA rfl (by repeat (first | exact Has.here | apply Has.there)) tsh24 (by rfl) (RetVs.tmp rfl RetVs.nil)) rfl (by repeat (first | exact Take.nil | apply Take.cons (by repeat (first | exact Del.here | apply Del.there)))) (by repeat (first | exact trivial | refine And.intro (by repeat (first | exact Mem.here | apply Mem.there)) ?_))
  · try replace h0 := of_decide_eq_false h0
    have hok : okAll zs = true := by simpa using h0
    refine Jc.skip ?_
    refine Jq.thenN ?_
    refine Jc.seq ?_
    refine Jc.region ?_
    refine Jl.pv (PR.loadW rfl tsh24 (by repeat (first | exact Has.here | apply Has.there)) (by rfl)) ?_
    refine Jl.pv (PR.move rfl) ?_
    refine Jl.call (append_ct A A10 c c10 d (frsN zs) hd hc hfl) en34 (by rfl) (by repeat (first | exact Take.nil | apply Take.cons (by repeat (first | exact Del.here | apply Del.there)))) (by repeat (first | exact trivial | refine And.intro (by repeat (first | exact Mem.here | apply Mem.there)) ?_)) ?_
    rintro ⟨A19, c19⟩
    refine Jl.pv (PR.extract rfl (by rfl)) ?_
    refine Jl.pv (PR.extract rfl (by rfl)) ?_
    refine Jl.storeW rfl tsh24 rfl (by rfl) (by simp [Value.oneCell', Dk.cs]) (by repeat (first | exact Swap.here | apply Swap.there)) (by rfl) ?_
    refine Jl.pv (PR.assign rfl) ?_
    refine Jl.nil ?_
    refine Jq.thenN ?_
    refine Jc.ret ?_
    rw [show addD d zs = d.app (frsN zs) by rw [addD, if_pos hok, frsN, if_pos hok], show addE d zs = d.appE (frsN zs) by rw [addE, if_pos hok, frsN, if_pos hok]]
    exact Jq.fin (A19, c19) (.inl rfl) rfl (RetVs.cellA rfl (by repeat (first | exact Has.here | apply Has.there)) tsh24 (by rfl) (RetVs.tmp rfl RetVs.nil)) rfl (by repeat (first | exact Take.nil | apply Take.cons (by repeat (first | exact Del.here | apply Del.there)))) (by repeat (first | exact trivial | refine And.intro (by repeat (first | exact Mem.here | apply Mem.there)) ?_))
/-- A disk, opened. -/
def openD (d : Dk) : Dk := ⟨d.own.b.take (logU d.own.b), (logU d.own.b : Nat), d.own.r⟩
abbrev OpenR (d : Dk) := { x : AdC // (openD d).b.length ≤ x.2 } × RcsOf (logN d.own.b) × AdC
theorem open_ct (d : Dk) (x : AdC) (mm : Nat → AdC) (hd : d.b.length ≤ 500000) (hc : d.b.length ≤ x.2) :
    Ct Tryd.prog 14 [d.v x] [] [.rd x.1 (u8s d.b), .many mm] (fun y : OpenR d => .tuple #[(openD d).v y.1.1, .slice y.2.2.1 (scanN d.own.b).length y.2.2.2]) (fun y => [.row 43 2 (.slice y.2.2.1 (scanN d.own.b).length y.2.2.2) (scanN d.own.b).length (rcsV y.2.1.1)]) (fun y => [.rd y.1.1.1 (u8s (openD d).b), .rcs y.2.1.1]) := by
  obtain ⟨A, c⟩ := x
  have hol := d.own_len
  have hul := logU_le d.own.b
  refine Ct.of _ Tryd.func14 Tryd.ntmps14 rfl rfl (fun X W => ?_)
  refine Jc.seq ?_
  refine Jc.region ?_
  refine Jl.box rfl (by rfl) ?_
  intro b1
  refine Jl.alloc tze24 ?_
  intro b2
  refine Jl.pv (PR.assign rfl) ?_
  refine Jl.nil ?_
  refine Jq.thenN ?_
  refine Jc.seq ?_
  refine Jc.region ?_
  refine Jl.pv (PR.loadW rfl tsh24 (by repeat (first | exact Has.here | apply Has.there)) (by rfl)) ?_
  refine Jl.call (own_ct A c d hd hc) en33 (by rfl) (by repeat (first | exact Take.nil | apply Take.cons (by repeat (first | exact Del.here | apply Del.there)))) (by repeat (first | exact trivial | refine And.intro (by repeat (first | exact Mem.here | apply Mem.there)) ?_)) ?_
  rintro ⟨A7, c7⟩
  refine Jl.sealC (by repeat (first | exact Del.here | apply Del.there)) (fun hc7 => ?_)
  refine Jl.storeW rfl tsh24 rfl (by rfl) (by simp [Value.oneCell', Dk.cs]) (by repeat (first | exact Swap.here | apply Swap.there)) (by rfl) ?_
  refine Jl.nil ?_
  refine Jq.thenN ?_
  refine Jc.seq ?_
  refine Jc.region ?_
  refine Jl.pv (PR.fieldAddr rfl tfl24_0) ?_
  refine Jl.pv (PR.load1 rfl tsh22 (by repeat (first | exact Has.here | apply Has.there)) (by rfl)) ?_
  refine Jl.call (scan_ct A7 c7 d.own.b mm (by omega) hc7) en10 (by rfl) (by repeat (first | exact Take.nil | apply Take.cons (by repeat (first | exact Del.here | apply Del.there)))) (by repeat (first | exact trivial | refine And.intro (by repeat (first | exact Mem.here | apply Mem.there)) ?_)) ?_
  rintro ⟨zs, ⟨A11, c11⟩⟩
  refine Jl.pv (PR.move rfl) ?_
  refine Jl.pv (PR.extract rfl (by rfl)) ?_
  refine Jl.pv (PR.extract rfl (by rfl)) ?_
  refine Jl.pv (PR.assign rfl) ?_
  refine Jl.pv (PR.assign rfl) ?_
  refine Jl.nil ?_
  refine Jq.thenN ?_
  refine Jc.seq ?_
  refine Jc.region ?_
  refine Jl.pv (PR.fieldAddr rfl tfl24_0) ?_
  refine Jl.pv (PR.load1 rfl tsh22 (by repeat (first | exact Has.here | apply Has.there)) (by rfl)) ?_
  refine Jl.pv (PR.move rfl) ?_
  refine Jl.slice 0 (logU d.own.b) ((openD d).b.length) (u8s (openD d).b) rfl tsl22 rfl rfl (by repeat (first | exact Mem.here | apply Mem.there)) (by omega) hul hc7 (by simp only [openD, List.length_take]; omega) (by simp only [openD, u8s, List.length_take, Nat.min_eq_left hul, Nat.mul_one, Nat.zero_mul, List.drop_zero, List.map_take]) ?_
  intro A17 c17 hc17
  skip
  refine Jl.pv (PR.move rfl) ?_
  refine Jl.pv (PR.fieldAddr rfl tfl24_0) ?_
  refine Jl.store1 rfl tsh22 rfl (by rfl) (by repeat (first | exact Swap.here | apply Swap.there)) (by rfl) ?_
  refine Jl.pv (PR.fieldAddr rfl tfl24_1) ?_
  refine Jl.store1 rfl tsh3 rfl (by rfl) (by repeat (first | exact Swap.here | apply Swap.there)) (by rfl) ?_
  refine Jl.nil ?_
  refine Jq.thenN ?_
  refine Jc.seq ?_
  refine Jc.region ?_
  refine Jl.pv (PR.loadW rfl tsh24 (by repeat (first | exact Has.here | apply Has.there)) (by rfl)) ?_
  refine Jl.pv (PR.move rfl) ?_
  refine Jl.storeW rfl tsh24 rfl (by rfl) (by simp [Value.oneCell', Dk.cs]) (by repeat (first | exact Swap.here | apply Swap.there)) (by rfl) ?_
  refine Jl.pv (PR.assign rfl) ?_
  refine Jl.nil ?_
  refine Jq.thenN ?_
  refine Jc.ret ?_
  exact Jq.fin (⟨(A17, c17), by simp only [openD, List.length_take]; omega⟩, zs, (A11, c11)) (.inl rfl) rfl (RetVs.cellA rfl (by repeat (first | exact Has.here | apply Has.there)) tsh24 (by rfl) (RetVs.tmp rfl RetVs.nil)) rfl (by repeat (first | exact Take.nil | apply Take.cons (by repeat (first | exact Del.here | apply Del.there)))) (by repeat (first | exact trivial | refine And.intro (by repeat (first | exact Mem.here | apply Mem.there)) ?_))
theorem safe_ct (d : Dk) (x : AdC) (mm : Nat → AdC) (hd : d.b.length ≤ 500000) (hc : d.b.length ≤ x.2) :
    Ct Tryd.prog 18 [d.v x] [] [.rd x.1 (u8s d.b), .many mm] (fun y : RcsOf (logN (d.own.b.take d.own.s.toNat)) × AdC => .slice y.2.1 (scanN (d.own.b.take d.own.s.toNat)).length y.2.2) (fun y => [.row 43 2 (.slice y.2.1 (scanN (d.own.b.take d.own.s.toNat)).length y.2.2) (scanN (d.own.b.take d.own.s.toNat)).length (rcsV y.1.1)]) (fun y => [.rcs y.1.1]) := by
  obtain ⟨A, c⟩ := x
  have hol := d.own_len
  have hof := d.own_fit
  have htl : (d.own.b.take d.own.s.toNat).length = d.own.s.toNat := by rw [List.length_take]; omega
  refine Ct.of _ Tryd.func18 Tryd.ntmps18 rfl rfl (fun X W => ?_)
  refine Jc.seq ?_
  refine Jc.region ?_
  refine Jl.box rfl (by rfl) ?_
  intro b1
  refine Jl.pv (PR.assign rfl) ?_
  refine Jl.nil ?_
  refine Jq.thenN ?_
  refine Jc.seq ?_
  refine Jc.region ?_
  refine Jl.pv (PR.loadW rfl tsh24 (by repeat (first | exact Has.here | apply Has.there)) (by rfl)) ?_
  refine Jl.call (own_ct A c d hd hc) en33 (by rfl) (by repeat (first | exact Take.nil | apply Take.cons (by repeat (first | exact Del.here | apply Del.there)))) (by repeat (first | exact trivial | refine And.intro (by repeat (first | exact Mem.here | apply Mem.there)) ?_)) ?_
  rintro ⟨A6, c6⟩
  refine Jl.sealC (by repeat (first | exact Del.here | apply Del.there)) (fun hc6 => ?_)
  refine Jl.storeW rfl tsh24 rfl (by rfl) (by simp [Value.oneCell', Dk.cs]) (by repeat (first | exact Swap.here | apply Swap.there)) (by rfl) ?_
  refine Jl.nil ?_
  refine Jq.thenN ?_
  refine Jc.seq ?_
  refine Jc.region ?_
  refine Jl.pv (PR.fieldAddr rfl tfl24_0) ?_
  refine Jl.pv (PR.load1 rfl tsh22 (by repeat (first | exact Has.here | apply Has.there)) (by rfl)) ?_
  refine Jl.pv (PR.fieldAddr rfl tfl24_1) ?_
  refine Jl.pv (PR.load1 rfl tsh3 (by repeat (first | exact Has.here | apply Has.there)) (by rfl)) ?_
  refine Jl.as (.int .i64 ((d.own.s.toNat : Nat) : Int)) (congrArg (Value.int .i64) (Int.toNat_of_nonneg hof.2.1).symm) ?_
  refine Jl.slice 0 d.own.s.toNat ((d.own.b.take d.own.s.toNat).length) (u8s (d.own.b.take d.own.s.toNat)) rfl tsl22 rfl rfl (by repeat (first | exact Mem.here | apply Mem.there)) (by omega) (by omega) hc6 (by omega) (by rw [htl]; simp [u8s, List.map_take]) ?_
  intro A12 c12 hc12
  skip
  refine Jl.call (scan_ct A12 c12 (d.own.b.take d.own.s.toNat) mm (by omega) (by omega)) en10 (by rfl) (by repeat (first | exact Take.nil | apply Take.cons (by repeat (first | exact Del.here | apply Del.there)))) (by repeat (first | exact trivial | refine And.intro (by repeat (first | exact Mem.here | apply Mem.there)) ?_)) ?_
  rintro ⟨zs, ⟨A13, c13⟩⟩
  refine Jl.pv (PR.move rfl) ?_
  refine Jl.pv (PR.extract rfl (by rfl)) ?_
  refine Jl.pv (PR.extract rfl (by rfl)) ?_
  refine Jl.pv (PR.assign rfl) ?_
  refine Jl.pv (PR.assign rfl) ?_
  refine Jl.nil ?_
  refine Jq.thenN ?_
  refine Jc.seq ?_
  refine Jc.region ?_
  refine Jl.pv (PR.move rfl) ?_
  refine Jl.pv (PR.assign rfl) ?_
  refine Jl.nil ?_
  refine Jq.thenN ?_
  refine Jc.ret ?_
  exact Jq.fin (zs, (A13, c13)) (.inl rfl) rfl (RetVs.tmp rfl RetVs.nil) rfl (by repeat (first | exact Take.nil | apply Take.cons (by repeat (first | exact Del.here | apply Del.there)))) (by repeat (first | exact trivial | refine And.intro (by repeat (first | exact Mem.here | apply Mem.there)) ?_))
end Go.Proofs.YtcohgnagffibcaaDoor
