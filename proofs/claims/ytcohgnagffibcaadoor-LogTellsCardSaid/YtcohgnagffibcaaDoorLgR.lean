/-
Contracts of the references of logs: Scan, frames, Long, Add, Open, Safe.
-/
import Derived.Test.YtcohgnagffibcaaDoorLgC
import Derived.Test.YtcohgnagffibcaaDoorMf
namespace Go.Proofs.YtcohgnagffibcaaDoor
set_option linter.unusedVariables false
open Go.RowKit
attribute [local irreducible] Res.blk Res.row Fact.rd
structure RS (b : List UInt8) where
  k : Nat
  r : List UInt8
  zs : Rcs
  x : AdC
  hI : ScI b k r
  hz : rcsN zs = (logN b).take k
  hu : b.length - r.length = usedL b k
theorem rlscan_ct (A : Option Addr) (c : Nat) (b : List UInt8) (hn : b.length ≤ 1000000) (hc : b.length ≤ c) :
    Ct Tryd.prog 11 [.slice A b.length c] [] [.rd A (u8s b)] (fun x : RcsOf (logN b) × AdC => .tuple #[.slice x.2.1 (scanN b).length x.2.2, .int .i64 (logU b)])
      (fun x => [.row 43 2 (.slice x.2.1 (scanN b).length x.2.2) (scanN b).length (rcsV x.1.1)]) (fun x => [.rcs x.1.1]) := by
  have hfl := scanN_len b
  refine Ct.of _ Tryd.func11 Tryd.ntmps11 rfl rfl (fun X W => ?_)
  refine Jc.seq ?_
  refine Jc.region ?_
  refine Jl.pv (PR.assign rfl) ?_
  refine Jl.pv (PR.assign rfl) ?_
  refine Jl.nil ?_
  refine Jq.thenN ?_
  refine Jc.seq ?_
  refine Jc.region ?_
  refine Jl.pv (PR.assign rfl) ?_
  refine Jl.nil ?_
  refine Jq.thenN ?_
  refine Jc.seq ?_
  refine Jc.region ?_
  refine Jl.pv (PR.assign rfl) ?_
  refine Jl.nil ?_
  refine Jq.thenN ?_
  refine Jc.block ?_
  refine Jc.nilRow 43 2 ?_
  refine Jc.fact0 (.rcs []) (fun X W => by intro z hz; simp at hz) ?_
  refine Jc.loop (σ := RS b) (fun s => [(0, .slice A b.length c), (4, .slice s.x.1 s.k s.x.2), (5, .int .i64 ((b.length - s.r.length : Nat) : Int))]) (fun s => [.row 43 2 (.slice s.x.1 s.k s.x.2) s.k (rcsV s.zs)]) (fun s => [.rcs s.zs, .rd A (u8s b)]) (fun s => s.r.length) ⟨0, b, [], (none, 0), ScI.zero b, rfl, by simp [usedL]⟩ (by exact ⟨rfl, rfl, by simp [elook], trivial⟩) rfl (by repeat (first | exact trivial | refine And.intro (by repeat (first | exact Mem.here | apply Mem.there)) ?_)) ?_
  rintro ⟨k, r, zs, ⟨A', c'⟩, hI, hz, hu⟩
  show Jc _ _ _ _ _ _ [(0, Value.slice A b.length c), (4, .slice A' k c'), (5, .int .i64 ((b.length - r.length : Nat) : Int))] [.row 43 2 (.slice A' k c') k (rcsV zs)] [.rcs zs, .rd A (u8s b)]
  have hle := hI.le
  have hk := hI.kle
  have hzl : zs.length = k := LS.len ⟨k, zs, A', c', hz⟩ hk
  have hrl := rcsV_len zs
  refine Jc.block ?_
  refine Jc.seq ?_
  refine Jc.region ?_
  refine Jl.pv (PR.move rfl) ?_
  refine Jl.pv (PR.move rfl) ?_
  refine Jl.slice (b.length - r.length) b.length r.length (u8s r) rfl tsl22 rfl rfl (by repeat (first | exact Mem.here | apply Mem.there)) (by omega) (by omega) hc (by omega) (by rw [Nat.mul_one, Nat.mul_one, show (u8s b).drop (b.length - r.length) = u8s r from (List.map_drop ..).symm.trans (congrArg u8s hI.suf), List.take_of_length_le (by simp [u8s])]) ?_
  intro A13 c13 hc13
  skip
  refine Jl.call (rftake_ct A13 c13 r (by omega) (by omega)) en30 (by rfl) (by repeat (first | exact Take.nil | apply Take.cons (by repeat (first | exact Del.here | apply Del.there)))) (by repeat (first | exact trivial | refine And.intro (by repeat (first | exact Mem.here | apply Mem.there)) ?_)) ?_
  rintro ⟨⟨A14, c14⟩, ⟨B14, d14⟩⟩
  refine Jl.sealC (by repeat (first | exact Del.here | apply Del.there)) (fun hc14 => ?_)
  refine Jl.pv (PR.move rfl) ?_
  refine Jl.pv (PR.extract rfl (by rfl)) ?_
  refine Jl.pv (PR.extract rfl (by rfl)) ?_
  refine Jl.pv (PR.extract rfl (by rfl)) ?_
  refine Jl.pv (PR.assign rfl) ?_
  refine Jl.pv (PR.assign rfl) ?_
  refine Jl.pv (PR.assign rfl) ?_
  refine Jl.nil ?_
  refine Jq.thenN ?_
  refine Jc.seq ?_
  refine Jc.seq ?_
  refine Jc.region ?_
  refine Jl.pv (PR.move rfl) ?_
  refine Jl.pv (PR.neq _ rfl rfl rfl) ?_
  refine Jl.nil ?_
  refine Jq.thenN ?_
  refine Jc.cond rfl (fun h0 => ?_) (fun h0 => ?_)
  · try replace h0 := of_decide_eq_true h0
    refine Jc.seq ?_
    refine Jc.region ?_
    refine Jl.pv (PR.move rfl) ?_
    refine Jl.pv (PR.move rfl) ?_
    refine Jl.pv (PR.assign rfl) ?_
    refine Jl.pv (PR.assign rfl) ?_
    refine Jl.nil ?_
    refine Jq.thenN ?_
    refine Jc.ret ?_
    refine Jq.thenR ?_
    refine Jq.blkR ?_
    refine Jq.thenR ?_
    refine Jq.blkR ?_
    obtain rfl := hI.stop (by rw [cutR, takeF_no (by simpa using h0)])
    exact Jq.fin (⟨zs, by rw [hz, List.take_of_length_le (by simp [logN])]⟩, (A', c')) (.inl rfl) rfl (RetVs.tmp rfl (RetVs.tmp rfl RetVs.nil)) (by rw [logU, ← hu]; rfl) (by repeat (first | exact Take.nil | apply Take.cons (by repeat (first | exact Del.here | apply Del.there)))) (by repeat (first | exact trivial | refine And.intro (by repeat (first | exact Mem.here | apply Mem.there)) ?_))
  · try replace h0 := of_decide_eq_false h0
    have hcf := takeF_yes (b := r) (by simpa using h0)
    have hfl2 := cutF_len hcf
    refine Jc.skip ?_
    refine Jq.thenN ?_
    refine Jc.seq ?_
    refine Jc.region ?_
    refine Jl.pv (PR.move rfl) ?_
    refine Jl.call (rtakeR_ct A14 c14 (takeF r).1 (by omega) hc14) en31 (by rfl) (by repeat (first | exact Take.nil | apply Take.cons (by repeat (first | exact Del.here | apply Del.there)))) (by repeat (first | exact trivial | refine And.intro (by repeat (first | exact Mem.here | apply Mem.there)) ?_)) ?_
    rintro ⟨A24, c24⟩
    refine Jl.sealR (by repeat (first | exact Del.here | apply Del.there)) ?_
    refine Jl.pv (PR.move rfl) ?_
    refine Jl.pv (PR.extract rfl (by rfl)) ?_
    refine Jl.pv (PR.extract rfl (by rfl)) ?_
    refine Jl.alloc tze43 ?_
    intro b9
    refine Jl.storeW rfl tsh43 rfl (by rfl) (by first | exact rc_one _ _ | simp [Value.oneCell', Rc.cs]) (by repeat (first | exact Swap.here | apply Swap.there)) (by rfl) ?_
    refine Jl.pv (PR.assign rfl) ?_
    refine Jl.nil ?_
    refine Jq.thenN ?_
    refine Jc.seq ?_
    refine Jc.seq ?_
    refine Jc.region ?_
    refine Jl.pv (PR.move rfl) ?_
    refine Jl.pv (PR.neq _ rfl rfl rfl) ?_
    refine Jl.nil ?_
    refine Jq.thenN ?_
    refine Jc.cond rfl (fun h1 => ?_) (fun h1 => ?_)
    · try replace h1 := of_decide_eq_true h1
      refine Jc.seq ?_
      refine Jc.region ?_
      refine Jl.pv (PR.move rfl) ?_
      refine Jl.pv (PR.move rfl) ?_
      refine Jl.pv (PR.assign rfl) ?_
      refine Jl.pv (PR.assign rfl) ?_
      refine Jl.nil ?_
      refine Jq.thenN ?_
      refine Jc.ret ?_
      refine Jq.thenR ?_
      refine Jq.blkR ?_
      refine Jq.thenR ?_
      refine Jq.blkR ?_
      obtain rfl := hI.stop (by rw [cutR, hcf]; simp only; rw [if_neg (by simpa using h1)])
      exact Jq.fin (⟨zs, by rw [hz, List.take_of_length_le (by simp [logN])]⟩, (A', c')) (.inl rfl) rfl (RetVs.tmp rfl (RetVs.tmp rfl RetVs.nil)) (by rw [logU, ← hu]; rfl) (by repeat (first | exact Take.nil | apply Take.cons (by repeat (first | exact Del.here | apply Del.there)))) (by repeat (first | exact trivial | refine And.intro (by repeat (first | exact Mem.here | apply Mem.there)) ?_))
    · try replace h1 := of_decide_eq_false h1
      have he : rcE (takeF r).1 = 0 := by simpa using h1
      have hcr2 : cutR r = some (rcOf (takeF r).1, (takeF r).2.1) := by rw [cutR, hcf]; simp only; rw [if_pos he]
      obtain ⟨hkN, hfk, hI'⟩ := hI.next hcr2
      have hpr : scanAt b k = (rcOf (takeF r).1, (takeF r).2.1) := scanAt_eq hfk
      refine Jc.skip ?_
      refine Jq.thenN ?_
      refine Jc.seq ?_
      refine Jc.region ?_
      refine Jl.pv (PR.move rfl) ?_
      refine Jl.pv (PR.loadW rfl tsh43 (by repeat (first | exact Has.here | apply Has.there)) (by rfl)) ?_
      refine Jl.buildSlice (by rfl) tsl25 tzr25_1 (by rfl) (by rfl) ?_
      intro b33
      refine Jl.seal (by repeat (first | exact Del.here | apply Del.there)) ?_
      refine Jl.append (k + 1) (rcsV (zs ++ [((A24, c24), rcOf (takeF r).1)])) rfl rfl rfl tsl25 tze43 (by rfl) (by decide) tby43 (fun _ _ => (by repeat (first | exact Swap.here | apply Swap.there))) (by repeat (first | exact Mem.here | apply Mem.there)) rfl (by rw [rcsV_snoc]; rfl) rfl (by simp [Rc.cs, Value.oneCell']) (by omega) (by decide) ?_
      intro A34 c34
      refine Jl.fact2' (.rcs (zs ++ [((A24, c24), rcOf (takeF r).1)])) (φ := .rcs zs) (ψ := .rd A24 (i64s (rcOf (takeF r).1).l)) (by repeat (first | exact Mem.here | apply Mem.there)) (by repeat (first | exact Mem.here | apply Mem.there)) (fun X W h1 h2 => rcs_snoc h1 h2) ?_
      refine Jl.pv (PR.assign rfl) ?_
      refine Jl.nil ?_
      refine Jq.thenN ?_
      refine Jc.region ?_
      refine Jl.pv (PR.move rfl) ?_
      refine Jl.pv (PR.len rfl tsl22) ?_
      refine Jl.pv (PR.move rfl) ?_
      refine Jl.pv (PR.len rfl tsl22) ?_
      refine Jl.pv (PR.sub ((b.length - (takeF r).2.1.length : Nat) : Int) rfl rfl (by rw [w64 (by omega) (by omega)]; omega)) ?_
      refine Jl.pv (PR.assign rfl) ?_
      refine Jl.nil ?_
      refine Jq.blkN ?_
      exact Jq.againT ⟨k + 1, (takeF r).2.1, zs ++ [((A24, c24), rcOf (takeF r).1)], (A34, c34), hI', by rw [logN_take hpr hkN, rcsN, List.map_append, ← rcsN, hz]; rfl, by rw [usedL_succ, hpr]⟩ (by simp only; omega) (by repeat (first | exact trivial | refine And.intro rfl ?_)) (by repeat (first | exact Take.nil | apply Take.cons (by repeat (first | exact Del.here | apply Del.there)))) (by repeat (first | exact trivial | refine And.intro (by repeat (first | exact Mem.here | apply Mem.there)) ?_))
theorem rframes_ct (L : Option Addr) (cL : Nat) (zs : Rcs) (hn : zs.length ≤ 1000) (hl : ∀ z ∈ zs, z.2.l.length ≤ 1000000) :
    Ct Tryd.prog 35 [.slice L zs.length cL] [] [.rd L (rcsV zs), .rcs zs] (fun x : AdC => .tuple #[.slice x.1 (frsN zs).length x.2, .bool (okAll zs)]) (fun x => [.row 5 1 (.slice x.1 (frsN zs).length x.2) (frsN zs).length (u8s (frsN zs))]) (fun _ => []) := by
  have hrl := rcsV_len zs
  refine Ct.of _ Tryd.func35 Tryd.ntmps35 rfl rfl (fun X W => ?_)
  refine Jc.seq ?_
  refine Jc.region ?_
  refine Jl.pv (PR.assign rfl) ?_
  refine Jl.pv (PR.assign rfl) ?_
  refine Jl.nil ?_
  refine Jq.thenN ?_
  refine Jc.seq ?_
  refine Jc.region ?_
  refine Jl.pv (PR.assign rfl) ?_
  refine Jl.nil ?_
  refine Jq.thenN ?_
  refine Jc.seq ?_
  refine Jc.seq ?_
  refine Jc.region ?_
  refine Jl.pv (PR.assign rfl) ?_
  refine Jl.nil ?_
  refine Jq.thenN ?_
  refine Jc.block ?_
  refine Jc.nilRow 5 1 ?_
  refine Jc.loop (σ := { k : Nat // k ≤ zs.length ∧ ∀ j (hj : j < zs.length), j < k → zs[j].2.ok = true } × AdC) (fun s => [(5, .int .i64 (s.1.1 : Int)), (0, .slice L zs.length cL), (4, .slice s.2.1 (recsB ((rcsN zs).take s.1.1)).length s.2.2)]) (fun s => [.row 5 1 (.slice s.2.1 (recsB ((rcsN zs).take s.1.1)).length s.2.2) (recsB ((rcsN zs).take s.1.1)).length (u8s (recsB ((rcsN zs).take s.1.1)))]) (fun s => [.rd L (rcsV zs), .rcs zs]) (fun s => zs.length - s.1.1) (⟨0, Nat.zero_le _, fun j hj h => by omega⟩, (none, 0)) (by repeat (first | exact trivial | refine And.intro rfl ?_)) rfl (by repeat (first | exact trivial | refine And.intro (by repeat (first | exact Mem.here | apply Mem.there)) ?_)) ?_
  rintro ⟨⟨k, hk, hO⟩, ⟨A2, c2⟩⟩
  show Jc _ _ _ _ _ _ [(5, Value.int .i64 (k : Int)), (0, .slice L zs.length cL), (4, .slice A2 (recsB ((rcsN zs).take k)).length c2)] [.row 5 1 (.slice A2 (recsB ((rcsN zs).take k)).length c2) (recsB ((rcsN zs).take k)).length (u8s (recsB ((rcsN zs).take k)))] [.rd L (rcsV zs), .rcs zs]
  refine Jc.seq ?_
  refine Jc.seq ?_
  refine Jc.region ?_
  refine Jl.pv (PR.move rfl) ?_
  refine Jl.pv (PR.move rfl) ?_
  refine Jl.pv (PR.len rfl tsl25) ?_
  refine Jl.pv (PR.lss _ rfl rfl rfl) ?_
  refine Jl.nil ?_
  refine Jq.thenN ?_
  refine Jc.cond rfl (fun h0 => ?_) (fun h0 => ?_)
  · try replace h0 := of_decide_eq_true h0
    have hlt : k < zs.length := by omega
    have hkz := hl _ (List.getElem_mem hlt)
    have hb1 := recsK_len k hn
    have hb2 := recB_len zs[k].2
    have hb3 := bytes_le (r := zs[k].2)
    refine Jc.fact (.rd zs[k].1.1 (i64s zs[k].2.l)) (φ := .rcs zs) (by repeat (first | exact Mem.here | apply Mem.there)) (fun X W h => h _ (List.getElem_mem _)) ?_
    refine Jc.skip ?_
    refine Jq.thenN ?_
    refine Jc.seq ?_
    refine Jc.block ?_
    refine Jc.seq ?_
    refine Jc.region ?_
    refine Jl.pv (PR.move rfl) ?_
    refine Jl.pv (PR.move rfl) ?_
    refine Jl.pv (PR.idx k rfl rfl tsl25 (by repeat (first | exact Mem.here | apply Mem.there)) (rcsV_len _) (by omega) rfl hlt) ?_
    refine Jl.pv (PR.loadRA rfl tsh43 (by repeat (first | exact Mem.here | apply Mem.there)) (by decide) (rcs_at hlt)) ?_
    refine Jl.call (rputR_ct zs[k].2 zs[k].1 hkz) en50 (by rfl) (by repeat (first | exact Take.nil | apply Take.cons (by repeat (first | exact Del.here | apply Del.there)))) (by repeat (first | exact trivial | refine And.intro (by repeat (first | exact Mem.here | apply Mem.there)) ?_)) ?_
    rintro ⟨A20, c20⟩
    refine Jl.pv (PR.move rfl) ?_
    refine Jl.pv (PR.extract rfl (by rfl)) ?_
    refine Jl.pv (PR.extract rfl (by rfl)) ?_
    refine Jl.pv (PR.assign rfl) ?_
    refine Jl.pv (PR.assign rfl) ?_
    refine Jl.nil ?_
    refine Jq.thenN ?_
    refine Jc.seq ?_
    refine Jc.seq ?_
    refine Jc.region ?_
    refine Jl.pv (PR.move rfl) ?_
    refine Jl.pv (PR.neq _ rfl rfl rfl) ?_
    refine Jl.nil ?_
    refine Jq.thenN ?_
    refine Jc.cond rfl (fun h1 => ?_) (fun h1 => ?_)
    · try replace h1 := of_decide_eq_true h1
      have hno : okAll zs = false := okAll_no hlt (putE_no h1)
      refine Jc.seq ?_
      refine Jc.region ?_
      refine Jl.pv (PR.assign rfl) ?_
      refine Jl.pv (PR.assign rfl) ?_
      refine Jl.nil ?_
      refine Jq.thenN ?_
      refine Jc.ret ?_
      refine Jq.thenR ?_
      refine Jq.blkR ?_
      refine Jq.thenR ?_
      refine Jq.thenR ?_
      refine Jq.blkR ?_
      refine Jq.thenR ?_
      rw [show frsN zs = [] from if_neg (by simp [hno]), hno]
      refine Jq.nilRow 5 1 ?_
      exact Jq.fin (none, 0) (.inl rfl) rfl (RetVs.tmp rfl (RetVs.tmp rfl RetVs.nil)) rfl (by repeat (first | exact Take.nil | apply Take.cons (by repeat (first | exact Del.here | apply Del.there)))) (by repeat (first | exact trivial | refine And.intro (by repeat (first | exact Mem.here | apply Mem.there)) ?_))
    · try replace h1 := of_decide_eq_false h1
      have hok : zs[k].2.ok = true := putE_yes (by simpa using h1)
      refine Jc.skip ?_
      refine Jq.thenN ?_
      refine Jc.seq ?_
      refine Jc.region ?_
      refine Jl.pv (PR.move rfl) ?_
      refine Jl.sealR (by repeat (first | exact Del.here | apply Del.there)) ?_
      refine Jl.call (rfput_at (p := zs[k].2.bytes) rfl (by omega)) en42 (by rfl) (by repeat (first | exact Take.nil | apply Take.cons (by repeat (first | exact Del.here | apply Del.there)))) (by repeat (first | exact trivial | refine And.intro (by repeat (first | exact Mem.here | apply Mem.there)) ?_)) ?_
      rintro ⟨A27, c27⟩
      refine Jl.sealR (by repeat (first | exact Del.here | apply Del.there)) ?_
      refine Jl.pv (PR.move rfl) ?_
      refine Jl.pv (PR.extract rfl (by rfl)) ?_
      refine Jl.pv (PR.extract rfl (by rfl)) ?_
      refine Jl.pv (PR.assign rfl) ?_
      refine Jl.pv (PR.assign rfl) ?_
      refine Jl.nil ?_
      refine Jq.thenN ?_
      refine Jc.seq ?_
      refine Jc.seq ?_
      refine Jc.region ?_
      refine Jl.pv (PR.move rfl) ?_
      refine Jl.pv (PR.neq false rfl rfl (by simp)) ?_
      refine Jl.nil ?_
      refine Jq.thenN ?_
      refine Jc.condF rfl ?_
      refine Jc.skip ?_
      refine Jq.thenN ?_
      refine Jc.region ?_
      refine Jl.pv (PR.move rfl) ?_
      refine Jl.pv (PR.move rfl) ?_
      refine Jl.append (recsB ((rcsN zs).take (k + 1))).length (u8s (recsB ((rcsN zs).take (k + 1)))) rfl rfl rfl tsl22 tze5 (by rfl) (by decide) tby5 (fun _ _ => (by repeat (first | exact Swap.here | apply Swap.there))) (by repeat (first | exact Mem.here | apply Mem.there)) (by rw [recsK hlt]; simp [recB]) (by rw [recsK hlt]; simp [u8s, recB]) (by simp [u8s]) (u8s_one _) (by rw [recB] at hb2; omega) (by decide) ?_
      intro A34 c34
      refine Jl.pv (PR.assign rfl) ?_
      refine Jl.nil ?_
      refine Jq.blkN ?_
      refine Jq.thenN ?_
      refine Jc.region ?_
      refine Jl.pv (PR.move rfl) ?_
      refine Jl.pv (PR.add ((k + 1 : Nat) : Int) rfl rfl (by rw [w64 (by omega) (by omega)]; rfl)) ?_
      refine Jl.pv (PR.assign rfl) ?_
      refine Jl.nil ?_
      exact Jq.againT (⟨k + 1, hlt, fun j hj hjk => by rcases Nat.lt_succ_iff_lt_or_eq.1 hjk with h | rfl; exact hO j hj h; exact hok⟩, (A34, c34)) (by simp only; omega) (by repeat (first | exact trivial | refine And.intro rfl ?_)) (by repeat (first | exact Take.nil | apply Take.cons (by repeat (first | exact Del.here | apply Del.there)))) (by repeat (first | exact trivial | refine And.intro (by repeat (first | exact Mem.here | apply Mem.there)) ?_))
  · try replace h0 := of_decide_eq_false h0
    obtain rfl : k = zs.length := by omega
    have hall : okAll zs = true := okAll_yes fun j hj => hO j hj hj
    have htk : (rcsN zs).take zs.length = rcsN zs := List.take_of_length_le (by simp [rcsN])
    rw [htk]
    refine Jc.exit ?_
    refine Jq.thenX ?_
    refine Jq.thenX ?_
    refine Jq.blkX ?_
    refine Jq.thenN ?_
    refine Jc.seq ?_
    refine Jc.region ?_
    refine Jl.pv (PR.move rfl) ?_
    refine Jl.pv (PR.assign rfl) ?_
    refine Jl.pv (PR.assign rfl) ?_
    refine Jl.nil ?_
    refine Jq.thenN ?_
    refine Jc.ret ?_
    rw [show frsN zs = recsB (rcsN zs) from if_pos hall, hall]
    exact Jq.fin (A2, c2) (.inl rfl) rfl (RetVs.tmp rfl (RetVs.tmp rfl RetVs.nil)) rfl (by repeat (first | exact Take.nil | apply Take.cons (by repeat (first | exact Del.here | apply Del.there)))) (by repeat (first | exact trivial | refine And.intro (by repeat (first | exact Mem.here | apply Mem.there)) ?_))
  -- hint not used: one
theorem rlong_ct (L : Option Addr) (cL : Nat) (zs : Rcs) (hn : zs.length ≤ 1000) (hl : ∀ z ∈ zs, z.2.l.length ≤ 1000000) :
    Ct Tryd.prog 21 [.slice L zs.length cL] [] [.rd L (rcsV zs), .rcs zs] (fun _ : Unit => .int .i64 (longL zs)) (fun _ => []) (fun _ => []) := by
  refine Ct.of _ Tryd.func21 Tryd.ntmps21 rfl rfl (fun X W => ?_)
  refine Jc.seq ?_
  refine Jc.region ?_
  refine Jl.pv (PR.assign rfl) ?_
  refine Jl.nil ?_
  refine Jq.thenN ?_
  refine Jc.seq ?_
  refine Jc.region ?_
  refine Jl.pv (PR.move rfl) ?_
  refine Jl.call (rframes_ct L cL zs hn hl) en35 (by rfl) (by repeat (first | exact Take.nil | apply Take.cons (by repeat (first | exact Del.here | apply Del.there)))) (by repeat (first | exact trivial | refine And.intro (by repeat (first | exact Mem.here | apply Mem.there)) ?_)) ?_
  rintro ⟨A7, c7⟩
  refine Jl.pv (PR.move rfl) ?_
  refine Jl.pv (PR.extract rfl (by rfl)) ?_
  refine Jl.pv (PR.extract rfl (by rfl)) ?_
  refine Jl.pv (PR.assign rfl) ?_
  refine Jl.pv (PR.assign rfl) ?_
  refine Jl.nil ?_
  refine Jq.thenN ?_
  refine Jc.seq ?_
  refine Jc.seq ?_
  refine Jc.region ?_
  refine Jl.pv (PR.move rfl) ?_
  refine Jl.pv (PR.not rfl) ?_
  refine Jl.nil ?_
  refine Jq.thenN ?_
  refine Jc.cond rfl (fun h0 => ?_) (fun h0 => ?_)
  · try replace h0 := of_decide_eq_true h0
    refine Jc.seq ?_
    refine Jc.region ?_
    refine Jl.pv (PR.assign rfl) ?_
    refine Jl.nil ?_
    refine Jq.thenN ?_
    refine Jc.ret ?_
    refine Jq.thenR ?_
    exact Jq.fin () (.inl rfl) rfl (RetVs.tmp rfl RetVs.nil) (by rw [longL, if_neg (by simpa using h0)]; rfl) (by repeat (first | exact Take.nil | apply Take.cons (by repeat (first | exact Del.here | apply Del.there)))) (by repeat (first | exact trivial | refine And.intro (by repeat (first | exact Mem.here | apply Mem.there)) ?_))
  · try replace h0 := of_decide_eq_false h0
    refine Jc.skip ?_
    refine Jq.thenN ?_
    refine Jc.seq ?_
    refine Jc.region ?_
    refine Jl.pv (PR.move rfl) ?_
    refine Jl.pv (PR.len rfl tsl22) ?_
    refine Jl.pv (PR.assign rfl) ?_
    refine Jl.nil ?_
    refine Jq.thenN ?_
    refine Jc.ret ?_
    exact Jq.fin () (.inl rfl) rfl (RetVs.tmp rfl RetVs.nil) (by have h := (by simpa using h0 : okAll zs = true); rw [longL, if_pos h, frsN, if_pos h]; rfl) (by repeat (first | exact Take.nil | apply Take.cons (by repeat (first | exact Del.here | apply Del.there)))) (by repeat (first | exact trivial | refine And.intro (by repeat (first | exact Mem.here | apply Mem.there)) ?_))
theorem rladd_ct (d : Dk) (x : AdC) (L : Option Addr) (cL : Nat) (zs : Rcs) (hd : d.b.length ≤ 500000) (hc : d.b.length ≤ x.2) (hn : zs.length ≤ 90) (hl : ∀ z ∈ zs, z.2.l.length ≤ 1000000) :
    Ct Tryd.prog 13 [d.v x, .slice L zs.length cL] [] [.rd x.1 (u8s d.b), .rd L (rcsV zs), .rcs zs] (fun y : AdC => .tuple #[(addD d zs).v y, .int .i64 (addE d zs)]) (fun y => [(addD d zs).row y]) (fun _ => []) := by
  obtain ⟨A, c⟩ := x
  have hfl : (frsN zs).length ≤ 100000 := by
    unfold frsN; split
    · have h1 := recsB_len (rcsN zs)
      have h2 : (rcsN zs).length = zs.length := by simp [rcsN]
      omega
    · simp
  refine Ct.of _ Tryd.func13 Tryd.ntmps13 rfl rfl (fun X W => ?_)
  refine Jc.seq ?_
  refine Jc.region ?_
  refine Jl.box rfl (by rfl) ?_
  intro b2
  refine Jl.alloc tze24 ?_
  intro b4
  refine Jl.pv (PR.assign rfl) ?_
  refine Jl.nil ?_
  refine Jq.thenN ?_
  refine Jc.seq ?_
  refine Jc.region ?_
  refine Jl.pv (PR.move rfl) ?_
  refine Jl.call (rframes_ct L cL zs (by omega) hl) en35 (by rfl) (by repeat (first | exact Take.nil | apply Take.cons (by repeat (first | exact Del.here | apply Del.there)))) (by repeat (first | exact trivial | refine And.intro (by repeat (first | exact Mem.here | apply Mem.there)) ?_)) ?_
  rintro ⟨A10, c10⟩
  refine Jl.sealR (by repeat (first | exact Del.here | apply Del.there)) ?_
  refine Jl.pv (PR.move rfl) ?_
  refine Jl.pv (PR.extract rfl (by rfl)) ?_
  refine Jl.pv (PR.extract rfl (by rfl)) ?_
  refine Jl.pv (PR.assign rfl) ?_
  refine Jl.pv (PR.assign rfl) ?_
  refine Jl.nil ?_
  refine Jq.thenN ?_
  refine Jc.seq ?_
  refine Jc.seq ?_
  refine Jc.region ?_
  refine Jl.pv (PR.move rfl) ?_
  refine Jl.pv (PR.not rfl) ?_
  refine Jl.nil ?_
  refine Jq.thenN ?_
  refine Jc.cond rfl (fun h0 => ?_) (fun h0 => ?_)
  · try replace h0 := of_decide_eq_true h0
    have hok : okAll zs = false := by simpa using h0
    refine Jc.seq ?_
    refine Jc.region ?_
    refine Jl.pv (PR.loadW rfl tsh24 (by repeat (first | exact Has.here | apply Has.there)) (by rfl)) ?_
    refine Jl.call (rown_ct A c d hd hc) en28 (by rfl) (by repeat (first | exact Take.nil | apply Take.cons (by repeat (first | exact Del.here | apply Del.there)))) (by repeat (first | exact trivial | refine And.intro (by repeat (first | exact Mem.here | apply Mem.there)) ?_)) ?_
    rintro ⟨A16, c16⟩
    refine Jl.storeW rfl tsh24 rfl (by rfl) (by simp [Value.oneCell', Dk.cs]) (by repeat (first | exact Swap.here | apply Swap.there)) (by rfl) ?_
    refine Jl.pv (PR.assign rfl) ?_
    refine Jl.nil ?_
    refine Jq.thenN ?_
    refine Jc.ret ?_
    refine Jq.thenR ?_
    rw [show addD d zs = d.own from if_neg (by simp [hok]), show addE d zs = 2 from if_neg (by simp [hok])]
    exact Jq.fin (A16, c16) (.inl rfl) rfl (RetVs.cellA rfl (by repeat (first | exact Has.here | apply Has.there)) tsh24 (by rfl) (RetVs.tmp rfl RetVs.nil)) rfl (by repeat (first | exact Take.nil | apply Take.cons (by repeat (first | exact Del.here | apply Del.there)))) (by repeat (first | exact trivial | refine And.intro (by repeat (first | exact Mem.here | apply Mem.there)) ?_))
  · try replace h0 := of_decide_eq_false h0
    have hok : okAll zs = true := by simpa using h0
    refine Jc.skip ?_
    refine Jq.thenN ?_
    refine Jc.seq ?_
    refine Jc.region ?_
    refine Jl.pv (PR.loadW rfl tsh24 (by repeat (first | exact Has.here | apply Has.there)) (by rfl)) ?_
    refine Jl.pv (PR.move rfl) ?_
    refine Jl.call (rappend_ct A A10 c c10 d (frsN zs) hd hc hfl) en36 (by rfl) (by repeat (first | exact Take.nil | apply Take.cons (by repeat (first | exact Del.here | apply Del.there)))) (by repeat (first | exact trivial | refine And.intro (by repeat (first | exact Mem.here | apply Mem.there)) ?_)) ?_
    rintro ⟨A19, c19⟩
    refine Jl.pv (PR.extract rfl (by rfl)) ?_
    refine Jl.pv (PR.extract rfl (by rfl)) ?_
    refine Jl.storeW rfl tsh24 rfl (by rfl) (by simp [Value.oneCell', Dk.cs]) (by repeat (first | exact Swap.here | apply Swap.there)) (by rfl) ?_
    refine Jl.pv (PR.assign rfl) ?_
    refine Jl.nil ?_
    refine Jq.thenN ?_
    refine Jc.ret ?_
    rw [show addD d zs = d.app (frsN zs) by rw [addD, if_pos hok, frsN, if_pos hok], show addE d zs = d.appE (frsN zs) by rw [addE, if_pos hok, frsN, if_pos hok]]
    exact Jq.fin (A19, c19) (.inl rfl) rfl (RetVs.cellA rfl (by repeat (first | exact Has.here | apply Has.there)) tsh24 (by rfl) (RetVs.tmp rfl RetVs.nil)) rfl (by repeat (first | exact Take.nil | apply Take.cons (by repeat (first | exact Del.here | apply Del.there)))) (by repeat (first | exact trivial | refine And.intro (by repeat (first | exact Mem.here | apply Mem.there)) ?_))
/-- A disk, opened. -/
theorem rlopen_ct (d : Dk) (x : AdC) (hd : d.b.length ≤ 500000) (hc : d.b.length ≤ x.2) :
    Ct Tryd.prog 15 [d.v x] [] [.rd x.1 (u8s d.b)] (fun y : OpenR d => .tuple #[(openD d).v y.1.1, .slice y.2.2.1 (scanN d.own.b).length y.2.2.2]) (fun y => [.row 43 2 (.slice y.2.2.1 (scanN d.own.b).length y.2.2.2) (scanN d.own.b).length (rcsV y.2.1.1)]) (fun y => [.rd y.1.1.1 (u8s (openD d).b), .rcs y.2.1.1]) := by
  obtain ⟨A, c⟩ := x
  have hol := d.own_len
  have hul := logU_le d.own.b
  refine Ct.of _ Tryd.func15 Tryd.ntmps15 rfl rfl (fun X W => ?_)
  refine Jc.seq ?_
  refine Jc.region ?_
  refine Jl.box rfl (by rfl) ?_
  intro b1
  refine Jl.alloc tze24 ?_
  intro b2
  refine Jl.pv (PR.assign rfl) ?_
  refine Jl.nil ?_
  refine Jq.thenN ?_
  refine Jc.seq ?_
  refine Jc.region ?_
  refine Jl.pv (PR.loadW rfl tsh24 (by repeat (first | exact Has.here | apply Has.there)) (by rfl)) ?_
  refine Jl.call (rown_ct A c d hd hc) en28 (by rfl) (by repeat (first | exact Take.nil | apply Take.cons (by repeat (first | exact Del.here | apply Del.there)))) (by repeat (first | exact trivial | refine And.intro (by repeat (first | exact Mem.here | apply Mem.there)) ?_)) ?_
  rintro ⟨A7, c7⟩
  refine Jl.sealC (by repeat (first | exact Del.here | apply Del.there)) (fun hc7 => ?_)
  refine Jl.storeW rfl tsh24 rfl (by rfl) (by simp [Value.oneCell', Dk.cs]) (by repeat (first | exact Swap.here | apply Swap.there)) (by rfl) ?_
  refine Jl.nil ?_
  refine Jq.thenN ?_
  refine Jc.seq ?_
  refine Jc.region ?_
  refine Jl.pv (PR.fieldAddr rfl tfl24_0) ?_
  refine Jl.pv (PR.load1 rfl tsh22 (by repeat (first | exact Has.here | apply Has.there)) (by rfl)) ?_
  refine Jl.call (rlscan_ct A7 c7 d.own.b (by omega) hc7) en11 (by rfl) (by repeat (first | exact Take.nil | apply Take.cons (by repeat (first | exact Del.here | apply Del.there)))) (by repeat (first | exact trivial | refine And.intro (by repeat (first | exact Mem.here | apply Mem.there)) ?_)) ?_
  rintro ⟨zs, ⟨A11, c11⟩⟩
  refine Jl.pv (PR.move rfl) ?_
  refine Jl.pv (PR.extract rfl (by rfl)) ?_
  refine Jl.pv (PR.extract rfl (by rfl)) ?_
  refine Jl.pv (PR.assign rfl) ?_
  refine Jl.pv (PR.assign rfl) ?_
  refine Jl.nil ?_
  refine Jq.thenN ?_
  refine Jc.seq ?_
  refine Jc.region ?_
  refine Jl.pv (PR.fieldAddr rfl tfl24_0) ?_
  refine Jl.pv (PR.load1 rfl tsh22 (by repeat (first | exact Has.here | apply Has.there)) (by rfl)) ?_
  refine Jl.pv (PR.move rfl) ?_
  refine Jl.slice 0 (logU d.own.b) ((openD d).b.length) (u8s (openD d).b) rfl tsl22 rfl rfl (by repeat (first | exact Mem.here | apply Mem.there)) (by omega) hul hc7 (by simp only [openD, List.length_take]; omega) (by simp only [openD, u8s, List.length_take, Nat.min_eq_left hul, Nat.mul_one, Nat.zero_mul, List.drop_zero, List.map_take]) ?_
  intro A17 c17 hc17
  skip
  refine Jl.pv (PR.fieldAddr rfl tfl24_0) ?_
  refine Jl.store1 rfl tsh22 rfl (by rfl) (by repeat (first | exact Swap.here | apply Swap.there)) (by rfl) ?_
  refine Jl.nil ?_
  refine Jq.thenN ?_
  refine Jc.seq ?_
  refine Jc.region ?_
  refine Jl.pv (PR.move rfl) ?_
  refine Jl.pv (PR.fieldAddr rfl tfl24_1) ?_
  refine Jl.store1 rfl tsh3 rfl (by rfl) (by repeat (first | exact Swap.here | apply Swap.there)) (by rfl) ?_
  refine Jl.nil ?_
  refine Jq.thenN ?_
  refine Jc.seq ?_
  refine Jc.region ?_
  refine Jl.pv (PR.loadW rfl tsh24 (by repeat (first | exact Has.here | apply Has.there)) (by rfl)) ?_
  refine Jl.pv (PR.move rfl) ?_
  refine Jl.storeW rfl tsh24 rfl (by rfl) (by simp [Value.oneCell', Dk.cs]) (by repeat (first | exact Swap.here | apply Swap.there)) (by rfl) ?_
  refine Jl.pv (PR.assign rfl) ?_
  refine Jl.nil ?_
  refine Jq.thenN ?_
  refine Jc.ret ?_
  exact Jq.fin (⟨(A17, c17), by simp only [openD, List.length_take]; omega⟩, zs, (A11, c11)) (.inl rfl) rfl (RetVs.cellA rfl (by repeat (first | exact Has.here | apply Has.there)) tsh24 (by rfl) (RetVs.tmp rfl RetVs.nil)) rfl (by repeat (first | exact Take.nil | apply Take.cons (by repeat (first | exact Del.here | apply Del.there)))) (by repeat (first | exact trivial | refine And.intro (by repeat (first | exact Mem.here | apply Mem.there)) ?_))
theorem rlsafe_ct (d : Dk) (x : AdC) (hd : d.b.length ≤ 500000) (hc : d.b.length ≤ x.2) :
    Ct Tryd.prog 19 [d.v x] [] [.rd x.1 (u8s d.b)] (fun y : RcsOf (logN (d.own.b.take d.own.s.toNat)) × AdC => .slice y.2.1 (scanN (d.own.b.take d.own.s.toNat)).length y.2.2) (fun y => [.row 43 2 (.slice y.2.1 (scanN (d.own.b.take d.own.s.toNat)).length y.2.2) (scanN (d.own.b.take d.own.s.toNat)).length (rcsV y.1.1)]) (fun y => [.rcs y.1.1]) := by
  obtain ⟨A, c⟩ := x
  have hol := d.own_len
  have hof := d.own_fit
  have htl : (d.own.b.take d.own.s.toNat).length = d.own.s.toNat := by rw [List.length_take]; omega
  refine Ct.of _ Tryd.func19 Tryd.ntmps19 rfl rfl (fun X W => ?_)
  refine Jc.seq ?_
  refine Jc.region ?_
  refine Jl.box rfl (by rfl) ?_
  intro b1
  refine Jl.pv (PR.assign rfl) ?_
  refine Jl.nil ?_
  refine Jq.thenN ?_
  refine Jc.seq ?_
  refine Jc.region ?_
  refine Jl.pv (PR.loadW rfl tsh24 (by repeat (first | exact Has.here | apply Has.there)) (by rfl)) ?_
  refine Jl.call (rown_ct A c d hd hc) en28 (by rfl) (by repeat (first | exact Take.nil | apply Take.cons (by repeat (first | exact Del.here | apply Del.there)))) (by repeat (first | exact trivial | refine And.intro (by repeat (first | exact Mem.here | apply Mem.there)) ?_)) ?_
  rintro ⟨A6, c6⟩
  refine Jl.sealC (by repeat (first | exact Del.here | apply Del.there)) (fun hc6 => ?_)
  refine Jl.storeW rfl tsh24 rfl (by rfl) (by simp [Value.oneCell', Dk.cs]) (by repeat (first | exact Swap.here | apply Swap.there)) (by rfl) ?_
  refine Jl.nil ?_
  refine Jq.thenN ?_
  refine Jc.seq ?_
  refine Jc.region ?_
  refine Jl.pv (PR.fieldAddr rfl tfl24_0) ?_
  refine Jl.pv (PR.load1 rfl tsh22 (by repeat (first | exact Has.here | apply Has.there)) (by rfl)) ?_
  refine Jl.pv (PR.fieldAddr rfl tfl24_1) ?_
  refine Jl.pv (PR.load1 rfl tsh3 (by repeat (first | exact Has.here | apply Has.there)) (by rfl)) ?_
  refine Jl.as (.int .i64 ((d.own.s.toNat : Nat) : Int)) (congrArg (Value.int .i64) (Int.toNat_of_nonneg hof.2.1).symm) ?_
  refine Jl.slice 0 d.own.s.toNat ((d.own.b.take d.own.s.toNat).length) (u8s (d.own.b.take d.own.s.toNat)) rfl tsl22 rfl rfl (by repeat (first | exact Mem.here | apply Mem.there)) (by omega) (by omega) hc6 (by omega) (by rw [htl]; simp [u8s, List.map_take]) ?_
  intro A12 c12 hc12
  skip
  refine Jl.call (rlscan_ct A12 c12 (d.own.b.take d.own.s.toNat) (by omega) (by omega)) en11 (by rfl) (by repeat (first | exact Take.nil | apply Take.cons (by repeat (first | exact Del.here | apply Del.there)))) (by repeat (first | exact trivial | refine And.intro (by repeat (first | exact Mem.here | apply Mem.there)) ?_)) ?_
  rintro ⟨zs, ⟨A13, c13⟩⟩
  refine Jl.pv (PR.move rfl) ?_
  refine Jl.pv (PR.extract rfl (by rfl)) ?_
  refine Jl.pv (PR.extract rfl (by rfl)) ?_
  refine Jl.pv (PR.assign rfl) ?_
  refine Jl.pv (PR.assign rfl) ?_
  refine Jl.nil ?_
  refine Jq.thenN ?_
  refine Jc.seq ?_
  refine Jc.region ?_
  refine Jl.pv (PR.move rfl) ?_
  refine Jl.pv (PR.assign rfl) ?_
  refine Jl.nil ?_
  refine Jq.thenN ?_
  refine Jc.ret ?_
  exact Jq.fin (zs, (A13, c13)) (.inl rfl) rfl (RetVs.tmp rfl RetVs.nil) rfl (by repeat (first | exact Take.nil | apply Take.cons (by repeat (first | exact Del.here | apply Del.there)))) (by repeat (first | exact trivial | refine And.intro (by repeat (first | exact Mem.here | apply Mem.there)) ?_))
end Go.Proofs.YtcohgnagffibcaaDoor
