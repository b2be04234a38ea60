/-
The law LogSafe.
-/
import Derived.Test.YtcohgnagffibcaaDoorLgD
namespace Go.Proofs.YtcohgnagffibcaaDoor
set_option linter.unusedVariables false
open Go.RowKit
attribute [local irreducible] Res.blk Res.row Fact.rd
theorem rcsV_take : ∀ (zs : Rcs) (k : Nat), (rcsV zs).take (k * 2) = rcsV (zs.take k)
  | [], k => by simp [rcsV]
  | z :: zs, 0 => by simp [rcsV]
  | z :: zs, k + 1 => by
    have h := rcsV_take zs k
    rw [show (k + 1) * 2 = k * 2 + 1 + 1 by omega]
    simp only [rcsV, List.flatMap_cons, Rc.cs, List.cons_append, List.nil_append, List.take_succ_cons] at h ⊢
    rw [h]
theorem crash0 (d : Dk) : (d.crash 0).own.b = d.own.b.take d.own.s.toNat := by
  have h := d.own_fit
  rw [Dk.ok_own (d.crash_ok 0)]
  show d.own.b.take (d.left 0) = _
  congr 1
  unfold Dk.left; omega
theorem sync_log (d : Dk) : d.sync.own.b.take d.sync.own.s.toNat = d.own.b := by
  rw [Dk.ok_own d.sync_ok]
  show d.own.b.take ((d.own.b.length : Int).toNat) = _
  exact List.take_of_length_le (by omega)
theorem log_pre' (b : List UInt8) (j : Nat) : (logN b).take (scanN (b.take j)).length = logN (b.take j) ∧ (scanN (b.take j)).length ≤ (scanN b).length := by
  obtain ⟨m, hm⟩ := log_pre b j
  rw [scanN_log, scanN_log, hm]
  exact ⟨List.take_left, by simp⟩
theorem scanN_small {b : List UInt8} {n : Nat} (h : b.length ≤ n) : (scanN b).length ≤ n := by
  have := scanN_len b
  omega
theorem logSafe_ct (d : Dk) (x : AdC) (mm : Nat → AdC) (hc : d.b.length ≤ x.2) : Ct Tryd.prog 7 [d.v x] [] [.rd x.1 (u8s d.b), .many mm] (fun _ : Unit => .bool true) (fun _ => []) (fun _ => []) := by
  obtain ⟨A, c⟩ := x
  have hc' : d.b.length ≤ c := hc
  by_cases hgr : lgGreat d [] = true
  · skip
    refine Ct.of _ Tryd.func7 Tryd.ntmps7 rfl rfl (fun X W => ?_)
    refine Jc.fact0 (.rd none (rcsV [])) (fun X W => Fact.rd_nil none X W) ?_
    refine Jc.seq ?_
    refine Jc.region ?_
    refine Jl.box rfl (by rfl) ?_
    intro b1
    refine Jl.pv (PR.assign rfl) ?_
    refine Jl.nil ?_
    refine Jq.thenN ?_
    refine Jc.seq ?_
    refine Jc.seq ?_
    refine Jc.region ?_
    refine Jl.pv (PR.loadW rfl tsh24 (by repeat (first | exact Has.here | apply Has.there)) (by rfl)) ?_
    refine Jl.call (lgreat_ct d (A, c) none 0 []) en8 (by rfl) (by repeat (first | exact Take.nil | apply Take.cons (by repeat (first | exact Del.here | apply Del.there)))) (by repeat (first | exact trivial | refine And.intro (by repeat (first | exact Mem.here | apply Mem.there)) ?_)) ?_
    rintro ⟨⟩
    refine Jl.as (.bool true) (congrArg Value.bool hgr) ?_
    refine Jl.nil ?_
    refine Jq.thenN ?_
    refine Jc.condT rfl ?_
    refine Jc.seq ?_
    refine Jc.region ?_
    refine Jl.call (lgwakes_ct mm) en9 (by rfl) (by repeat (first | exact Take.nil | apply Take.cons (by repeat (first | exact Del.here | apply Del.there)))) (by repeat (first | exact trivial | refine And.intro (by repeat (first | exact Mem.here | apply Mem.there)) ?_)) ?_
    rintro ⟨⟩
    refine Jl.pv (PR.assign rfl) ?_
    refine Jl.nil ?_
    refine Jq.thenN ?_
    refine Jc.ret ?_
    refine Jq.thenR ?_
    exact Jq.fin () (.inl rfl) rfl (RetVs.tmp rfl RetVs.nil) rfl (by repeat (first | exact Take.nil | apply Take.cons (by repeat (first | exact Del.here | apply Del.there)))) (by repeat (first | exact trivial | refine And.intro (by repeat (first | exact Mem.here | apply Mem.there)) ?_))
    -- hint not used: one
  have hd := lgGreat0_no (d := d) (by simpa using hgr)
  have hdo := d.own_len
  obtain ⟨N, hN⟩ : ∃ N, N = (scanN (d.own.b.take d.own.s.toNat)).length := ⟨_, rfl⟩
  obtain ⟨hp1, hp2⟩ := log_pre' d.own.b d.own.s.toNat
  rw [← hN] at hp1 hp2
  have hcr : (d.crash 0).b.length ≤ d.b.length := by
    have := d.left_le 0
    rw [d.crash_len]; omega
  have hsy : d.sync.b.length ≤ d.b.length := hdo
  have hsc := scanN_small (b := d.own.b) (n := 1500) (by omega)
  refine Ct.of _ Tryd.func7 Tryd.ntmps7 rfl rfl (fun X W => ?_)
  refine Jc.fact0 (.rd none (rcsV [])) (fun X W => Fact.rd_nil none X W) ?_
  refine Jc.seq ?_
  refine Jc.region ?_
  refine Jl.box rfl (by rfl) ?_
  intro b1
  refine Jl.pv (PR.assign rfl) ?_
  refine Jl.nil ?_
  refine Jq.thenN ?_
  refine Jc.seq ?_
  refine Jc.seq ?_
  refine Jc.region ?_
  refine Jl.pv (PR.loadW rfl tsh24 (by repeat (first | exact Has.here | apply Has.there)) (by rfl)) ?_
  refine Jl.call (lgreat_ct d (A, c) none 0 []) en8 (by rfl) (by repeat (first | exact Take.nil | apply Take.cons (by repeat (first | exact Del.here | apply Del.there)))) (by repeat (first | exact trivial | refine And.intro (by repeat (first | exact Mem.here | apply Mem.there)) ?_)) ?_
  rintro ⟨⟩
  refine Jl.as (.bool false) (congrArg Value.bool (by simpa using hgr)) ?_
  refine Jl.nil ?_
  refine Jq.thenN ?_
  refine Jc.condF rfl ?_
  refine Jc.skip ?_
  refine Jq.thenN ?_
  refine Jc.seq ?_
  refine Jc.region ?_
  refine Jl.pv (PR.loadW rfl tsh24 (by repeat (first | exact Has.here | apply Has.there)) (by rfl)) ?_
  refine Jl.call (safe_ct d (A, c) mm (by omega) hc) en18 (by rfl) (by repeat (first | exact Take.nil | apply Take.cons (by repeat (first | exact Del.here | apply Del.there)))) (by repeat (first | exact trivial | refine And.intro (by repeat (first | exact Mem.here | apply Mem.there)) ?_)) ?_
  rintro ⟨zs12, ⟨A12, c12⟩⟩
  refine Jl.sealR (by repeat (first | exact Del.here | apply Del.there)) ?_
  rw [← hN]
  refine Jl.pv (PR.assign rfl) ?_
  refine Jl.nil ?_
  refine Jq.thenN ?_
  refine Jc.seq ?_
  refine Jc.region ?_
  refine Jl.pv (PR.loadW rfl tsh24 (by repeat (first | exact Has.here | apply Has.there)) (by rfl)) ?_
  refine Jl.call (rcrash_ct A c d 0 (by omega) hc) en25 (by rfl) (by repeat (first | exact Take.nil | apply Take.cons (by repeat (first | exact Del.here | apply Del.there)))) (by repeat (first | exact trivial | refine And.intro (by repeat (first | exact Mem.here | apply Mem.there)) ?_)) ?_
  rintro ⟨A15, c15⟩
  refine Jl.sealC (by repeat (first | exact Del.here | apply Del.there)) (fun hc15 => ?_)
  refine Jl.call (open_ct (d.crash 0) (A15, c15) mm (by omega) hc15) en14 (by rfl) (by repeat (first | exact Take.nil | apply Take.cons (by repeat (first | exact Del.here | apply Del.there)))) (by repeat (first | exact trivial | refine And.intro (by repeat (first | exact Mem.here | apply Mem.there)) ?_)) ?_
  rintro ⟨⟨⟨A16, c16⟩, h16⟩, zs16, ⟨B16, d16⟩⟩
  refine Jl.sealR (by repeat (first | exact Del.here | apply Del.there)) ?_
  refine Jl.pv (PR.move rfl) ?_
  refine Jl.pv (PR.extract rfl (by rfl)) ?_
  refine Jl.pv (PR.extract rfl (by rfl)) ?_
  refine Jl.alloc tze24 ?_
  intro b4
  refine Jl.storeW rfl tsh24 rfl (by rfl) (by simp [Value.oneCell', Dk.cs, Rc.cs]) (by repeat (first | exact Swap.here | apply Swap.there)) (by rfl) ?_
  refine Jl.pv (PR.assign rfl) ?_
  refine Jl.nil ?_
  refine Jq.thenN ?_
  refine Jc.seq ?_
  refine Jc.region ?_
  refine Jl.pv (PR.loadW rfl tsh24 (by repeat (first | exact Has.here | apply Has.there)) (by rfl)) ?_
  refine Jl.call (open_ct d (A, c) mm (by omega) hc) en14 (by rfl) (by repeat (first | exact Take.nil | apply Take.cons (by repeat (first | exact Del.here | apply Del.there)))) (by repeat (first | exact trivial | refine And.intro (by repeat (first | exact Mem.here | apply Mem.there)) ?_)) ?_
  rintro ⟨⟨⟨A21, c21⟩, h21⟩, zs21, ⟨B21, d21⟩⟩
  refine Jl.sealC (by repeat (first | exact Del.here | apply Del.there)) (fun hc21 => ?_)
  refine Jl.pv (PR.move rfl) ?_
  refine Jl.pv (PR.extract rfl (by rfl)) ?_
  refine Jl.pv (PR.extract rfl (by rfl)) ?_
  refine Jl.alloc tze24 ?_
  intro b6
  refine Jl.storeW rfl tsh24 rfl (by rfl) (by simp [Value.oneCell', Dk.cs, Rc.cs]) (by repeat (first | exact Swap.here | apply Swap.there)) (by rfl) ?_
  refine Jl.pv (PR.assign rfl) ?_
  refine Jl.nil ?_
  refine Jq.thenN ?_
  refine Jc.seq ?_
  refine Jc.region ?_
  refine Jl.pv (PR.move rfl) ?_
  refine Jl.pv (PR.move rfl) ?_
  refine Jl.call (lsame_eq (n := N) zs12.1 zs16.1 (zs12.n.trans hN.symm) zs16.n (by omega) zs12.small (by rw [zs12.2, zs16.2, crash0 d])) en16 (by rfl) (by repeat (first | exact Take.nil | apply Take.cons (by repeat (first | exact Del.here | apply Del.there)))) (by repeat (first | exact trivial | refine And.intro (by repeat (first | exact Mem.here | apply Mem.there)) ?_)) ?_
  rintro ⟨⟩
  refine Jl.as (.bool true) (congrArg Value.bool rfl) ?_
  refine Jl.pv (PR.move rfl) ?_
  refine Jl.on rfl rfl ?_
  refine Jl.pv (PR.move rfl) ?_
  refine Jl.on rfl rfl ?_
  refine Jl.pv (PR.len rfl tsl25) ?_
  refine Jl.on rfl rfl ?_
  refine Jl.pv (PR.move rfl) ?_
  refine Jl.on rfl rfl ?_
  refine Jl.pv (PR.len rfl tsl25) ?_
  refine Jl.on rfl rfl ?_
  refine Jl.pv (PR.leq true rfl rfl (decide_eq_true (Int.ofNat_le.2 hp2))) ?_
  refine Jl.pv (PR.pickT rfl rfl) ?_
  refine Jl.pv (PR.move rfl) ?_
  refine Jl.on rfl rfl ?_
  refine Jl.pv (PR.move rfl) ?_
  refine Jl.on rfl rfl ?_
  refine Jl.pv (PR.move rfl) ?_
  refine Jl.on rfl rfl ?_
  refine Jl.pv (PR.move rfl) ?_
  refine Jl.on rfl rfl ?_
  refine Jl.pv (PR.len rfl tsl25) ?_
  refine Jl.on rfl rfl ?_
  refine Jl.slice 0 N N (rcsV (zs21.1.take N)) rfl tsl25 rfl rfl (by repeat (first | exact Mem.here | apply Mem.there)) (by omega) hp2 hc21 rfl (by rw [Nat.zero_mul, List.drop_zero, rcsV_take]) ?_
  intro A39 c39 hc39
  clear hc39
  refine Jl.fact (.rcs (zs21.1.take N)) (φ := .rcs zs21.1) (by repeat (first | exact Mem.here | apply Mem.there)) (fun X W h z hz => h z (List.mem_of_mem_take hz)) ?_
  refine Jl.on rfl rfl ?_
  refine Jl.call (lsame_eq (n := N) (m := N) zs12.1 (zs21.1.take N) (zs12.n.trans hN.symm) (by rw [List.length_take, zs21.n]; omega) (by omega) zs12.small (by rw [zs12.2, rcsN, List.map_take, ← rcsN, zs21.2, hp1])) en16 (by rfl) (by repeat (first | exact Take.nil | apply Take.cons (by repeat (first | exact Del.here | apply Del.there)))) (by repeat (first | exact trivial | refine And.intro (by repeat (first | exact Mem.here | apply Mem.there)) ?_)) ?_
  rintro ⟨⟩
  refine Jl.as (.bool true) (congrArg Value.bool rfl) ?_
  refine Jl.pv (PR.pickT rfl rfl) ?_
  refine Jl.pv (PR.move rfl) ?_
  refine Jl.on rfl rfl ?_
  refine Jl.pv (PR.loadW rfl tsh24 (by repeat (first | exact Has.here | apply Has.there)) (by rfl)) ?_
  refine Jl.on rfl rfl ?_
  refine Jl.call (rsync_ct A c d (by omega) hc) en24 (by rfl) (by repeat (first | exact Take.nil | apply Take.cons (by repeat (first | exact Del.here | apply Del.there)))) (by repeat (first | exact trivial | refine And.intro (by repeat (first | exact Mem.here | apply Mem.there)) ?_)) ?_
  rintro ⟨A44, c44⟩
  refine Jl.sealC (by repeat (first | exact Del.here | apply Del.there)) (fun hc44 => ?_)
  refine Jl.on rfl rfl ?_
  refine Jl.call (safe_ct d.sync (A44, c44) mm (by omega) hc44) en18 (by rfl) (by repeat (first | exact Take.nil | apply Take.cons (by repeat (first | exact Del.here | apply Del.there)))) (by repeat (first | exact trivial | refine And.intro (by repeat (first | exact Mem.here | apply Mem.there)) ?_)) ?_
  rintro ⟨zs45, ⟨A45, c45⟩⟩
  refine Jl.sealR (by repeat (first | exact Del.here | apply Del.there)) ?_
  refine Jl.on rfl rfl ?_
  refine Jl.pv (PR.move rfl) ?_
  refine Jl.on rfl rfl ?_
  refine Jl.call (lsame_eq zs45.1 zs21.1 zs45.n zs21.n (by rw [sync_log]; omega) zs45.small (by rw [zs45.2, zs21.2, sync_log])) en16 (by rfl) (by repeat (first | exact Take.nil | apply Take.cons (by repeat (first | exact Del.here | apply Del.there)))) (by repeat (first | exact trivial | refine And.intro (by repeat (first | exact Mem.here | apply Mem.there)) ?_)) ?_
  rintro ⟨⟩
  refine Jl.as (.bool true) (congrArg Value.bool rfl) ?_
  refine Jl.pv (PR.pickT rfl rfl) ?_
  refine Jl.pv (PR.move rfl) ?_
  refine Jl.on rfl rfl ?_
  refine Jl.call (lgwakes_ct mm) en9 (by rfl) (by repeat (first | exact Take.nil | apply Take.cons (by repeat (first | exact Del.here | apply Del.there)))) (by repeat (first | exact trivial | refine And.intro (by repeat (first | exact Mem.here | apply Mem.there)) ?_)) ?_
  rintro ⟨⟩
  refine Jl.as (.bool true) (congrArg Value.bool rfl) ?_
  refine Jl.pv (PR.pickT rfl rfl) ?_
  refine Jl.pv (PR.assign rfl) ?_
  refine Jl.nil ?_
  refine Jq.thenN ?_
  refine Jc.ret ?_
  exact Jq.fin () (.inl rfl) rfl (RetVs.tmp rfl RetVs.nil) rfl (by repeat (first | exact Take.nil | apply Take.cons (by repeat (first | exact Del.here | apply Del.there)))) (by repeat (first | exact trivial | refine And.intro (by repeat (first | exact Mem.here | apply Mem.there)) ?_))
end Go.Proofs.YtcohgnagffibcaaDoor
