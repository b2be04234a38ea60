/-
Pages: Whole; what the document says.
-/
import Derived.Test.YtoackajhekdckaaClA
import Derived.Test.YtoackajhekdckaaPgC
namespace Go.Proofs.Ytoackajhekdckaa
set_option linter.unusedVariables false
open Go.RowKit
attribute [local irreducible] Res.blk Res.row Fact.rd Res.mapI
theorem getpg {ps : List Pg} {k : Nat} (h : k < ps.length) : (slsV (pgS ps))[k]? = some (.slice ps[k].1.1 ps[k].2.length ps[k].1.2) := by
  rw [getsls (by rw [pgS_len]; exact h)]
  simp [pgS]
theorem whole_ct (L : Option Addr) (cL : Nat) (ps : List Pg) (hP : Pgs ps) : Ct Try.prog 12 [.slice L ps.length cL] [] [.rd L (slsV (pgS ps)), .sls (pgS ps)] (fun _ : Unit => .bool true) (fun _ => []) (fun _ => []) := by
  have hfl := flatP_le hP.three
  have h100 := hP.len
  have hcat := sconcat_ct L cL (pgS ps) (by rw [pgS_len]; omega) (by rw [pgS_sum]; omega) (pgS_len7 ps) (pgS_one ps)
  rw [pgS_len, pgS_sum, pgS_flat] at hcat
  refine Ct.of _ Try.func12 Try.ntmps12 rfl rfl (fun X W => ?_)
  refine Jc.seq ?_
  refine Jc.region ?_
  refine Jl.pv (PR.assign rfl) ?_
  refine Jl.nil ?_
  refine Jq.thenN ?_
  refine Jc.seq ?_
  refine Jc.region ?_
  refine Jl.pv (PR.move rfl) ?_
  refine Jl.call hcat en20 (by rfl) (by repeat (first | exact Take.nil | apply Take.cons (by repeat (first | exact Del.here | apply Del.there)))) (by repeat (first | exact trivial | refine And.intro (by repeat (first | exact Mem.here | apply Mem.there)) ?_)) ?_
  rintro ⟨A8, c8⟩
  refine Jl.sealR (by repeat (first | exact Del.here | apply Del.there)) ?_
  refine Jl.pv (PR.assign rfl) ?_
  refine Jl.nil ?_
  refine Jq.thenN ?_
  refine Jc.seq ?_
  refine Jc.seq ?_
  refine Jc.region ?_
  refine Jl.pv (PR.move rfl) ?_
  refine Jl.pv (PR.len rfl tsl27) ?_
  refine Jl.pv (PR.move rfl) ?_
  refine Jl.nil ?_
  refine Jq.thenN ?_
  refine Jc.block ?_
  refine Jc.loop (σ := { k : Nat // k ≤ ps.length }) (fun s => [(11, .int .i64 (s.1 : Int)), (10, .int .i64 (ps.length : Int)), (9, .slice L ps.length cL), (3, .slice A8 (flatP ps).length c8), (0, .slice L ps.length cL)]) (fun _ => []) (fun _ => [.rd L (slsV (pgS ps)), .rd A8 (snsV (flatP ps))]) (fun s => ps.length - s.1) ⟨0, Nat.zero_le _⟩ (by repeat (first | exact trivial | refine And.intro rfl ?_)) rfl (by repeat (first | exact trivial | refine And.intro (by repeat (first | exact Mem.here | apply Mem.there)) ?_)) ?_
  rintro ⟨k, hk⟩
  show Jc _ _ _ _ _ _ [(11, Value.int .i64 (k : Int)), (10, .int .i64 (ps.length : Int)), (9, .slice L ps.length cL), (3, .slice A8 (flatP ps).length c8), (0, .slice L ps.length cL)] [] [.rd L (slsV (pgS ps)), .rd A8 (snsV (flatP ps))]
  refine Jc.seq ?_
  refine Jc.region ?_
  refine Jl.pv (PR.lss _ rfl rfl rfl) ?_
  refine Jl.nil ?_
  refine Jq.thenN ?_
  refine Jc.seq ?_
  refine Jc.cond rfl (fun h0 => ?_) (fun h0 => ?_)
  · try replace h0 := of_decide_eq_true h0
    have hlt : k < ps.length := by omega
    have h3 := hP.three ps[k] (List.getElem_mem _)
    refine Jc.skip ?_
    refine Jq.thenN ?_
    refine Jc.seq ?_
    refine Jc.block ?_
    refine Jc.seq ?_
    refine Jc.region ?_
    refine Jl.pv (PR.move rfl) ?_
    refine Jl.pv (PR.idx1 k rfl rfl tsl27 (by repeat (first | exact Mem.here | apply Mem.there)) (by simp [slsV, pgS]) rfl hlt) ?_
    refine Jl.pv (PR.loadR rfl tsh28 (by repeat (first | exact Mem.here | apply Mem.there)) (getpg hlt)) ?_
    refine Jl.pv (PR.assign rfl) ?_
    refine Jl.pv (PR.assign rfl) ?_
    refine Jl.nil ?_
    refine Jq.thenN ?_
    refine Jc.seq ?_
    refine Jc.region ?_
    refine Jl.pv (PR.move rfl) ?_
    refine Jl.pv (PR.len rfl tsl28) ?_
    refine Jl.pv (PR.gtr false rfl rfl (by simp; omega)) ?_
    refine Jl.pv (PR.move rfl) ?_
    refine Jl.on rfl rfl ?_
    refine Jl.pv (PR.move rfl) ?_
    refine Jl.on rfl rfl ?_
    refine Jl.pv (PR.len rfl tsl28) ?_
    refine Jl.on rfl rfl ?_
    refine Jl.pv (PR.eql _ rfl rfl rfl) ?_
    refine Jl.on rfl rfl ?_
    refine Jl.pv (PR.move rfl) ?_
    refine Jl.bsplit (fun g23 => ?_) (fun g23 => ?_)
    · try replace g23 := of_decide_eq_true g23
      have hk1 : ¬ k + 1 < ps.length := fun h => hP.full k h (List.eq_nil_of_length_eq_zero (by omega))
      refine Jl.on rfl rfl ?_
      refine Jl.pv (PR.move rfl) ?_
      refine Jl.on rfl rfl ?_
      refine Jl.pv (PR.add ((k + 1 : Nat) : Int) rfl rfl (by rw [w64 (by omega) (by omega)]; rfl)) ?_
      refine Jl.on rfl rfl ?_
      refine Jl.pv (PR.move rfl) ?_
      refine Jl.on rfl rfl ?_
      refine Jl.pv (PR.len rfl tsl27) ?_
      refine Jl.on rfl rfl ?_
      refine Jl.pv (PR.lss false rfl rfl (by simp; omega)) ?_
      refine Jl.on rfl rfl ?_
      refine Jl.pv (PR.pickT rfl rfl) ?_
      refine Jl.pv (PR.pickF rfl rfl) ?_
      refine Jl.nil ?_
      refine Jq.thenN ?_
      refine Jc.condF rfl ?_
      refine Jc.skip ?_
      refine Jq.blkN ?_
      refine Jq.thenN ?_
      refine Jc.region ?_
      refine Jl.pv (PR.add ((k + 1 : Nat) : Int) rfl rfl (by rw [w64 (by omega) (by omega)]; rfl)) ?_
      refine Jl.pv (PR.move rfl) ?_
      refine Jl.nil ?_
      exact Jq.againT ⟨k + 1, hlt⟩ (by simp only; omega) (by repeat (first | exact trivial | refine And.intro rfl ?_)) (by repeat (first | exact Take.nil | apply Take.cons (by repeat (first | exact Del.here | apply Del.there)))) (by repeat (first | exact trivial | refine And.intro (by repeat (first | exact Mem.here | apply Mem.there)) ?_))
    · try replace g23 := of_decide_eq_false g23
      refine Jl.offS rfl rfl rfl ?_
      refine Jl.offS rfl rfl rfl ?_
      refine Jl.offS rfl rfl rfl ?_
      refine Jl.offS rfl rfl rfl ?_
      refine Jl.offS rfl rfl rfl ?_
      refine Jl.on rfl rfl ?_
      refine Jl.pv (PR.pickF rfl rfl) ?_
      refine Jl.pv (PR.pickF rfl rfl) ?_
      refine Jl.nil ?_
      refine Jq.thenN ?_
      refine Jc.condF rfl ?_
      refine Jc.skip ?_
      refine Jq.blkN ?_
      refine Jq.thenN ?_
      refine Jc.region ?_
      refine Jl.pv (PR.add ((k + 1 : Nat) : Int) rfl rfl (by rw [w64 (by omega) (by omega)]; rfl)) ?_
      refine Jl.pv (PR.move rfl) ?_
      refine Jl.nil ?_
      exact Jq.againT ⟨k + 1, hlt⟩ (by simp only; omega) (by repeat (first | exact trivial | refine And.intro rfl ?_)) (by repeat (first | exact Take.nil | apply Take.cons (by repeat (first | exact Del.here | apply Del.there)))) (by repeat (first | exact trivial | refine And.intro (by repeat (first | exact Mem.here | apply Mem.there)) ?_))
  · try replace h0 := of_decide_eq_false h0
    refine Jc.exit ?_
    refine Jq.thenX ?_
    refine Jq.thenX ?_
    refine Jq.blkX ?_
    refine Jq.thenN ?_
    refine Jc.seq ?_
    refine Jc.seq ?_
    refine Jc.region ?_
    refine Jl.pv (PR.move rfl) ?_
    refine Jl.pv (PR.len rfl tsl28) ?_
    refine Jl.pv (PR.move rfl) ?_
    refine Jl.nil ?_
    refine Jq.thenN ?_
    refine Jc.block ?_
    refine Jc.loop (σ := { k : Nat // k ≤ (flatP ps).length }) (fun s => [(34, .int .i64 (s.1 : Int)), (33, .int .i64 ((flatP ps).length : Int)), (3, .slice A8 (flatP ps).length c8)]) (fun _ => []) (fun _ => [.rd A8 (snsV (flatP ps))]) (fun s => (flatP ps).length - s.1) ⟨0, Nat.zero_le _⟩ (by repeat (first | exact trivial | refine And.intro rfl ?_)) rfl (by repeat (first | exact trivial | refine And.intro (by repeat (first | exact Mem.here | apply Mem.there)) ?_)) ?_
    rintro ⟨j, hj⟩
    show Jc _ _ _ _ _ _ [(34, Value.int .i64 (j : Int)), (33, .int .i64 ((flatP ps).length : Int)), (3, .slice A8 (flatP ps).length c8)] [] [.rd A8 (snsV (flatP ps))]
    refine Jc.seq ?_
    refine Jc.region ?_
    refine Jl.pv (PR.lss _ rfl rfl rfl) ?_
    refine Jl.nil ?_
    refine Jq.thenN ?_
    refine Jc.seq ?_
    refine Jc.cond rfl (fun h1 => ?_) (fun h1 => ?_)
    · try replace h1 := of_decide_eq_true h1
      have hlt : j < (flatP ps).length := by omega
      refine Jc.skip ?_
      refine Jq.thenN ?_
      refine Jc.seq ?_
      refine Jc.block ?_
      refine Jc.seq ?_
      refine Jc.region ?_
      refine Jl.pv (PR.move rfl) ?_
      refine Jl.pv (PR.assign rfl) ?_
      refine Jl.nil ?_
      refine Jq.thenN ?_
      refine Jc.seq ?_
      refine Jc.drawn [0, 1, 3, 7, 7, 31, 63, 127, 7, 7, 519, 1799, 3847, 7943, 16383, 32767] ([(0, false), (1, false), (2, false), (3, false), (4, false), (5, false), (6, false), (7, false), (8, false), (9, false), (10, false), (11, false), (12, false), (13, false), (14, false), (15, false)], []) [] tmx (by kernel_rfl) ?_
      refine Dh.JH.nil ?_
      refine Dh.JB.pv rfl trivial (fun _ => PR.move rfl) ?_
      refine Dh.JB.pv rfl trivial (fun _ => PR.gtr _ rfl rfl rfl) ?_
      refine Dh.JB.pv rfl trivial (fun _ => PR.move rfl) ?_
      refine Dh.JB.bsplit (fun g39 => ?_) (fun g39 => ?_)
      · try replace g39 := of_decide_eq_true g39
        have hj0 : 0 < j := by omega
        have hr := rise_at hP.rise hlt hj0
        have hlt2 : j - 1 < (flatP ps).length := by omega
        refine Dh.JB.pv rfl ⟨_, rfl, rfl⟩ (fun _ => PR.move rfl) ?_
        refine Dh.JB.pv rfl ⟨_, rfl, rfl⟩ (fun _ => PR.move rfl) ?_
        refine Dh.JB.pv rfl ⟨_, rfl, rfl⟩ (fun _ => PR.idx j rfl rfl tsl28 (by repeat (first | exact Mem.here | apply Mem.there)) (snsV_len _) (by omega) rfl hlt) ?_
        refine Dh.JB.pv rfl ⟨_, rfl, rfl⟩ (fun _ => PR.fieldAddrR rfl tfl35_0 (by repeat (first | exact Mem.here | apply Mem.there)) (by rw [snsV_len]; omega)) ?_
        refine Dh.JB.pv rfl ⟨_, rfl, rfl⟩ (fun _ => PR.loadR rfl tsh3 (by repeat (first | exact Mem.here | apply Mem.there)) (sns_f hlt 0 rfl)) ?_
        refine Dh.JB.pv rfl ⟨_, rfl, rfl⟩ (fun _ => PR.move rfl) ?_
        refine Dh.JB.pv rfl ⟨_, rfl, rfl⟩ (fun _ => PR.move rfl) ?_
        refine Dh.JB.pv rfl ⟨_, rfl, rfl⟩ (fun _ => PR.sub ((j - 1 : Nat) : Int) rfl rfl (by rw [w64 (by omega) (by omega)]; omega)) ?_
        refine Dh.JB.pv rfl ⟨_, rfl, rfl⟩ (fun _ => PR.idx (j - 1) rfl rfl tsl28 (by repeat (first | exact Mem.here | apply Mem.there)) (snsV_len _) (by omega) rfl hlt2) ?_
        refine Dh.JB.pv rfl ⟨_, rfl, rfl⟩ (fun _ => PR.fieldAddrR rfl tfl35_0 (by repeat (first | exact Mem.here | apply Mem.there)) (by rw [snsV_len]; omega)) ?_
        refine Dh.JB.pv rfl ⟨_, rfl, rfl⟩ (fun _ => PR.loadR rfl tsh3 (by repeat (first | exact Mem.here | apply Mem.there)) (sns_f hlt2 0 rfl)) ?_
        refine Dh.JB.pv rfl ⟨_, rfl, rfl⟩ (fun _ => PR.leq false rfl rfl (by simp; omega)) ?_
        refine Dh.JB.pv rfl trivial (fun _ => PR.pickT rfl rfl) ?_
        refine Dh.JB.nil ?_
        refine Dh.JL.nil ?_
        refine Jq.thenN ?_
        refine Jc.condF rfl ?_
        refine Jc.skip ?_
        refine Jq.blkN ?_
        refine Jq.thenN ?_
        refine Jc.region ?_
        refine Jl.pv (PR.add ((j + 1 : Nat) : Int) rfl rfl (by rw [w64 (by omega) (by omega)]; rfl)) ?_
        refine Jl.pv (PR.move rfl) ?_
        refine Jl.nil ?_
        exact Jq.againT ⟨j + 1, hlt⟩ (by simp only; omega) (by repeat (first | exact trivial | refine And.intro rfl ?_)) (by repeat (first | exact Take.nil | apply Take.cons (by repeat (first | exact Del.here | apply Del.there)))) (by repeat (first | exact trivial | refine And.intro (by repeat (first | exact Mem.here | apply Mem.there)) ?_))
      · try replace g39 := of_decide_eq_false g39
        refine Dh.JB.off rfl ⟨_, rfl, .inr rfl⟩ ?_
        refine Dh.JB.off rfl ⟨_, rfl, .inr rfl⟩ ?_
        refine Dh.JB.off rfl ⟨_, rfl, .inr rfl⟩ ?_
        refine Dh.JB.off rfl ⟨_, rfl, .inr rfl⟩ ?_
        refine Dh.JB.off rfl ⟨_, rfl, .inr rfl⟩ ?_
        refine Dh.JB.off rfl ⟨_, rfl, .inr rfl⟩ ?_
        refine Dh.JB.off rfl ⟨_, rfl, .inr rfl⟩ ?_
        refine Dh.JB.off rfl ⟨_, rfl, .inr rfl⟩ ?_
        refine Dh.JB.off rfl ⟨_, rfl, .inr rfl⟩ ?_
        refine Dh.JB.off rfl ⟨_, rfl, .inr rfl⟩ ?_
        refine Dh.JB.off rfl ⟨_, rfl, .inr rfl⟩ ?_
        refine Dh.JB.off rfl ⟨_, rfl, .inr rfl⟩ ?_
        refine Dh.JB.pv rfl trivial (fun _ => PR.pickF rfl rfl) ?_
        refine Dh.JB.nil ?_
        refine Dh.JL.nil ?_
        refine Jq.thenN ?_
        refine Jc.condF rfl ?_
        refine Jc.skip ?_
        refine Jq.blkN ?_
        refine Jq.thenN ?_
        refine Jc.region ?_
        refine Jl.pv (PR.add ((j + 1 : Nat) : Int) rfl rfl (by rw [w64 (by omega) (by omega)]; rfl)) ?_
        refine Jl.pv (PR.move rfl) ?_
        refine Jl.nil ?_
        exact Jq.againT ⟨j + 1, hlt⟩ (by simp only; omega) (by repeat (first | exact trivial | refine And.intro rfl ?_)) (by repeat (first | exact Take.nil | apply Take.cons (by repeat (first | exact Del.here | apply Del.there)))) (by repeat (first | exact trivial | refine And.intro (by repeat (first | exact Mem.here | apply Mem.there)) ?_))
    · try replace h1 := of_decide_eq_false h1
      refine Jc.exit ?_
      refine Jq.thenX ?_
      refine Jq.thenX ?_
      refine Jq.blkX ?_
      refine Jq.thenN ?_
      refine Jc.seq ?_
      refine Jc.region ?_
      refine Jl.pv (PR.assign rfl) ?_
      refine Jl.nil ?_
      refine Jq.thenN ?_
      refine Jc.ret ?_
      exact Jq.fin () (.inl rfl) rfl (RetVs.tmp rfl RetVs.nil) rfl (by repeat (first | exact Take.nil | apply Take.cons (by repeat (first | exact Del.here | apply Del.there)))) (by repeat (first | exact trivial | refine And.intro (by repeat (first | exact Mem.here | apply Mem.there)) ?_))
theorem whole_at {L : Option Addr} {cL n : Nat} (ps : List Pg) (hn : ps.length = n) (hP : Pgs ps) : Ct Try.prog 12 [.slice L n cL] [] [.rd L (slsV (pgS ps)), .sls (pgS ps)] (fun _ : Unit => .bool true) (fun _ => []) (fun _ => []) := by
  subst hn; exact whole_ct L cL ps hP
theorem of_at {c : Cl} {x : AdC} {be : Int} {s l : List Sn} {n : Nat} {m : Bool} (hw : c.Wf) (h : shw c be = s) (h1 : s.take 3 = l) (hn : l.length = n) (hm : decide (3 < s.length) = m) : Ct Try.prog 10 [c.v x, .int .i64 be] [] [.rd x.1 (bxsV c.bs)] (fun x : AdC => .tuple #[.slice x.1 n x.2, .bool m]) (fun x => [.row 35 7 (.slice x.1 n x.2) n (snsV l)]) (fun _ => []) := by
  subst h h1 hn hm; exact of_ct c x be hw
theorem all_at {c : Cl} {x : AdC} {l : List Sn} {n : Nat} (hw : c.Wf) (h : shw c 0 = l) (hn : l.length = n) : Ct Try.prog 14 [c.v x] [] [.rd x.1 (bxsV c.bs)] (fun x : AdC => .slice x.1 n x.2) (fun x => [.row 35 7 (.slice x.1 n x.2) n (snsV l)]) (fun _ => []) := by
  subst h hn; exact all_ct c x hw
theorem answer_at {c : Cl} {x : AdC} {call be : Int} {s l : List Sn} {n : Nat} {m : Bool} (hw : c.Wf) (h : shw c be = s) (h1 : s.take 3 = l) (hn : l.length = n) (hm : decide (3 < s.length) = m) : Ct Try.prog 16 [c.v x, .agg #[.int .u8 7, .int .i64 call, .int .i64 be, .int .i64 0, .int .i64 0, .int .i64 0]] [] [.rd x.1 (bxsV c.bs)] (fun x : AdC => .agg #[.int .i64 call, .int .u8 7, .int .u8 1, .int .i64 be, .slice x.1 n x.2, .bool m]) (fun x => [.row 35 7 (.slice x.1 n x.2) n (snsV l)]) (fun _ => []) := by
  subst h h1 hn hm; exact answer_ct c x call be hw
theorem next_at {A : Option Addr} {cA n : Nat} {be m : Int} (l : List Sn) (hl : l.length = n) (hn : n ≤ 1000000) (h : nxt l be = m) : Ct Try.prog 11 [.slice A n cA, .int .i64 be] [] [.rd A (snsV l)] (fun _ : Unit => .int .i64 m) (fun _ => []) (fun _ => []) := by
  subst hl h; exact next_ct A cA l be hn
theorem psame_eq {x y : AdC} {a b : List Sn} {n m : Nat} (ha : a.length = n) (hb : b.length = m) (h : a = b) (hn : n ≤ 1000000) : Ct Try.prog 13 [.slice x.1 n x.2, .slice y.1 m y.2] [] [.rd x.1 (snsV a), .rd y.1 (snsV b)] (fun _ : Unit => .bool true) (fun _ => []) (fun _ => []) := by
  subst ha hb h
  have h0 := psame_ct x y a a hn
  rwa [sameS_yes rfl] at h0
theorem Cl.Ok.wf {c : Cl} (h : c.Ok) : c.Wf := fun b hb => by
  obtain ⟨i, hi, rfl⟩ := List.mem_iff_getElem.1 hb
  have := okN_iff.1 (h.bs i hi).1.2.1
  exact wf64 (by omega) (by omega)
def pk0 : Cl := ⟨[], 0, 0, 0, false⟩
def pkL : List Bx := [⟨1, 1, 0, 0, true, true, false, true, 0, 0, 0⟩, ⟨2, 2, 0, 0, false, true, false, true, 0, 0, 0⟩, ⟨3, 3, 0, 0, true, true, false, true, 0, 0, 0⟩, ⟨4, 4, 0, 0, true, true, false, true, 0, 0, 0⟩, ⟨5, 5, 0, 0, true, true, false, true, 0, 0, 0⟩]
def pkC : Cl := ⟨pkL, 0, 0, 0, false⟩
theorem pk0_ok : pk0.Ok := ⟨by decide, by decide, by decide, by decide, fun i h => absurd h (Nat.not_lt_zero _)⟩
theorem pkC_ok : pkC.Ok := ⟨by decide, by decide, by decide, by decide, by unfold okB Bx.okAt; decide⟩
theorem pk_app {k : Nat} (h : k < 5) : bxsV (pkL.take k) ++ [.int .i64 ((k : Int) + 1), .int .i64 ((k : Int) + 1), .int .i64 0, .int .i64 0, .bool (decide ((k : Int) + 1 ≠ 2)), .bool true, .bool false, .bool true, .int .u8 0, .int .i64 0, .int .i64 0] = bxsV (pkL.take (k + 1)) := by
  have h1 : k = 0 ∨ k = 1 ∨ k = 2 ∨ k = 3 ∨ k = 4 := by omega
  rcases h1 with rfl | rfl | rfl | rfl | rfl <;> rfl
def pkS (i : Int) : Sn := ⟨i, i, 0, 0, true, true, false⟩
theorem pk_shw0 : shw pkC 0 = [pkS 1, pkS 3, pkS 4, pkS 5] := by rw [shw_ok (Cl.ok_iff.2 pkC_ok)]; rfl
theorem pk_shw1 : shw pkC 1 = [pkS 3, pkS 4, pkS 5] := by rw [shw_ok (Cl.ok_iff.2 pkC_ok)]; rfl
theorem pk_shw4 : shw pkC 4 = [pkS 5] := by rw [shw_ok (Cl.ok_iff.2 pkC_ok)]; rfl
theorem pk_shwZ : shw pk0 0 = [] := by rw [shw_ok (Cl.ok_iff.2 pk0_ok)]; rfl
theorem pk_pgs (x y : AdC) : Pgs [(x, [pkS 1, pkS 3, pkS 4]), (y, [pkS 5])] := by
  refine ⟨by simp, by simp, fun i h => ?_, by simp [Rise, flatP, pkS]⟩
  obtain rfl : i = 0 := by simp only [List.length_cons, List.length_nil] at h; omega
  simp
theorem pgwakes_ct : Ct Try.prog 9 [] [] [] (fun _ : Unit => .bool true) (fun _ => []) (fun _ => []) := by
  refine Ct.of _ Try.func9 Try.ntmps9 rfl rfl (fun X W => ?_)
  refine Jc.fact0 (.rd none (bxsV [])) (fun X W => Fact.rd_nil none X W) ?_
  refine Jc.seq ?_
  refine Jc.region ?_
  refine Jl.pv (PR.assign rfl) ?_
  refine Jl.nil ?_
  refine Jq.thenN ?_
  refine Jc.seq ?_
  refine Jc.region ?_
  refine Jl.pv (PR.build (by rfl) tze24 tpl24_ (by rfl)) ?_
  refine Jl.call (of_at (c := pk0) (x := (none, 0)) pk0_ok.wf pk_shwZ rfl rfl rfl) en10 (by rfl) (by repeat (first | exact Take.nil | apply Take.cons (by repeat (first | exact Del.here | apply Del.there)))) (by repeat (first | exact trivial | refine And.intro (by repeat (first | exact Mem.here | apply Mem.there)) ?_)) ?_
  rintro ⟨A12, c12⟩
  refine Jl.pv (PR.move rfl) ?_
  refine Jl.pv (PR.extract rfl (by rfl)) ?_
  refine Jl.pv (PR.extract rfl (by rfl)) ?_
  refine Jl.pv (PR.assign rfl) ?_
  refine Jl.pv (PR.assign rfl) ?_
  refine Jl.nil ?_
  refine Jq.thenN ?_
  refine Jc.seq ?_
  refine Jc.region ?_
  refine Jl.alloc tze24 ?_
  intro b3
  refine Jl.nil ?_
  refine Jq.thenN ?_
  refine Jc.seq ?_
  refine Jc.seq ?_
  refine Jc.region ?_
  refine Jl.pv (PR.assign rfl) ?_
  refine Jl.nil ?_
  refine Jq.thenN ?_
  refine Jc.block ?_
  refine Jc.nilRow 33 11 ?_
  refine Jc.loop (σ := { k : Nat // k ≤ 5 } × AdC) (fun s => [(4, .int .i64 ((s.1.1 : Int) + 1)), (1, .slice A12 0 c12), (2, .bool false), (3, .pointer (some ⟨b3, 0, none⟩))]) (fun s => [.row 33 11 (.slice s.2.1 s.1.1 s.2.2) s.1.1 (bxsV (pkL.take s.1.1)), .blk b3 24 [.slice s.2.1 s.1.1 s.2.2, .int .i64 0, .int .i64 0, .int .i64 0, .bool false], .row 35 7 (.slice A12 0 c12) 0 (snsV [])]) (fun _ => []) (fun s => 5 - s.1.1) ⟨⟨0, Nat.zero_le _⟩, none, 0⟩ (by repeat (first | exact trivial | refine And.intro rfl ?_)) rfl (by repeat (first | exact trivial | refine And.intro (by repeat (first | exact Mem.here | apply Mem.there)) ?_)) ?_
  rintro ⟨⟨k, hk⟩, A', c'⟩
  show Jc _ _ _ _ _ _ [(4, Value.int .i64 ((k : Int) + 1)), (1, .slice A12 0 c12), (2, .bool false), (3, .pointer (some ⟨b3, 0, none⟩))] [.row 33 11 (.slice A' k c') k (bxsV (pkL.take k)), .blk b3 24 [.slice A' k c', .int .i64 0, .int .i64 0, .int .i64 0, .bool false], .row 35 7 (.slice A12 0 c12) 0 (snsV [])] []
  refine Jc.seq ?_
  refine Jc.seq ?_
  refine Jc.region ?_
  refine Jl.pv (PR.move rfl) ?_
  refine Jl.pv (PR.leq _ rfl rfl rfl) ?_
  refine Jl.nil ?_
  refine Jq.thenN ?_
  refine Jc.cond rfl (fun h0 => ?_) (fun h0 => ?_)
  · try replace h0 := of_decide_eq_true h0
    refine Jc.skip ?_
    refine Jq.thenN ?_
    refine Jc.seq ?_
    refine Jc.block ?_
    refine Jc.region ?_
    refine Jl.pv (PR.fieldAddr rfl tfl24_0) ?_
    refine Jl.pv (PR.load1 rfl tsh22 (by repeat (first | exact Has.here | apply Has.there)) (by rfl)) ?_
    refine Jl.pv (PR.move rfl) ?_
    refine Jl.pv (PR.move rfl) ?_
    refine Jl.pv (PR.move rfl) ?_
    refine Jl.pv (PR.neq _ rfl rfl rfl) ?_
    refine Jl.pv (PR.build (by rfl) tze33 tpl33_0_1_4_5_7 (by rfl)) ?_
    refine Jl.buildSlice (by rfl) tsl22 tzr22_1 (by rfl) (by rfl) ?_
    intro b26
    refine Jl.seal (by repeat (first | exact Del.here | apply Del.there)) ?_
    refine Jl.append (k + 1) (bxsV (pkL.take (k + 1))) rfl rfl rfl tsl22 tze33 (by rfl) (by decide) tby33 (fun _ _ => (by repeat (first | exact Swap.here | apply Swap.there))) (by repeat (first | exact Mem.here | apply Mem.there)) rfl (pk_app (by omega)) rfl (by simp [Value.oneCell']) (by omega) (by decide) ?_
    intro A27 c27
    refine Jl.pv (PR.fieldAddr rfl tfl24_0) ?_
    refine Jl.store1 rfl tsh22 rfl (by rfl) (by repeat (first | exact Swap.here | apply Swap.there)) (by rfl) ?_
    refine Jl.nil ?_
    refine Jq.blkN ?_
    refine Jq.thenN ?_
    refine Jc.region ?_
    refine Jl.pv (PR.move rfl) ?_
    refine Jl.pv (PR.add (((k + 1 : Nat) : Int) + 1) rfl rfl (by rw [w64 (by omega) (by omega)]; omega)) ?_
    refine Jl.pv (PR.assign rfl) ?_
    refine Jl.nil ?_
    exact Jq.againT ⟨⟨k + 1, by omega⟩, A27, c27⟩ (by simp only; omega) (by repeat (first | exact trivial | refine And.intro rfl ?_)) (by repeat (first | exact Take.nil | apply Take.cons (by repeat (first | exact Del.here | apply Del.there)))) (by repeat (first | exact trivial | refine And.intro (by repeat (first | exact Mem.here | apply Mem.there)) ?_))
  · try replace h0 := of_decide_eq_false h0
    obtain rfl : k = 5 := by omega
    rw [show pkL.take 5 = pkL from rfl]
    refine Jc.exit ?_
    refine Jq.thenX ?_
    refine Jq.thenX ?_
    refine Jq.blkX ?_
    refine Jq.thenN ?_
    refine Jc.seq ?_
    refine Jc.region ?_
    refine Jl.pv (PR.loadW rfl tsh24 (by repeat (first | exact Has.here | apply Has.there)) (by rfl)) ?_
    refine Jl.sealR (by repeat (first | exact Del.here | apply Del.there)) ?_
    refine Jl.call (of_at (c := pkC) (x := (A', c')) pkC_ok.wf pk_shw0 rfl rfl rfl) en10 (by rfl) (by repeat (first | exact Take.nil | apply Take.cons (by repeat (first | exact Del.here | apply Del.there)))) (by repeat (first | exact trivial | refine And.intro (by repeat (first | exact Mem.here | apply Mem.there)) ?_)) ?_
    rintro ⟨A31, c31⟩
    refine Jl.sealR (by repeat (first | exact Del.here | apply Del.there)) ?_
    refine Jl.pv (PR.move rfl) ?_
    refine Jl.pv (PR.extract rfl (by rfl)) ?_
    refine Jl.pv (PR.extract rfl (by rfl)) ?_
    refine Jl.pv (PR.assign rfl) ?_
    refine Jl.pv (PR.assign rfl) ?_
    refine Jl.nil ?_
    refine Jq.thenN ?_
    refine Jc.seq ?_
    refine Jc.region ?_
    refine Jl.pv (PR.loadW rfl tsh24 (by repeat (first | exact Has.here | apply Has.there)) (by rfl)) ?_
    refine Jl.call (of_at (c := pkC) (x := (A', c')) pkC_ok.wf pk_shw4 rfl rfl rfl) en10 (by rfl) (by repeat (first | exact Take.nil | apply Take.cons (by repeat (first | exact Del.here | apply Del.there)))) (by repeat (first | exact trivial | refine And.intro (by repeat (first | exact Mem.here | apply Mem.there)) ?_)) ?_
    rintro ⟨A36, c36⟩
    refine Jl.sealR (by repeat (first | exact Del.here | apply Del.there)) ?_
    refine Jl.pv (PR.move rfl) ?_
    refine Jl.pv (PR.extract rfl (by rfl)) ?_
    refine Jl.pv (PR.extract rfl (by rfl)) ?_
    refine Jl.pv (PR.assign rfl) ?_
    refine Jl.pv (PR.assign rfl) ?_
    refine Jl.nil ?_
    refine Jq.thenN ?_
    refine Jc.seq ?_
    refine Jc.region ?_
    refine Jl.pv (PR.loadW rfl tsh24 (by repeat (first | exact Has.here | apply Has.there)) (by rfl)) ?_
    refine Jl.pv (PR.build (by rfl) tze46 tpl46_0_1_2 (by rfl)) ?_
    refine Jl.call (answer_at (c := pkC) (x := (A', c')) pkC_ok.wf pk_shw1 rfl rfl rfl) en16 (by rfl) (by repeat (first | exact Take.nil | apply Take.cons (by repeat (first | exact Del.here | apply Del.there)))) (by repeat (first | exact trivial | refine And.intro (by repeat (first | exact Mem.here | apply Mem.there)) ?_)) ?_
    rintro ⟨A41, c41⟩
    refine Jl.alloc tze43 ?_
    intro b9
    refine Jl.storeW rfl tsh43 rfl (by rfl) (by first | exact Cl.cs_one _ _ | simp [Value.oneCell']) (by repeat (first | exact Swap.here | apply Swap.there)) (by rfl) ?_
    refine Jl.nil ?_
    refine Jq.thenN ?_
    refine Jc.seq ?_
    refine Jc.region ?_
    refine Jl.pv (PR.move rfl) ?_
    refine Jl.pv (PR.len rfl tsl28) ?_
    refine Jl.pv (PR.eql true rfl rfl (by decide)) ?_
    refine Jl.pv (PR.move rfl) ?_
    refine Jl.on rfl rfl ?_
    refine Jl.pv (PR.move rfl) ?_
    refine Jl.on rfl rfl ?_
    refine Jl.pv (PR.not rfl) ?_
    refine Jl.pv (PR.pickT rfl rfl) ?_
    refine Jl.pv (PR.move rfl) ?_
    refine Jl.bsplit (fun g49 => ?_) (fun g49 => ?_)
    · try replace g49 := of_decide_eq_true g49
      refine Jl.on rfl rfl ?_
      refine Jl.pv (PR.move rfl) ?_
      refine Jl.on rfl rfl ?_
      refine Jl.pv (PR.len rfl tsl28) ?_
      refine Jl.on rfl rfl ?_
      refine Jl.pv (PR.eql true rfl rfl (by decide)) ?_
      refine Jl.pv (PR.pickT rfl rfl) ?_
      refine Jl.pv (PR.move rfl) ?_
      refine Jl.on rfl rfl ?_
      refine Jl.pv (PR.move rfl) ?_
      refine Jl.pv (PR.pickT rfl rfl) ?_
      refine Jl.pv (PR.move rfl) ?_
      refine Jl.bsplit (fun g57 => ?_) (fun g57 => ?_)
      · try replace g57 := of_decide_eq_true g57
        refine Jl.on rfl rfl ?_
        refine Jl.pv (PR.move rfl) ?_
        refine Jl.on rfl rfl ?_
        refine Jl.pv (PR.idx 2 rfl rfl tsl28 (by repeat (first | exact Mem.here | apply Mem.there)) (snsV_len [pkS 1, pkS 3, pkS 4]) (by decide) rfl (by decide)) ?_
        refine Jl.on rfl rfl ?_
        refine Jl.pv (PR.fieldAddrR rfl tfl35_0 (by repeat (first | exact Mem.here | apply Mem.there)) (by decide)) ?_
        refine Jl.on rfl rfl ?_
        refine Jl.pv (PR.loadR rfl tsh3 (by repeat (first | exact Mem.here | apply Mem.there)) (sns_f (l := [pkS 1, pkS 3, pkS 4]) (k := 2) (by decide) 0 rfl)) ?_
        refine Jl.on rfl rfl ?_
        refine Jl.pv (PR.eql true rfl rfl (by decide)) ?_
        refine Jl.pv (PR.pickT rfl rfl) ?_
        refine Jl.pv (PR.move rfl) ?_
        refine Jl.on rfl rfl ?_
        refine Jl.pv (PR.move rfl) ?_
        refine Jl.on rfl rfl ?_
        refine Jl.pv (PR.len rfl tsl28) ?_
        refine Jl.on rfl rfl ?_
        refine Jl.pv (PR.eql true rfl rfl (by decide)) ?_
        refine Jl.pv (PR.pickT rfl rfl) ?_
        refine Jl.pv (PR.move rfl) ?_
        refine Jl.on rfl rfl ?_
        refine Jl.pv (PR.move rfl) ?_
        refine Jl.on rfl rfl ?_
        refine Jl.pv (PR.not rfl) ?_
        refine Jl.pv (PR.pickT rfl rfl) ?_
        refine Jl.pv (PR.move rfl) ?_
        refine Jl.bsplit (fun g73 => ?_) (fun g73 => ?_)
        · try replace g73 := of_decide_eq_true g73
          refine Jl.on rfl rfl ?_
          refine Jl.pv (PR.loadW rfl tsh24 (by repeat (first | exact Has.here | apply Has.there)) (by rfl)) ?_
          refine Jl.on rfl rfl ?_
          refine Jl.call (all_at (c := pkC) (x := (A', c')) pkC_ok.wf pk_shw0 rfl) en14 (by rfl) (by repeat (first | exact Take.nil | apply Take.cons (by repeat (first | exact Del.here | apply Del.there)))) (by repeat (first | exact trivial | refine And.intro (by repeat (first | exact Mem.here | apply Mem.there)) ?_)) ?_
          rintro ⟨A75, c75⟩
          refine Jl.on rfl rfl ?_
          refine Jl.pv (PR.len rfl tsl28) ?_
          refine Jl.on rfl rfl ?_
          refine Jl.pv (PR.eql true rfl rfl (by decide)) ?_
          refine Jl.pv (PR.pickT rfl rfl) ?_
          refine Jl.pv (PR.move rfl) ?_
          refine Jl.on rfl rfl ?_
          refine Jl.pv (PR.fieldAddr rfl tfl43_0) ?_
          refine Jl.on rfl rfl ?_
          refine Jl.pv (PR.load1 rfl tsh3 (by repeat (first | exact Has.here | apply Has.there)) (by rfl)) ?_
          refine Jl.on rfl rfl ?_
          refine Jl.pv (PR.eql true rfl rfl (by decide)) ?_
          refine Jl.pv (PR.pickT rfl rfl) ?_
          refine Jl.pv (PR.move rfl) ?_
          refine Jl.on rfl rfl ?_
          refine Jl.pv (PR.fieldAddr rfl tfl43_2) ?_
          refine Jl.on rfl rfl ?_
          refine Jl.pv (PR.load1 rfl tsh5 (by repeat (first | exact Has.here | apply Has.there)) (by rfl)) ?_
          refine Jl.on rfl rfl ?_
          refine Jl.pv (PR.eql true rfl rfl (by decide)) ?_
          refine Jl.pv (PR.pickT rfl rfl) ?_
          refine Jl.pv (PR.move rfl) ?_
          refine Jl.on rfl rfl ?_
          refine Jl.pv (PR.fieldAddr rfl tfl43_4) ?_
          refine Jl.on rfl rfl ?_
          refine Jl.pv (PR.load1 rfl tsh28 (by repeat (first | exact Has.here | apply Has.there)) (by rfl)) ?_
          refine Jl.on rfl rfl ?_
          refine Jl.pv (PR.len rfl tsl28) ?_
          refine Jl.on rfl rfl ?_
          refine Jl.pv (PR.eql true rfl rfl (by decide)) ?_
          refine Jl.pv (PR.pickT rfl rfl) ?_
          refine Jl.pv (PR.move rfl) ?_
          refine Jl.on rfl rfl ?_
          refine Jl.pv (PR.fieldAddr rfl tfl43_5) ?_
          refine Jl.on rfl rfl ?_
          refine Jl.pv (PR.load1 rfl tsh4 (by repeat (first | exact Has.here | apply Has.there)) (by rfl)) ?_
          refine Jl.on rfl rfl ?_
          refine Jl.pv (PR.not rfl) ?_
          refine Jl.pv (PR.pickT rfl rfl) ?_
          refine Jl.pv (PR.move rfl) ?_
          refine Jl.bsplit (fun g100 => ?_) (fun g100 => ?_)
          · try replace g100 := of_decide_eq_true g100
            refine Jl.on rfl rfl ?_
            refine Jl.pv (PR.move rfl) ?_
            refine Jl.on rfl rfl ?_
            refine Jl.call (next_at (be := 0) [pkS 1, pkS 3, pkS 4] rfl (by decide) rfl) en11 (by rfl) (by repeat (first | exact Take.nil | apply Take.cons (by repeat (first | exact Del.here | apply Del.there)))) (by repeat (first | exact trivial | refine And.intro (by repeat (first | exact Mem.here | apply Mem.there)) ?_)) ?_
            rintro ⟨⟩
            refine Jl.on rfl rfl ?_
            refine Jl.pv (PR.eql true rfl rfl (by decide)) ?_
            refine Jl.pv (PR.pickT rfl rfl) ?_
            refine Jl.pv (PR.move rfl) ?_
            refine Jl.on rfl rfl ?_
            refine Jl.pv (PR.move rfl) ?_
            refine Jl.on rfl rfl ?_
            refine Jl.pv (PR.move rfl) ?_
            refine Jl.on rfl rfl ?_
            refine Jl.buildSlice (by rfl) tsl27 tzr27_2 (by rfl) (by rfl) ?_
            intro b108
            refine Jl.seal (by repeat (first | exact Del.here | apply Del.there)) ?_
            refine Jl.slNil ?_
            refine Jl.slCons ((A36, c36), 1, snsV [pkS 5]) (by repeat (first | exact Mem.here | apply Mem.there)) (by repeat (first | exact Mem.here | apply Mem.there)) ?_
            refine Jl.slCons ((A31, c31), 3, snsV [pkS 1, pkS 3, pkS 4]) (by repeat (first | exact Mem.here | apply Mem.there)) (by repeat (first | exact Mem.here | apply Mem.there)) ?_
            refine Jl.on rfl rfl ?_
            refine Jl.call (whole_at [((A31, c31), [pkS 1, pkS 3, pkS 4]), ((A36, c36), [pkS 5])] rfl (pk_pgs _ _)) en12 (by rfl) (by repeat (first | exact Take.nil | apply Take.cons (by repeat (first | exact Del.here | apply Del.there)))) (by repeat (first | exact trivial | refine And.intro (by repeat (first | exact Mem.here | apply Mem.there)) ?_)) ?_
            rintro ⟨⟩
            refine Jl.pv (PR.pickT rfl rfl) ?_
            refine Jl.pv (PR.assign rfl) ?_
            refine Jl.nil ?_
            refine Jq.thenN ?_
            refine Jc.ret ?_
            exact Jq.fin () (.inl rfl) rfl (RetVs.tmp rfl RetVs.nil) rfl (by repeat (first | exact Take.nil | apply Take.cons (by repeat (first | exact Del.here | apply Del.there)))) (by repeat (first | exact trivial | refine And.intro (by repeat (first | exact Mem.here | apply Mem.there)) ?_))
          · try replace g100 := of_decide_eq_false g100
            refine Jl.offS rfl rfl rfl ?_
            refine Jl.offS rfl rfl rfl ?_
            refine Jl.offS rfl rfl rfl ?_
            refine Jl.pv (PR.pickF rfl rfl) ?_
            refine Jl.pv (PR.move rfl) ?_
            refine Jl.offS rfl rfl rfl ?_
            refine Jl.offS rfl rfl rfl ?_
            refine Jl.offS rfl rfl rfl ?_
            refine Jl.offS rfl rfl rfl ?_
            refine Jl.pv (PR.pickF rfl rfl) ?_
            refine Jl.pv (PR.assign rfl) ?_
            refine Jl.nil ?_
            refine Jq.thenN ?_
            refine Jc.ret ?_
            exact Jq.fin () (.inl rfl) rfl (RetVs.tmp rfl RetVs.nil) (by simp at g100) (by repeat (first | exact Take.nil | apply Take.cons (by repeat (first | exact Del.here | apply Del.there)))) (by repeat (first | exact trivial | refine And.intro (by repeat (first | exact Mem.here | apply Mem.there)) ?_))
        · try replace g73 := of_decide_eq_false g73
          refine Jl.offS rfl rfl rfl ?_
          refine Jl.offS rfl rfl rfl ?_
          refine Jl.offS rfl rfl rfl ?_
          refine Jl.offS rfl rfl rfl ?_
          refine Jl.pv (PR.pickF rfl rfl) ?_
          refine Jl.pv (PR.move rfl) ?_
          refine Jl.offS rfl rfl rfl ?_
          refine Jl.offS rfl rfl rfl ?_
          refine Jl.offS rfl rfl rfl ?_
          refine Jl.pv (PR.pickF rfl rfl) ?_
          refine Jl.pv (PR.move rfl) ?_
          refine Jl.offS rfl rfl rfl ?_
          refine Jl.offS rfl rfl rfl ?_
          refine Jl.offS rfl rfl rfl ?_
          refine Jl.pv (PR.pickF rfl rfl) ?_
          refine Jl.pv (PR.move rfl) ?_
          refine Jl.offS rfl rfl rfl ?_
          refine Jl.offS rfl rfl rfl ?_
          refine Jl.offS rfl rfl rfl ?_
          refine Jl.offS rfl rfl rfl ?_
          refine Jl.pv (PR.pickF rfl rfl) ?_
          refine Jl.pv (PR.move rfl) ?_
          refine Jl.offS rfl rfl rfl ?_
          refine Jl.offS rfl rfl rfl ?_
          refine Jl.offS rfl rfl rfl ?_
          refine Jl.pv (PR.pickF rfl rfl) ?_
          refine Jl.pv (PR.move rfl) ?_
          refine Jl.offS rfl rfl rfl ?_
          refine Jl.offS rfl rfl rfl ?_
          refine Jl.offS rfl rfl rfl ?_
          refine Jl.pv (PR.pickF rfl rfl) ?_
          refine Jl.pv (PR.move rfl) ?_
          refine Jl.offS rfl rfl rfl ?_
          refine Jl.offS rfl rfl rfl ?_
          refine Jl.offS rfl rfl rfl ?_
          refine Jl.offS rfl rfl rfl ?_
          refine Jl.pv (PR.pickF rfl rfl) ?_
          refine Jl.pv (PR.assign rfl) ?_
          refine Jl.nil ?_
          refine Jq.thenN ?_
          refine Jc.ret ?_
          exact Jq.fin () (.inl rfl) rfl (RetVs.tmp rfl RetVs.nil) (by simp at g73) (by repeat (first | exact Take.nil | apply Take.cons (by repeat (first | exact Del.here | apply Del.there)))) (by repeat (first | exact trivial | refine And.intro (by repeat (first | exact Mem.here | apply Mem.there)) ?_))
      · try replace g57 := of_decide_eq_false g57
        refine Jl.offS rfl rfl rfl ?_
        refine Jl.offS rfl rfl rfl ?_
        refine Jl.offS rfl rfl rfl ?_
        refine Jl.offS rfl rfl rfl ?_
        refine Jl.offS rfl rfl rfl ?_
        refine Jl.pv (PR.pickF rfl rfl) ?_
        refine Jl.pv (PR.move rfl) ?_
        refine Jl.offS rfl rfl rfl ?_
        refine Jl.offS rfl rfl rfl ?_
        refine Jl.offS rfl rfl rfl ?_
        refine Jl.pv (PR.pickF rfl rfl) ?_
        refine Jl.pv (PR.move rfl) ?_
        refine Jl.offS rfl rfl rfl ?_
        refine Jl.offS rfl rfl rfl ?_
        refine Jl.pv (PR.pickF rfl rfl) ?_
        refine Jl.pv (PR.move rfl) ?_
        refine Jl.offS rfl rfl rfl ?_
        refine Jl.offS rfl rfl rfl ?_
        refine Jl.offS rfl rfl rfl ?_
        refine Jl.offS rfl rfl rfl ?_
        refine Jl.pv (PR.pickF rfl rfl) ?_
        refine Jl.pv (PR.move rfl) ?_
        refine Jl.offS rfl rfl rfl ?_
        refine Jl.offS rfl rfl rfl ?_
        refine Jl.offS rfl rfl rfl ?_
        refine Jl.pv (PR.pickF rfl rfl) ?_
        refine Jl.pv (PR.move rfl) ?_
        refine Jl.offS rfl rfl rfl ?_
        refine Jl.offS rfl rfl rfl ?_
        refine Jl.offS rfl rfl rfl ?_
        refine Jl.pv (PR.pickF rfl rfl) ?_
        refine Jl.pv (PR.move rfl) ?_
        refine Jl.offS rfl rfl rfl ?_
        refine Jl.offS rfl rfl rfl ?_
        refine Jl.offS rfl rfl rfl ?_
        refine Jl.offS rfl rfl rfl ?_
        refine Jl.pv (PR.pickF rfl rfl) ?_
        refine Jl.pv (PR.move rfl) ?_
        refine Jl.offS rfl rfl rfl ?_
        refine Jl.offS rfl rfl rfl ?_
        refine Jl.offS rfl rfl rfl ?_
        refine Jl.pv (PR.pickF rfl rfl) ?_
        refine Jl.pv (PR.move rfl) ?_
        refine Jl.offS rfl rfl rfl ?_
        refine Jl.offS rfl rfl rfl ?_
        refine Jl.offS rfl rfl rfl ?_
        refine Jl.pv (PR.pickF rfl rfl) ?_
        refine Jl.pv (PR.move rfl) ?_
        refine Jl.offS rfl rfl rfl ?_
        refine Jl.offS rfl rfl rfl ?_
        refine Jl.offS rfl rfl rfl ?_
        refine Jl.offS rfl rfl rfl ?_
        refine Jl.pv (PR.pickF rfl rfl) ?_
        refine Jl.pv (PR.assign rfl) ?_
        refine Jl.nil ?_
        refine Jq.thenN ?_
        refine Jc.ret ?_
        exact Jq.fin () (.inl rfl) rfl (RetVs.tmp rfl RetVs.nil) (by simp at g57) (by repeat (first | exact Take.nil | apply Take.cons (by repeat (first | exact Del.here | apply Del.there)))) (by repeat (first | exact trivial | refine And.intro (by repeat (first | exact Mem.here | apply Mem.there)) ?_))
    · try replace g49 := of_decide_eq_false g49
      refine Jl.offS rfl rfl rfl ?_
      refine Jl.offS rfl rfl rfl ?_
      refine Jl.offS rfl rfl rfl ?_
      refine Jl.pv (PR.pickF rfl rfl) ?_
      refine Jl.pv (PR.move rfl) ?_
      refine Jl.offS rfl rfl rfl ?_
      refine Jl.pv (PR.pickF rfl rfl) ?_
      refine Jl.pv (PR.move rfl) ?_
      refine Jl.offS rfl rfl rfl ?_
      refine Jl.offS rfl rfl rfl ?_
      refine Jl.offS rfl rfl rfl ?_
      refine Jl.offS rfl rfl rfl ?_
      refine Jl.offS rfl rfl rfl ?_
      refine Jl.pv (PR.pickF rfl rfl) ?_
      refine Jl.pv (PR.move rfl) ?_
      refine Jl.offS rfl rfl rfl ?_
      refine Jl.offS rfl rfl rfl ?_
      refine Jl.offS rfl rfl rfl ?_
      refine Jl.pv (PR.pickF rfl rfl) ?_
      refine Jl.pv (PR.move rfl) ?_
      refine Jl.offS rfl rfl rfl ?_
      refine Jl.offS rfl rfl rfl ?_
      refine Jl.pv (PR.pickF rfl rfl) ?_
      refine Jl.pv (PR.move rfl) ?_
      refine Jl.offS rfl rfl rfl ?_
      refine Jl.offS rfl rfl rfl ?_
      refine Jl.offS rfl rfl rfl ?_
      refine Jl.offS rfl rfl rfl ?_
      refine Jl.pv (PR.pickF rfl rfl) ?_
      refine Jl.pv (PR.move rfl) ?_
      refine Jl.offS rfl rfl rfl ?_
      refine Jl.offS rfl rfl rfl ?_
      refine Jl.offS rfl rfl rfl ?_
      refine Jl.pv (PR.pickF rfl rfl) ?_
      refine Jl.pv (PR.move rfl) ?_
      refine Jl.offS rfl rfl rfl ?_
      refine Jl.offS rfl rfl rfl ?_
      refine Jl.offS rfl rfl rfl ?_
      refine Jl.pv (PR.pickF rfl rfl) ?_
      refine Jl.pv (PR.move rfl) ?_
      refine Jl.offS rfl rfl rfl ?_
      refine Jl.offS rfl rfl rfl ?_
      refine Jl.offS rfl rfl rfl ?_
      refine Jl.offS rfl rfl rfl ?_
      refine Jl.pv (PR.pickF rfl rfl) ?_
      refine Jl.pv (PR.move rfl) ?_
      refine Jl.offS rfl rfl rfl ?_
      refine Jl.offS rfl rfl rfl ?_
      refine Jl.offS rfl rfl rfl ?_
      refine Jl.pv (PR.pickF rfl rfl) ?_
      refine Jl.pv (PR.move rfl) ?_
      refine Jl.offS rfl rfl rfl ?_
      refine Jl.offS rfl rfl rfl ?_
      refine Jl.offS rfl rfl rfl ?_
      refine Jl.pv (PR.pickF rfl rfl) ?_
      refine Jl.pv (PR.move rfl) ?_
      refine Jl.offS rfl rfl rfl ?_
      refine Jl.offS rfl rfl rfl ?_
      refine Jl.offS rfl rfl rfl ?_
      refine Jl.offS rfl rfl rfl ?_
      refine Jl.pv (PR.pickF rfl rfl) ?_
      refine Jl.pv (PR.assign rfl) ?_
      refine Jl.nil ?_
      refine Jq.thenN ?_
      refine Jc.ret ?_
      exact Jq.fin () (.inl rfl) rfl (RetVs.tmp rfl RetVs.nil) (by simp at g49) (by repeat (first | exact Take.nil | apply Take.cons (by repeat (first | exact Del.here | apply Del.there)))) (by repeat (first | exact trivial | refine And.intro (by repeat (first | exact Mem.here | apply Mem.there)) ?_))
end Go.Proofs.Ytoackajhekdckaa
