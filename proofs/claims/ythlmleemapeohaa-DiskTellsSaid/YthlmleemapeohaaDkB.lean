/-
Contracts of herd/disk: parts, put, Append, Swap.
-/
import Derived.Test.YthlmleemapeohaaDkA
import Derived.Test.YthlmleemapeohaaJt
namespace Go.Proofs.Ythlmleemapeohaa
set_option linter.unusedVariables false
open Go.RowKit
attribute [local irreducible] Res.blk Res.row Fact.rd
theorem getps {zs : Ps} {k : Nat} (h : k < zs.length) : (psv zs)[k]? = some (.slice zs[k].1.1 zs[k].2.length zs[k].1.2) := by simp [psv, h]
def pvals (zs : Ps) (k : Nat) : List Value := match (solid zs)[k]? with
  | some z => [.slice z.1.1 z.2.length z.1.2]
  | none => [.slice none 0 0]
theorem parts1_it (L : Option Addr) (cL b0 : Nat) (zs : Ps) (hn : zs.length ≤ 1000000) : It Try.prog 36 [.pointer (some ⟨b0, 0, none⟩)] [.blk b0 25 [.slice L zs.length cL]] [.rd L (psv zs)] (solid zs).length (pvals zs) := by
  refine It.of _ Try.func36 Try.ntmps36 rfl rfl (by rfl) (by simp only [List.mem_singleton]; rintro φ rfl; exact Fact.rd_old _ _) (fun W l cl clx hy => ?_)
  refine Jc.seq ?_
  refine Jc.region ?_
  refine Jl.pv (PR.load1 rfl tsh25 (by repeat (first | exact Has.here | apply Has.there)) (by rfl)) ?_
  refine Jl.pv (PR.len rfl tsl25) ?_
  refine Jl.pv (PR.move rfl) ?_
  refine Jl.nil ?_
  refine Jq.thenN ?_
  refine Jc.block ?_
  refine Jc.loop (σ := { k : Nat // k ≤ zs.length }) (fun s => [(7, .int .i64 (s.1 : Int)), (6, .int .i64 (zs.length : Int)), (5, .slice L zs.length cL), (0, .func (.yield l) #[] #[])]) (fun _ => [.blk b0 25 [.slice L zs.length cL]]) (fun s => [cl (solid (zs.take s.1)).length, .rd L (psv zs)]) (fun s => zs.length - s.1) ⟨0, Nat.zero_le _⟩ (by exact ⟨rfl, rfl, rfl, rfl, trivial⟩) rfl (by exact ⟨(by repeat (first | exact Mem.here | apply Mem.there)), (by repeat (first | exact Mem.here | apply Mem.there)), trivial⟩) ?_
  rintro ⟨k, hk⟩
  show Jc _ _ _ _ _ _ [(7, Value.int .i64 (k : Int)), (6, .int .i64 (zs.length : Int)), (5, .slice L zs.length cL), (0, .func (.yield l) #[] #[])] [.blk b0 25 [.slice L zs.length cL]] [cl (solid (zs.take k)).length, .rd L (psv zs)]
  refine Jc.seq ?_
  refine Jc.region ?_
  refine Jl.pv (PR.lss _ rfl rfl rfl) ?_
  refine Jl.nil ?_
  refine Jq.thenN ?_
  refine Jc.seq ?_
  refine Jc.cond rfl (fun hlt => ?_) (fun hlt => ?_)
  · try replace hlt := of_decide_eq_true hlt
    have hlt' : k < zs.length := by omega
    have hsc := solid_succ hlt'
    refine Jc.skip ?_
    refine Jq.thenN ?_
    refine Jc.seq ?_
    refine Jc.block ?_
    refine Jc.seq ?_
    refine Jc.region ?_
    refine Jl.pv (PR.idx1 k rfl rfl tsl25 (by repeat (first | exact Mem.here | apply Mem.there)) (by simp [psv]) rfl hlt') ?_
    refine Jl.pv (PR.loadR rfl tsh22 (by repeat (first | exact Mem.here | apply Mem.there)) (getps hlt')) ?_
    refine Jl.pv (PR.assign rfl) ?_
    refine Jl.nil ?_
    refine Jq.thenN ?_
    refine Jc.seq ?_
    refine Jc.region ?_
    refine Jl.pv (PR.move rfl) ?_
    refine Jl.pv (PR.len rfl tsl22) ?_
    refine Jl.pv (PR.gtr _ rfl rfl rfl) ?_
    refine Jl.pv (PR.move rfl) ?_
    refine Jl.bsplit (fun g14 => ?_) (fun g14 => ?_)
    · try replace g14 := of_decide_eq_true g14
      obtain ⟨hs1, hs2⟩ := solid_at hlt' (by omega)
      rw [if_pos (by omega)] at hsc
      refine Jl.on rfl rfl ?_
      refine Jl.pv (PR.move rfl) ?_
      refine Jl.on rfl rfl ?_
      refine Jl.pv (PR.move rfl) ?_
      refine Jl.on rfl rfl ?_
      refine hy _ _ _ _ _ _ _ _ _ _ _ _ _ _ ((solid (zs.take k)).length) hs1 rfl (by show some [_] = some (pvals _ _); simp only [pvals, hs2]) (by repeat (first | exact Mem.here | apply Mem.there)) rfl ?_ ?_
      · refine Jl.on rfl rfl ?_
        refine Jl.pv (PR.not rfl) ?_
        refine Jl.pv (PR.pickT rfl rfl) ?_
        refine Jl.nil ?_
        refine Jq.thenN ?_
        refine Jc.condF rfl ?_
        refine Jc.skip ?_
        refine Jq.blkN ?_
        refine Jq.thenN ?_
        refine Jc.region ?_
        refine Jl.pv (PR.add ((k + 1 : Nat) : Int) rfl rfl (by rw [w64 (by omega) (by omega)]; rfl)) ?_
        refine Jl.pv (PR.move rfl) ?_
        refine Jl.nil ?_
        refine Jq.again ⟨k + 1, hlt'⟩ (by simp only; omega) (by exact ⟨rfl, rfl, rfl, rfl, trivial⟩) rfl (by rw [hsc, List.length_append]; exact ⟨(by repeat (first | exact Mem.here | apply Mem.there)), (by repeat (first | exact Mem.here | apply Mem.there)), trivial⟩)
      · refine Jl.on rfl rfl ?_
        refine Jl.pv (PR.not rfl) ?_
        refine Jl.pv (PR.pickT rfl rfl) ?_
        refine Jl.nil ?_
        refine Jq.thenN ?_
        refine Jc.condT rfl ?_
        refine Jc.ret ?_
        refine Jq.blkR ?_
        refine Jq.thenR ?_
        refine Jq.thenR ?_
        refine Jq.blkR ?_
        exact Jq.itStop (.inl rfl) hs1 (by repeat (first | exact Mem.here | apply Mem.there))
    · try replace g14 := of_decide_eq_false g14
      refine Jl.off rfl rfl rfl rfl ?_
      refine Jl.off rfl rfl rfl rfl ?_
      refine Jl.off rfl rfl rfl rfl ?_
      refine Jl.off rfl rfl rfl rfl ?_
      refine Jl.pv (PR.pickF rfl rfl) ?_
      refine Jl.nil ?_
      refine Jq.thenN ?_
      refine Jc.condF rfl ?_
      refine Jc.skip ?_
      refine Jq.blkN ?_
      refine Jq.thenN ?_
      refine Jc.region ?_
      refine Jl.pv (PR.add ((k + 1 : Nat) : Int) rfl rfl (by rw [w64 (by omega) (by omega)]; rfl)) ?_
      refine Jl.pv (PR.move rfl) ?_
      refine Jl.nil ?_
      refine Jq.again ⟨k + 1, hlt'⟩ (by simp only; omega) (by exact ⟨rfl, rfl, rfl, rfl, trivial⟩) rfl (by rw [hsc, if_neg (by omega), List.append_nil]; exact ⟨(by repeat (first | exact Mem.here | apply Mem.there)), (by repeat (first | exact Mem.here | apply Mem.there)), trivial⟩)
  · try replace hlt := of_decide_eq_false hlt
    refine Jc.exit ?_
    refine Jq.thenX ?_
    refine Jq.thenX ?_
    refine Jq.blkX ?_
    rw [show zs.take k = zs from List.take_of_length_le (by omega)]; exact Jq.itDone (.inr rfl) (by repeat (first | exact Mem.here | apply Mem.there))
theorem parts_ct (L : Option Addr) (n cL : Nat) : Ct Try.prog 34 [.slice L n cL] [] [] (fun b : Nat => .func (.func 36) #[] #[.pointer (some ⟨b, 0, none⟩)]) (fun b => [.blk b 25 [.slice L n cL]]) (fun _ => []) := by
  refine Ct.of _ Try.func34 Try.ntmps34 rfl rfl (fun X W => ?_)
  refine Jc.seq ?_
  refine Jc.region ?_
  refine Jl.box rfl (by rfl) ?_
  intro b1
  refine Jl.pv (PR.assign rfl) ?_
  refine Jl.nil ?_
  refine Jq.thenN ?_
  refine Jc.seq ?_
  refine Jc.region ?_
  refine Jl.pv (PR.makeFunc rfl rfl) ?_
  refine Jl.pv (PR.assign rfl) ?_
  refine Jl.nil ?_
  refine Jq.thenN ?_
  refine Jc.ret ?_
  exact Jq.fin b1 (.inl rfl) rfl (RetVs.tmp rfl RetVs.nil) rfl (by repeat (first | exact Take.nil | apply Take.cons (by repeat (first | exact Del.here | apply Del.there)))) (by repeat (first | exact trivial | refine And.intro (by repeat (first | exact Mem.here | apply Mem.there)) ?_))
/-- The bytes of the first k parts that are some. -/
def pre (zs : Ps) (k : Nat) : List UInt8 := flat ((solid zs).take k)
theorem pre_all (zs : Ps) : pre zs (solid zs).length = flat zs := by rw [pre, List.take_length, solid_flat]
theorem pre_len (zs : Ps) (k : Nat) : (pre zs k).length ≤ (flat zs).length := by rw [← solid_flat]; exact flat_le _ _
theorem pre_succ {zs : Ps} {k : Nat} {z : OAd × List UInt8} (h : (solid zs)[k]? = some z) : pre zs (k + 1) = pre zs k ++ z.2 := by
  obtain ⟨hk, rfl⟩ := List.getElem?_eq_some_iff.1 h
  exact flat_take hk
def errK (zs : Ps) (r : Int) (k : Nat) : Int := if ((pre zs k).length : Int) ≤ r then 0 else 30
theorem put_fit (A L : Option Addr) (c cL : Nat) (d : Dk) (safe : Int) (zs : Ps) (hr : 0 ≤ d.r) (hn : zs.length ≤ 1000) (hf : (flat zs).length ≤ 1000000) (hfit : ((flat zs).length : Int) ≤ d.r) :
    Ct Try.prog 29 [d.v (A, c), .int .i64 safe, .slice L zs.length cL] [] [.rd L (psv zs), .ps zs] (fun x : OAd => .tuple #[.agg #[.slice x.1 (flat zs).length x.2, .int .i64 safe, .int .i64 d.r], .int .i64 0]) (fun x => [.row 5 1 (.slice x.1 (flat zs).length x.2) (flat zs).length (u8s (flat zs))]) (fun _ => []) := by
  have hsl := solid_len zs
  refine Ct.of _ Try.func29 Try.ntmps29 rfl rfl (fun X W => ?_)
  refine Jc.seq ?_
  refine Jc.region ?_
  refine Jl.box rfl (by rfl) ?_
  intro b3
  refine Jl.alloc tze24 ?_
  intro b6
  refine Jl.alloc tze30 ?_
  intro b7
  refine Jl.nil ?_
  refine Jq.thenN ?_
  refine Jc.scopeN (σ := { _u : Unit // ¬ ((flat zs).length : Int) ≤ d.r } × Nat × OAd) (fun s => (31, [s.2.1])) (fun _ => [(3, .pointer (some ⟨b3, 0, none⟩)), (6, .pointer (some ⟨b6, 0, none⟩)), (7, .pointer (some ⟨b7, 0, none⟩))]) (fun s => [.mark s.2.1, .row 5 1 (.slice s.2.2.1 (flat zs).length s.2.2.2) (flat zs).length (u8s (flat zs)), .blk b7 30 [.int .i64 30], .blk b6 24 [.slice s.2.2.1 (flat zs).length s.2.2.2, .int .i64 safe, .int .i64 d.r], .blk b3 24 [.slice A d.b.length c, .int .i64 d.s, .int .i64 d.r]]) (fun _ => []) (fun _ => 0) (l := 0) rfl ?_ ?_
  · rintro ⟨⟨_, hno⟩, D0, A', c'⟩
    exact absurd hfit hno
  · intro hfirst0
    refine Jc.seq ?_
    refine Jc.region ?_
    refine Jl.pv (PR.move rfl) ?_
    refine Jl.pv (PR.fieldAddr rfl tfl24_2) ?_
    refine Jl.pv (PR.load1 rfl tsh3 (by repeat (first | exact Has.here | apply Has.there)) (by rfl)) ?_
    refine Jl.pv (PR.build (by rfl) tze24 tpl24_1_2 (by rfl)) ?_
    refine Jl.storeW rfl tsh24 rfl (by rfl) (by simp [Value.oneCell']) (by repeat (first | exact Swap.here | apply Swap.there)) (by rfl) ?_
    refine Jl.nil ?_
    refine Jq.thenN ?_
    refine Jc.seq ?_
    refine Jc.seq ?_
    refine Jc.region ?_
    refine Jl.pv (PR.move rfl) ?_
    refine Jl.call (parts_ct L zs.length cL) en34 (by rfl) (by repeat (first | exact Take.nil | apply Take.cons (by repeat (first | exact Del.here | apply Del.there)))) (by repeat (first | exact trivial | refine And.intro (by repeat (first | exact Mem.here | apply Mem.there)) ?_)) ?_
    rintro b14
    refine Jl.nil ?_
    refine Jq.thenN ?_
    refine Jc.block ?_
    refine Jc.nilRow 5 1 ?_
    refine Jc.range (σ := (k : Nat) × OAd) (τ := Empty) (Inv := fun k s => s.1 = k) (Rs := fun s => [.row 5 1 (.slice s.2.1 (pre zs s.1).length s.2.2) (pre zs s.1).length (u8s (pre zs s.1)), .blk b7 30 [.int .i64 (errK zs d.r s.1)], .blk b6 24 [.slice s.2.1 (pre zs s.1).length s.2.2, .int .i64 safe, .int .i64 d.r], .blk b3 24 [.slice A d.b.length c, .int .i64 d.s, .int .i64 d.r]]) (Φs := fun _ => [.ps zs]) (InvX := fun _ _ _ => False) (RsX := fun _ => []) (ΦsX := fun _ => []) (vals := pvals zs) rfl en36 (parts1_it L cL b14 zs (by omega)) (by repeat (first | exact Take.nil | apply Take.cons (by repeat (first | exact Del.here | apply Del.there)))) (by repeat (first | exact trivial | refine And.intro (by repeat (first | exact Mem.here | apply Mem.there)) ?_)) (fun k => by unfold pvals; split <;> rfl) rfl ⟨0, none, 0⟩ rfl (by simp [pre, flat, errK, hr, u8s]) (by exact ⟨(by repeat (first | exact Mem.here | apply Mem.there)), trivial⟩) ?_ ?_ ?_
    · rintro k ⟨j, A', c'⟩ hk hj l C1
      obtain rfl : k = j := hj.symm
      obtain ⟨z, hz⟩ : ∃ z, (solid zs)[k]? = some z := ⟨_, List.getElem?_eq_getElem hk⟩
      have hzm : z ∈ zs := (solid_mem (List.mem_of_getElem? hz)).1
      have hps := pre_succ hz
      have hpl := pre_len zs (k + 1)
      have hpll : (pre zs (k + 1)).length = (pre zs k).length + z.2.length := by rw [hps, List.length_append]
      rw [show pvals zs k = [.slice z.1.1 z.2.length z.1.2] by simp [pvals, hz]]
      show Jc _ _ _ _ _ _ (psetL [15] [.slice z.1.1 z.2.length z.1.2] _) [.row 5 1 (.slice A' (pre zs k).length c') (pre zs k).length (u8s (pre zs k)), .blk b7 30 [.int .i64 (errK zs d.r k)], .blk b6 24 [.slice A' (pre zs k).length c', .int .i64 safe, .int .i64 d.r], .blk b3 24 [.slice A d.b.length c, .int .i64 d.s, .int .i64 d.r]] [.ps zs]
      refine Jc.fact (.rd z.1.1 (u8s z.2)) (φ := .ps zs) (by repeat (first | exact Mem.here | apply Mem.there)) (fun X W h => h z hzm) ?_
      refine Jc.region ?_
      refine Jl.pv (PR.assign rfl) ?_
      refine Jl.nil ?_
      refine Jq.assigned (fun C2 => ?_)
      refine Jc.block ?_
      refine Jc.seq ?_
      refine Jc.region ?_
      refine Jl.pv (PR.fieldAddr rfl tfl24_0) ?_
      refine Jl.pv (PR.load1 rfl tsh22 (by repeat (first | exact Has.here | apply Has.there)) (by rfl)) ?_
      refine Jl.pv (PR.move rfl) ?_
      refine Jl.append (pre zs (k + 1)).length (u8s (pre zs (k + 1))) rfl rfl rfl tsl22 tze5 (by rfl) (by decide) tby5 (fun _ _ => (by repeat (first | exact Swap.here | apply Swap.there))) (by repeat (first | exact Mem.here | apply Mem.there)) (by omega) (by rw [hps]; simp [u8s]) (by simp [u8s]) (u8s_one _) (by omega) (by decide) ?_
      intro A19 c19
      refine Jl.pv (PR.fieldAddr rfl tfl24_0) ?_
      refine Jl.store1 rfl tsh22 rfl (by rfl) (by repeat (first | exact Swap.here | apply Swap.there)) (by rfl) ?_
      refine Jl.nil ?_
      refine Jq.thenN ?_
      refine Jc.seq ?_
      refine Jc.region ?_
      refine Jl.pv (PR.fieldAddr rfl tfl24_0) ?_
      refine Jl.pv (PR.load1 rfl tsh22 (by repeat (first | exact Has.here | apply Has.there)) (by rfl)) ?_
      refine Jl.pv (PR.len rfl tsl22) ?_
      refine Jl.pv (PR.fieldAddr rfl tfl24_2) ?_
      refine Jl.pv (PR.load1 rfl tsh3 (by repeat (first | exact Has.here | apply Has.there)) (by rfl)) ?_
      refine Jl.pv (PR.gtr _ rfl rfl rfl) ?_
      refine Jl.nil ?_
      refine Jq.thenN ?_
      refine Jc.cond rfl (fun hgt => ?_) (fun hgt => ?_)
      · try replace hgt := of_decide_eq_true hgt
        have he1 : errK zs d.r (k + 1) = 30 := if_neg (by omega)
        refine Jc.region ?_
        refine Jl.store1 rfl tsh30 rfl (by rfl) (by repeat (first | exact Swap.here | apply Swap.there)) (by rfl) ?_
        refine Jl.nil ?_
        refine Jq.blkN ?_
        exact Jq.next ⟨k + 1, A19, c19⟩ rfl (by simp only [he1]) (by exact ⟨(by repeat (first | exact Mem.here | apply Mem.there)), trivial⟩)
      · try replace hgt := of_decide_eq_false hgt
        have he1 : errK zs d.r (k + 1) = errK zs d.r k := by rw [errK, errK, if_pos (by omega), if_pos (by omega)]
        refine Jc.skip ?_
        refine Jq.blkN ?_
        exact Jq.next ⟨k + 1, A19, c19⟩ rfl (by simp only [he1]) (by exact ⟨(by repeat (first | exact Mem.here | apply Mem.there)), trivial⟩)
    · rintro ⟨j, A', c'⟩ D0 hj
      obtain rfl : j = (solid zs).length := hj
      have hek : errK zs d.r (solid zs).length = 0 := by rw [errK, pre_all, if_pos hfit]
      show Jq _ _ _ .normal _ [.mark D0, .row 5 1 (.slice A' (pre zs (solid zs).length).length c') (pre zs (solid zs).length).length (u8s (pre zs (solid zs).length)), .blk b7 30 [.int .i64 (errK zs d.r (solid zs).length)], .blk b6 24 [.slice A' (pre zs (solid zs).length).length c', .int .i64 safe, .int .i64 d.r], .blk b3 24 [.slice A d.b.length c, .int .i64 d.s, .int .i64 d.r]] [.ps zs]
      rw [pre_all, hek]
      refine Jq.blkN ?_
      refine Jq.thenN ?_
      refine Jc.seq ?_
      refine Jc.seq ?_
      refine Jc.region ?_
      refine Jl.pv (PR.load1 rfl tsh30 (by repeat (first | exact Has.here | apply Has.there)) (by rfl)) ?_
      refine Jl.pv (PR.neq false rfl rfl rfl) ?_
      refine Jl.nil ?_
      refine Jq.thenN ?_
      refine Jc.condF rfl ?_
      refine Jc.skip ?_
      refine Jq.thenN ?_
      refine Jc.seq ?_
      refine Jc.seq ?_
      refine Jc.region ?_
      refine Jl.pv (PR.loadW rfl tsh24 (by repeat (first | exact Has.here | apply Has.there)) (by rfl)) ?_
      refine Jl.storeW rfl tsh24 rfl (by rfl) (by simp [Value.oneCell']) (by repeat (first | exact Swap.here | apply Swap.there)) (by rfl) ?_
      refine Jl.store1 rfl tsh30 rfl (by rfl) (by repeat (first | exact Swap.here | apply Swap.there)) (by rfl) ?_
      refine Jl.nil ?_
      refine Jq.thenN ?_
      refine Jc.ret ?_
      refine Jq.thenR ?_
      refine Jq.jmpR ?_
      exact Jq.finM (Ds := [D0]) (A', c') (.inl rfl) rfl (by repeat (first | exact Take.nil | apply Take.cons (by repeat (first | exact Del.here | apply Del.there)))) (RetVs.cellA rfl (by repeat (first | exact Has.here | apply Has.there)) tsh24 (by rfl) (RetVs.cell1 rfl (by repeat (first | exact Has.here | apply Has.there)) tsh30 (by rfl) RetVs.nil)) rfl (by repeat (first | exact Take.nil | apply Take.cons (by repeat (first | exact Del.here | apply Del.there)))) (by repeat (first | exact trivial | refine And.intro (by repeat (first | exact Mem.here | apply Mem.there)) ?_))
    · exact fun _ _ t => t.elim
theorem put_full (A L : Option Addr) (c cL : Nat) (d : Dk) (safe : Int) (zs : Ps) (hr : 0 ≤ d.r) (hn : zs.length ≤ 1000) (hf : (flat zs).length ≤ 1000000) (hfit : ¬ ((flat zs).length : Int) ≤ d.r) :
    Ct Try.prog 29 [d.v (A, c), .int .i64 safe, .slice L zs.length cL] [] [.rd L (psv zs), .ps zs] (fun _ : Unit => .tuple #[d.v (A, c), .int .i64 30]) (fun _ => []) (fun _ => []) := by
  have hsl := solid_len zs
  refine Ct.of _ Try.func29 Try.ntmps29 rfl rfl (fun X W => ?_)
  refine Jc.seq ?_
  refine Jc.region ?_
  refine Jl.box rfl (by rfl) ?_
  intro b3
  refine Jl.alloc tze24 ?_
  intro b6
  refine Jl.alloc tze30 ?_
  intro b7
  refine Jl.nil ?_
  refine Jq.thenN ?_
  refine Jc.scopeN (σ := { _u : Unit // ¬ ((flat zs).length : Int) ≤ d.r } × Nat × OAd) (fun s => (31, [s.2.1])) (fun _ => [(3, .pointer (some ⟨b3, 0, none⟩)), (6, .pointer (some ⟨b6, 0, none⟩)), (7, .pointer (some ⟨b7, 0, none⟩))]) (fun s => [.mark s.2.1, .row 5 1 (.slice s.2.2.1 (flat zs).length s.2.2.2) (flat zs).length (u8s (flat zs)), .blk b7 30 [.int .i64 30], .blk b6 24 [.slice s.2.2.1 (flat zs).length s.2.2.2, .int .i64 safe, .int .i64 d.r], .blk b3 24 [.slice A d.b.length c, .int .i64 d.s, .int .i64 d.r]]) (fun _ => []) (fun _ => 0) (l := 0) rfl ?_ ?_
  · rintro ⟨⟨_, hno⟩, D0, A', c'⟩
    refine Jc.seq ?_
    refine Jc.region ?_
    refine Jl.pv (PR.loadW rfl tsh24 (by repeat (first | exact Has.here | apply Has.there)) (by rfl)) ?_
    refine Jl.storeW rfl tsh24 rfl (by rfl) (by simp [Value.oneCell']) (by repeat (first | exact Swap.here | apply Swap.there)) (by rfl) ?_
    refine Jl.store1 rfl tsh30 rfl (by rfl) (by repeat (first | exact Swap.here | apply Swap.there)) (by rfl) ?_
    refine Jl.nil ?_
    refine Jq.thenN ?_
    refine Jc.ret ?_
    refine Jq.jmpR ?_
    exact Jq.finM (Ds := [D0]) () (.inl rfl) rfl (by repeat (first | exact Take.nil | apply Take.cons (by repeat (first | exact Del.here | apply Del.there)))) (RetVs.cellA rfl (by repeat (first | exact Has.here | apply Has.there)) tsh24 (by rfl) (RetVs.cell1 rfl (by repeat (first | exact Has.here | apply Has.there)) tsh30 (by rfl) RetVs.nil)) rfl (by repeat (first | exact Take.nil | apply Take.cons (by repeat (first | exact Del.here | apply Del.there)))) (by repeat (first | exact trivial | refine And.intro (by repeat (first | exact Mem.here | apply Mem.there)) ?_))
  · intro hfirst0
    refine Jc.seq ?_
    refine Jc.region ?_
    refine Jl.pv (PR.move rfl) ?_
    refine Jl.pv (PR.fieldAddr rfl tfl24_2) ?_
    refine Jl.pv (PR.load1 rfl tsh3 (by repeat (first | exact Has.here | apply Has.there)) (by rfl)) ?_
    refine Jl.pv (PR.build (by rfl) tze24 tpl24_1_2 (by rfl)) ?_
    refine Jl.storeW rfl tsh24 rfl (by rfl) (by simp [Value.oneCell']) (by repeat (first | exact Swap.here | apply Swap.there)) (by rfl) ?_
    refine Jl.nil ?_
    refine Jq.thenN ?_
    refine Jc.seq ?_
    refine Jc.seq ?_
    refine Jc.region ?_
    refine Jl.pv (PR.move rfl) ?_
    refine Jl.call (parts_ct L zs.length cL) en34 (by rfl) (by repeat (first | exact Take.nil | apply Take.cons (by repeat (first | exact Del.here | apply Del.there)))) (by repeat (first | exact trivial | refine And.intro (by repeat (first | exact Mem.here | apply Mem.there)) ?_)) ?_
    rintro b14
    refine Jl.nil ?_
    refine Jq.thenN ?_
    refine Jc.block ?_
    refine Jc.nilRow 5 1 ?_
    refine Jc.range (σ := (k : Nat) × OAd) (τ := Empty) (Inv := fun k s => s.1 = k) (Rs := fun s => [.row 5 1 (.slice s.2.1 (pre zs s.1).length s.2.2) (pre zs s.1).length (u8s (pre zs s.1)), .blk b7 30 [.int .i64 (errK zs d.r s.1)], .blk b6 24 [.slice s.2.1 (pre zs s.1).length s.2.2, .int .i64 safe, .int .i64 d.r], .blk b3 24 [.slice A d.b.length c, .int .i64 d.s, .int .i64 d.r]]) (Φs := fun _ => [.ps zs]) (InvX := fun _ _ _ => False) (RsX := fun _ => []) (ΦsX := fun _ => []) (vals := pvals zs) rfl en36 (parts1_it L cL b14 zs (by omega)) (by repeat (first | exact Take.nil | apply Take.cons (by repeat (first | exact Del.here | apply Del.there)))) (by repeat (first | exact trivial | refine And.intro (by repeat (first | exact Mem.here | apply Mem.there)) ?_)) (fun k => by unfold pvals; split <;> rfl) rfl ⟨0, none, 0⟩ rfl (by simp [pre, flat, errK, hr, u8s]) (by exact ⟨(by repeat (first | exact Mem.here | apply Mem.there)), trivial⟩) ?_ ?_ ?_
    · rintro k ⟨j, A', c'⟩ hk hj l C1
      obtain rfl : k = j := hj.symm
      obtain ⟨z, hz⟩ : ∃ z, (solid zs)[k]? = some z := ⟨_, List.getElem?_eq_getElem hk⟩
      have hzm : z ∈ zs := (solid_mem (List.mem_of_getElem? hz)).1
      have hps := pre_succ hz
      have hpl := pre_len zs (k + 1)
      have hpll : (pre zs (k + 1)).length = (pre zs k).length + z.2.length := by rw [hps, List.length_append]
      rw [show pvals zs k = [.slice z.1.1 z.2.length z.1.2] by simp [pvals, hz]]
      show Jc _ _ _ _ _ _ (psetL [15] [.slice z.1.1 z.2.length z.1.2] _) [.row 5 1 (.slice A' (pre zs k).length c') (pre zs k).length (u8s (pre zs k)), .blk b7 30 [.int .i64 (errK zs d.r k)], .blk b6 24 [.slice A' (pre zs k).length c', .int .i64 safe, .int .i64 d.r], .blk b3 24 [.slice A d.b.length c, .int .i64 d.s, .int .i64 d.r]] [.ps zs]
      refine Jc.fact (.rd z.1.1 (u8s z.2)) (φ := .ps zs) (by repeat (first | exact Mem.here | apply Mem.there)) (fun X W h => h z hzm) ?_
      refine Jc.region ?_
      refine Jl.pv (PR.assign rfl) ?_
      refine Jl.nil ?_
      refine Jq.assigned (fun C2 => ?_)
      refine Jc.block ?_
      refine Jc.seq ?_
      refine Jc.region ?_
      refine Jl.pv (PR.fieldAddr rfl tfl24_0) ?_
      refine Jl.pv (PR.load1 rfl tsh22 (by repeat (first | exact Has.here | apply Has.there)) (by rfl)) ?_
      refine Jl.pv (PR.move rfl) ?_
      refine Jl.append (pre zs (k + 1)).length (u8s (pre zs (k + 1))) rfl rfl rfl tsl22 tze5 (by rfl) (by decide) tby5 (fun _ _ => (by repeat (first | exact Swap.here | apply Swap.there))) (by repeat (first | exact Mem.here | apply Mem.there)) (by omega) (by rw [hps]; simp [u8s]) (by simp [u8s]) (u8s_one _) (by omega) (by decide) ?_
      intro A19 c19
      refine Jl.pv (PR.fieldAddr rfl tfl24_0) ?_
      refine Jl.store1 rfl tsh22 rfl (by rfl) (by repeat (first | exact Swap.here | apply Swap.there)) (by rfl) ?_
      refine Jl.nil ?_
      refine Jq.thenN ?_
      refine Jc.seq ?_
      refine Jc.region ?_
      refine Jl.pv (PR.fieldAddr rfl tfl24_0) ?_
      refine Jl.pv (PR.load1 rfl tsh22 (by repeat (first | exact Has.here | apply Has.there)) (by rfl)) ?_
      refine Jl.pv (PR.len rfl tsl22) ?_
      refine Jl.pv (PR.fieldAddr rfl tfl24_2) ?_
      refine Jl.pv (PR.load1 rfl tsh3 (by repeat (first | exact Has.here | apply Has.there)) (by rfl)) ?_
      refine Jl.pv (PR.gtr _ rfl rfl rfl) ?_
      refine Jl.nil ?_
      refine Jq.thenN ?_
      refine Jc.cond rfl (fun hgt => ?_) (fun hgt => ?_)
      · try replace hgt := of_decide_eq_true hgt
        have he1 : errK zs d.r (k + 1) = 30 := if_neg (by omega)
        refine Jc.region ?_
        refine Jl.store1 rfl tsh30 rfl (by rfl) (by repeat (first | exact Swap.here | apply Swap.there)) (by rfl) ?_
        refine Jl.nil ?_
        refine Jq.blkN ?_
        exact Jq.next ⟨k + 1, A19, c19⟩ rfl (by simp only [he1]) (by exact ⟨(by repeat (first | exact Mem.here | apply Mem.there)), trivial⟩)
      · try replace hgt := of_decide_eq_false hgt
        have he1 : errK zs d.r (k + 1) = errK zs d.r k := by rw [errK, errK, if_pos (by omega), if_pos (by omega)]
        refine Jc.skip ?_
        refine Jq.blkN ?_
        exact Jq.next ⟨k + 1, A19, c19⟩ rfl (by simp only [he1]) (by exact ⟨(by repeat (first | exact Mem.here | apply Mem.there)), trivial⟩)
    · rintro ⟨j, A', c'⟩ D0 hj
      obtain rfl : j = (solid zs).length := hj
      have hek : errK zs d.r (solid zs).length = 30 := by rw [errK, pre_all, if_neg hfit]
      show Jq _ _ _ .normal _ [.mark D0, .row 5 1 (.slice A' (pre zs (solid zs).length).length c') (pre zs (solid zs).length).length (u8s (pre zs (solid zs).length)), .blk b7 30 [.int .i64 (errK zs d.r (solid zs).length)], .blk b6 24 [.slice A' (pre zs (solid zs).length).length c', .int .i64 safe, .int .i64 d.r], .blk b3 24 [.slice A d.b.length c, .int .i64 d.s, .int .i64 d.r]] [.ps zs]
      rw [pre_all, hek]
      refine Jq.blkN ?_
      refine Jq.thenN ?_
      refine Jc.seq ?_
      refine Jc.seq ?_
      refine Jc.region ?_
      refine Jl.pv (PR.load1 rfl tsh30 (by repeat (first | exact Has.here | apply Has.there)) (by rfl)) ?_
      refine Jl.pv (PR.neq true rfl rfl rfl) ?_
      refine Jl.nil ?_
      refine Jq.thenN ?_
      refine Jc.condT rfl ?_
      refine Jc.goto ?_
      refine Jq.thenG ?_
      exact Jq.jmpAN (⟨(), hfit⟩, D0, (A', c')) rfl (by exact ⟨rfl, rfl, rfl, trivial⟩) rfl trivial
    · exact fun _ _ t => t.elim
end Go.Proofs.Ythlmleemapeohaa
