/-
The law FrameHarm.
-/
import Derived.Test.YtnkekjhijkfckaaFrameE
import Derived.Test.YtnkekjhijkfckaaFrameQ
import Derived.Test.YtnkekjhijkfckaaJw
namespace Go.Proofs.Ytnkekjhijkfckaa
open Go.RowKit
attribute [local irreducible] Res.blk Res.row Fact.rd
theorem tmod_bd (a : Int) (n : Nat) (hn : 0 < n) : -(n : Int) < a.tmod n ∧ a.tmod n < n := ⟨Int.lt_tmod_of_pos a (by omega), Int.tmod_lt_of_pos a (by omega)⟩
theorem tmod2 (a : Int) (n : Nat) (hn : 0 < n) : ∃ j : Nat, (a.tmod n + n).tmod n = (j : Int) ∧ j < n := by
  obtain ⟨h1, h2⟩ := tmod_bd a n hn
  have h3 := Int.tmod_nonneg (n : Int) (show 0 ≤ a.tmod n + n by omega)
  have h4 := Int.tmod_lt_of_pos (a.tmod n + n) (show 0 < (n : Int) by omega)
  exact ⟨((a.tmod n + n).tmod n).toNat, by omega, by omega⟩
theorem xorU8 (x y : UInt8) : IntKind.u8.wrap ((BitVec.ofInt IntKind.u8.bits (x.toNat : Int) ^^^ BitVec.ofInt IntKind.u8.bits (y.toNat : Int)).toNat : Int) = ((x ^^^ y).toNat : Int) := by
  have e : (BitVec.ofInt IntKind.u8.bits (x.toNat : Int) ^^^ BitVec.ofInt IntKind.u8.bits (y.toNat : Int)).toNat = (x ^^^ y).toNat := by
    show (BitVec.ofInt 8 (x.toNat : Int) ^^^ BitVec.ofInt 8 (y.toNat : Int)).toNat = _
    rw [BitVec.ofInt_natCast, BitVec.ofInt_natCast]
    simp [BitVec.toNat_xor]
  rw [e, IntKind.wrap_u8]
  have := UInt8.toNat_lt (x ^^^ y)
  omega
theorem xor_ne {x y : UInt8} (h : y ≠ 0) : x ^^^ y ≠ x := fun e => h (by
  have := congrArg (x ^^^ ·) e
  simpa [← UInt8.xor_assoc] using this)
theorem u8s_set (l : List UInt8) (k : Nat) (v : UInt8) : (u8s l).set k (.int .u8 v.toNat) = u8s (l.set k v) := by simp [u8s, List.map_set]
theorem harm_none {p : List UInt8} {hd j : Nat} {y b : UInt8} (hp : p.length ≤ 200) (hhd : (putB p.length).length = hd) (hj : j < p.length + 4) (hy : (frameB p)[hd + j]? = some y) (hb : b ≠ 0) : cutF ((frameB p).set (hd + j) (y ^^^ b)) = none := by
  subst hhd
  have hfj : (p ++ sumB (sumN p))[j]? = some y := by
    rw [frameB, List.append_assoc, List.getElem?_append_right (by omega)] at hy
    simpa using hy
  exact cutF_harm (by omega) hj (by rw [hfj]; intro e; exact xor_ne hb (Option.some.inj e).symm)
theorem frameHarm_ct (A : Option Addr) (c : Nat) (p : List UInt8) (at_ : Int) (b : UInt8) :
    Ct Try.prog 6 [.slice A p.length c, .int .i64 at_, .int .u8 b.toNat] [] [.rd A (u8s p)] (fun _ : Unit => .bool true) (fun _ => []) (fun _ => []) := by
  have hb := UInt8.toNat_lt b
  have hfl : (frameB p).length = (putB p.length).length + p.length + 4 := by simp [frameB, sumB]; omega
  have hpb := putB_len (p.length : Int)
  have hpb0 := List.length_pos_iff.2 (putB_ne (p.length : Int))
  obtain ⟨hd, hhd⟩ : ∃ hd, (putB p.length).length = hd := ⟨_, rfl⟩
  rw [hhd] at hpb hpb0 hfl
  obtain ⟨j, hj, hjl⟩ := tmod2 at_ (p.length + 4) (by omega)
  have hbd := tmod_bd at_ (p.length + 4) (by omega)
  have hxl : hd + j < (frameB p).length := by omega
  obtain ⟨y, hy⟩ : ∃ y, (frameB p)[hd + j]? = some y := ⟨_, List.getElem?_eq_getElem hxl⟩
  refine Ct.of _ Try.func6 Try.ntmps6 rfl rfl (fun X W => ?_)
  refine Jc.seq ?_
  refine Jc.region ?_
  refine Jl.pv (PR.assign rfl) ?_
  refine Jl.nil ?_
  refine Jq.thenN ?_
  refine Jc.seq ?_
  refine Jc.seq ?_
  refine Jc.region ?_
  refine Jl.pv (PR.move rfl) ?_
  refine Jl.pv (PR.len rfl tsl22) ?_
  refine Jl.pv (PR.gtr _ rfl rfl rfl) ?_
  refine Jl.pv (PR.move rfl) ?_
  refine Jl.bsplit (fun g19 => ?_) (fun g19 => ?_)
  · try replace g19 := of_decide_eq_true g19
    refine Jl.off rfl rfl rfl rfl ?_
    refine Jl.off rfl rfl rfl rfl ?_
    refine Jl.pv (PR.pickT rfl rfl) ?_
    refine Jl.nil ?_
    refine Jq.thenN ?_
    refine Jc.condT rfl ?_
    refine Jc.seq ?_
    refine Jc.region ?_
    refine Jl.call fwakes_ct en8 (by rfl) (by repeat (first | exact Take.nil | apply Take.cons (by repeat (first | exact Del.here | apply Del.there)))) (by repeat (first | exact trivial | refine And.intro (by repeat (first | exact Mem.here | apply Mem.there)) ?_)) ?_
    rintro ⟨⟩
    refine Jl.pv (PR.assign rfl) ?_
    refine Jl.nil ?_
    refine Jq.thenN ?_
    refine Jc.ret ?_
    refine Jq.thenR ?_
    exact Jq.fin () (.inl rfl) rfl (RetVs.tmp rfl RetVs.nil) rfl (by repeat (first | exact Take.nil | apply Take.cons (by repeat (first | exact Del.here | apply Del.there)))) (by repeat (first | exact trivial | refine And.intro (by repeat (first | exact Mem.here | apply Mem.there)) ?_))
  · try replace g19 := of_decide_eq_false g19
    refine Jl.on rfl rfl ?_
    refine Jl.pv (PR.move rfl) ?_
    refine Jl.on rfl rfl ?_
    refine Jl.pv (PR.eql _ rfl rfl rfl) ?_
    refine Jl.pv (PR.pickF rfl rfl) ?_
    refine Jl.nil ?_
    refine Jq.thenN ?_
    refine Jc.cond rfl (fun h0 => ?_) (fun h0 => ?_)
    · try replace h0 := of_decide_eq_true h0
      refine Jc.seq ?_
      refine Jc.region ?_
      refine Jl.call fwakes_ct en8 (by rfl) (by repeat (first | exact Take.nil | apply Take.cons (by repeat (first | exact Del.here | apply Del.there)))) (by repeat (first | exact trivial | refine And.intro (by repeat (first | exact Mem.here | apply Mem.there)) ?_)) ?_
      rintro ⟨⟩
      refine Jl.pv (PR.assign rfl) ?_
      refine Jl.nil ?_
      refine Jq.thenN ?_
      refine Jc.ret ?_
      refine Jq.thenR ?_
      exact Jq.fin () (.inl rfl) rfl (RetVs.tmp rfl RetVs.nil) rfl (by repeat (first | exact Take.nil | apply Take.cons (by repeat (first | exact Del.here | apply Del.there)))) (by repeat (first | exact trivial | refine And.intro (by repeat (first | exact Mem.here | apply Mem.there)) ?_))
    · try replace h0 := of_decide_eq_false h0
      refine Jc.skip ?_
      refine Jq.thenN ?_
      refine Jc.seq ?_
      refine Jc.region ?_
      refine Jl.pv (PR.move rfl) ?_
      refine Jl.call (fput_at (p := p) rfl (by omega) (if_pos (by omega)) (if_pos (by omega))) en9 (by rfl) (by repeat (first | exact Take.nil | apply Take.cons (by repeat (first | exact Del.here | apply Del.there)))) (by repeat (first | exact trivial | refine And.intro (by repeat (first | exact Mem.here | apply Mem.there)) ?_)) ?_
      rintro ⟨A26, c26⟩
      refine Jl.pv (PR.move rfl) ?_
      refine Jl.pv (PR.extract rfl (by rfl)) ?_
      refine Jl.pv (PR.extract rfl (by rfl)) ?_
      refine Jl.pv (PR.assign rfl) ?_
      refine Jl.pv (PR.assign rfl) ?_
      refine Jl.nil ?_
      refine Jq.thenN ?_
      refine Jc.seq ?_
      refine Jc.region ?_
      refine Jl.pv (PR.move rfl) ?_
      refine Jl.pv (PR.len rfl tsl22) ?_
      refine Jl.pv (PR.move rfl) ?_
      refine Jl.pv (PR.len rfl tsl22) ?_
      refine Jl.pv (PR.sub _ rfl rfl (w64 (by omega) (by omega))) ?_
      refine Jl.pv (PR.sub ((hd : Nat) : Int) rfl rfl (by rw [w64 (by omega) (by omega)]; omega)) ?_
      refine Jl.pv (PR.assign rfl) ?_
      refine Jl.nil ?_
      refine Jq.thenN ?_
      refine Jc.seq ?_
      refine Jc.seq ?_
      refine Jc.region ?_
      refine Jl.pv (PR.move rfl) ?_
      refine Jl.pv (PR.neq false rfl rfl rfl) ?_
      refine Jl.pv (PR.move rfl) ?_
      refine Jl.on rfl rfl ?_
      refine Jl.pv (PR.move rfl) ?_
      refine Jl.on rfl rfl ?_
      refine Jl.pv (PR.len rfl tsl22) ?_
      refine Jl.on rfl rfl ?_
      refine Jl.pv (PR.eql false rfl rfl (decide_eq_false (by omega))) ?_
      refine Jl.pv (PR.pickF rfl rfl) ?_
      refine Jl.pv (PR.move rfl) ?_
      refine Jl.on rfl rfl ?_
      refine Jl.pv (PR.move rfl) ?_
      refine Jl.on rfl rfl ?_
      refine Jl.pv (PR.lss false rfl rfl (decide_eq_false (by omega))) ?_
      refine Jl.pv (PR.pickF rfl rfl) ?_
      refine Jl.nil ?_
      refine Jq.thenN ?_
      refine Jc.condF rfl ?_
      refine Jc.skip ?_
      refine Jq.thenN ?_
      refine Jc.seq ?_
      refine Jc.region ?_
      refine Jl.pv (PR.move rfl) ?_
      refine Jl.pv (PR.len rfl tsl22) ?_
      refine Jl.pv (PR.add ((p.length + 4 : Nat) : Int) rfl rfl (by rw [w64 (by omega) (by omega)]; rfl)) ?_
      refine Jl.pv (PR.assign rfl) ?_
      refine Jl.nil ?_
      refine Jq.thenN ?_
      refine Jc.seq ?_
      refine Jc.region ?_
      refine Jl.pv (PR.move rfl) ?_
      refine Jl.pv (PR.move rfl) ?_
      refine Jl.pv (PR.move rfl) ?_
      refine Jl.pv (PR.rem (at_.tmod ((p.length + 4 : Nat) : Int)) rfl rfl (by omega) rfl) ?_
      refine Jl.pv (PR.move rfl) ?_
      refine Jl.pv (PR.add _ rfl rfl (w64 (by omega) (by omega))) ?_
      refine Jl.pv (PR.move rfl) ?_
      refine Jl.pv (PR.rem (j : Int) rfl rfl (by omega) hj) ?_
      refine Jl.pv (PR.add ((hd + j : Nat) : Int) rfl rfl (by rw [w64 (by omega) (by omega)]; rfl)) ?_
      refine Jl.pv (PR.assign rfl) ?_
      refine Jl.nil ?_
      refine Jq.thenN ?_
      refine Jc.seq ?_
      refine Jc.region ?_
      refine Jl.pv (PR.move rfl) ?_
      refine Jl.pv (PR.move rfl) ?_
      refine Jl.pv (PR.move rfl) ?_
      refine Jl.pv (PR.move rfl) ?_
      refine Jl.pv (PR.idxO1 (hd + j) rfl rfl tsl22 (by repeat (first | exact Del.here | apply Del.there)) rfl hxl) ?_
      refine Jl.pv (PR.loadO rfl tsh5 (by repeat (first | exact Del.here | apply Del.there)) (show (u8s (frameB p))[hd + j]? = some (.int .u8 y.toNat) by simp [u8s, hy])) ?_
      refine Jl.pv (PR.move rfl) ?_
      refine Jl.pv (PR.xor ((y ^^^ b).toNat : Int) rfl rfl (xorU8 _ _)) ?_
      refine Jl.pv (PR.idxO1 (hd + j) rfl rfl tsl22 (by repeat (first | exact Del.here | apply Del.there)) rfl hxl) ?_
      refine Jl.storeO rfl tsh5 rfl (by rfl) (by repeat (first | exact Swap.here | apply Swap.there)) (by simp [u8s]; omega) (u8s_set _ _ _) ?_
      refine Jl.nil ?_
      refine Jq.thenN ?_
      refine Jc.seq ?_
      have hb0 : b ≠ 0 := fun e => by subst e; exact h0 rfl
      have hcn := harm_none (by omega) hhd hjl hy hb0
      refine Jc.region ?_
      refine Jl.pv (PR.move rfl) ?_
      refine Jl.sealC (by repeat (first | exact Del.here | apply Del.there)) (fun hc26 => ?_)
      refine Jl.call (ftake_at (b := (frameB p).set (hd + j) (y ^^^ b)) (p := []) (r := []) (e := 40) (by simp) (by omega) hc26 (by simp [takeF, hcn])) en11 (by rfl) (by repeat (first | exact Take.nil | apply Take.cons (by repeat (first | exact Del.here | apply Del.there)))) (by repeat (first | exact trivial | refine And.intro (by repeat (first | exact Mem.here | apply Mem.there)) ?_)) ?_
      rintro ⟨⟨A69, c69⟩, ⟨B69, d69⟩⟩
      refine Jl.pv (PR.move rfl) ?_
      refine Jl.pv (PR.extract rfl (by rfl)) ?_
      refine Jl.pv (PR.extract rfl (by rfl)) ?_
      refine Jl.pv (PR.extract rfl (by rfl)) ?_
      refine Jl.pv (PR.assign rfl) ?_
      refine Jl.pv (PR.assign rfl) ?_
      refine Jl.pv (PR.assign rfl) ?_
      refine Jl.nil ?_
      refine Jq.thenN ?_
      refine Jc.seq ?_
      refine Jc.region ?_
      refine Jl.pv (PR.move rfl) ?_
      refine Jl.call (all_at (b := (frameB p).set (hd + j) (y ^^^ b)) (l := []) (u := 0) (by simp) (by omega) hc26 (by simp [allP, framesN_none hcn]) (by simp [allU, usedN, framesN_none hcn])) en13 (by rfl) (by repeat (first | exact Take.nil | apply Take.cons (by repeat (first | exact Del.here | apply Del.there)))) (by repeat (first | exact trivial | refine And.intro (by repeat (first | exact Mem.here | apply Mem.there)) ?_)) ?_
      rintro ⟨⟨zs75, hz75⟩, ⟨A75, c75⟩⟩
      refine Jl.pv (PR.move rfl) ?_
      refine Jl.pv (PR.extract rfl (by rfl)) ?_
      refine Jl.pv (PR.extract rfl (by rfl)) ?_
      refine Jl.pv (PR.assign rfl) ?_
      refine Jl.pv (PR.assign rfl) ?_
      refine Jl.nil ?_
      refine Jq.thenN ?_
      refine Jc.seq ?_
      refine Jc.region ?_
      refine Jl.pv (PR.move rfl) ?_
      refine Jl.pv (PR.eql true rfl rfl rfl) ?_
      refine Jl.pv (PR.move rfl) ?_
      refine Jl.on rfl rfl ?_
      refine Jl.pv (PR.move rfl) ?_
      refine Jl.on rfl rfl ?_
      refine Jl.pv (PR.len rfl tsl29) ?_
      refine Jl.on rfl rfl ?_
      refine Jl.pv (PR.eql true rfl rfl rfl) ?_
      refine Jl.pv (PR.pickT rfl rfl) ?_
      refine Jl.pv (PR.move rfl) ?_
      refine Jl.on rfl rfl ?_
      refine Jl.pv (PR.move rfl) ?_
      refine Jl.on rfl rfl ?_
      refine Jl.pv (PR.eql true rfl rfl rfl) ?_
      refine Jl.pv (PR.pickT rfl rfl) ?_
      refine Jl.pv (PR.move rfl) ?_
      refine Jl.on rfl rfl ?_
      refine Jl.call fwakes_ct en8 (by rfl) (by repeat (first | exact Take.nil | apply Take.cons (by repeat (first | exact Del.here | apply Del.there)))) (by repeat (first | exact trivial | refine And.intro (by repeat (first | exact Mem.here | apply Mem.there)) ?_)) ?_
      rintro ⟨⟩
      refine Jl.pv (PR.pickT rfl rfl) ?_
      refine Jl.pv (PR.assign rfl) ?_
      refine Jl.nil ?_
      refine Jq.thenN ?_
      refine Jc.ret ?_
      exact Jq.fin () (.inl rfl) rfl (RetVs.tmp rfl RetVs.nil) rfl (by repeat (first | exact Take.nil | apply Take.cons (by repeat (first | exact Del.here | apply Del.there)))) (by repeat (first | exact trivial | refine And.intro (by repeat (first | exact Mem.here | apply Mem.there)) ?_))
end Go.Proofs.Ytnkekjhijkfckaa
