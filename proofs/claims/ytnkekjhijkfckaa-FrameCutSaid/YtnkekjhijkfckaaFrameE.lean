/-
The law FrameSums.
-/
import Derived.Test.YtnkekjhijkfckaaFrameD
namespace Go.Proofs.Ytnkekjhijkfckaa
open Go.RowKit
attribute [local irreducible] Res.blk Res.row Fact.rd
theorem sum_at {A : Option Addr} {c n : Nat} (l : List UInt8) (hl : l.length = n) (hn : n ≤ 1000000) : Ct Try.prog 17 [.slice A n c] [] [.rd A (u8s l)] (fun _ : Unit => .int .u32 (sumN l : Nat)) (fun _ => []) (fun _ => []) := by
  subst hl; exact sum_ct A c l hn
theorem sumN_app (a b c : List UInt8) (h : sumN a = sumN b) : sumN (a ++ c) = sumN (b ++ c) := by simp only [sumN, List.foldl_append] at h ⊢; rw [h]
theorem frameSums_ct (A B D : Option Addr) (ca cb cd : Nat) (a b c : List UInt8) (x y : UInt8) :
    Ct Try.prog 7 [.slice A a.length ca, .slice B b.length cb, .slice D c.length cd, .int .u8 x.toNat, .int .u8 y.toNat] [] [.rd A (u8s a), .rd B (u8s b), .rd D (u8s c)] (fun _ : Unit => .bool true) (fun _ => []) (fun _ => []) := by
  have hx : x.toNat < 256 := UInt8.toNat_lt x
  have hy : y.toNat < 256 := UInt8.toNat_lt y
  refine Ct.of _ Try.func7 Try.ntmps7 rfl rfl (fun X W => ?_)
  refine Jc.seq ?_
  refine Jc.region ?_
  refine Jl.pv (PR.assign rfl) ?_
  refine Jl.nil ?_
  refine Jq.thenN ?_
  refine Jc.seq ?_
  refine Jc.seq ?_
  refine Jc.region ?_
  refine Jl.pv (PR.move rfl) ?_
  refine Jl.pv (PR.len rfl tsl22) ?_
  refine Jl.pv (PR.gtr _ rfl rfl rfl) ?_
  refine Jl.pv (PR.move rfl) ?_
  refine Jl.bsplit (fun g14 => ?_) (fun g14 => ?_)
  · try replace g14 := of_decide_eq_true g14
    refine Jl.off rfl rfl rfl rfl ?_
    refine Jl.off rfl rfl rfl rfl ?_
    refine Jl.off rfl rfl rfl rfl ?_
    refine Jl.pv (PR.pickT rfl rfl) ?_
    refine Jl.pv (PR.move rfl) ?_
    refine Jl.off rfl rfl rfl rfl ?_
    refine Jl.off rfl rfl rfl rfl ?_
    refine Jl.off rfl rfl rfl rfl ?_
    refine Jl.pv (PR.pickT rfl rfl) ?_
    refine Jl.nil ?_
    refine Jq.thenN ?_
    refine Jc.condT rfl ?_
    refine Jc.seq ?_
    refine Jc.region ?_
    refine Jl.call fwakes_ct en8 (by rfl) (by repeat (first | exact Take.nil | apply Take.cons (by repeat (first | exact Del.here | apply Del.there)))) (by repeat (first | exact trivial | refine And.intro (by repeat (first | exact Mem.here | apply Mem.there)) ?_)) ?_
    rintro ⟨⟩
    refine Jl.pv (PR.assign rfl) ?_
    refine Jl.nil ?_
    refine Jq.thenN ?_
    refine Jc.ret ?_
    refine Jq.thenR ?_
    exact Jq.fin () (.inl rfl) rfl (RetVs.tmp rfl RetVs.nil) rfl (by repeat (first | exact Take.nil | apply Take.cons (by repeat (first | exact Del.here | apply Del.there)))) (by repeat (first | exact trivial | refine And.intro (by repeat (first | exact Mem.here | apply Mem.there)) ?_))
  · try replace g14 := of_decide_eq_false g14
    refine Jl.on rfl rfl ?_
    refine Jl.pv (PR.move rfl) ?_
    refine Jl.on rfl rfl ?_
    refine Jl.pv (PR.len rfl tsl22) ?_
    refine Jl.on rfl rfl ?_
    refine Jl.pv (PR.gtr _ rfl rfl rfl) ?_
    refine Jl.pv (PR.pickF rfl rfl) ?_
    refine Jl.pv (PR.move rfl) ?_
    refine Jl.bsplit (fun g19 => ?_) (fun g19 => ?_)
    · try replace g19 := of_decide_eq_true g19
      refine Jl.off rfl rfl rfl rfl ?_
      refine Jl.off rfl rfl rfl rfl ?_
      refine Jl.off rfl rfl rfl rfl ?_
      refine Jl.pv (PR.pickT rfl rfl) ?_
      refine Jl.nil ?_
      refine Jq.thenN ?_
      refine Jc.condT rfl ?_
      refine Jc.seq ?_
      refine Jc.region ?_
      refine Jl.call fwakes_ct en8 (by rfl) (by repeat (first | exact Take.nil | apply Take.cons (by repeat (first | exact Del.here | apply Del.there)))) (by repeat (first | exact trivial | refine And.intro (by repeat (first | exact Mem.here | apply Mem.there)) ?_)) ?_
      rintro ⟨⟩
      refine Jl.pv (PR.assign rfl) ?_
      refine Jl.nil ?_
      refine Jq.thenN ?_
      refine Jc.ret ?_
      refine Jq.thenR ?_
      exact Jq.fin () (.inl rfl) rfl (RetVs.tmp rfl RetVs.nil) rfl (by repeat (first | exact Take.nil | apply Take.cons (by repeat (first | exact Del.here | apply Del.there)))) (by repeat (first | exact trivial | refine And.intro (by repeat (first | exact Mem.here | apply Mem.there)) ?_))
    · try replace g19 := of_decide_eq_false g19
      refine Jl.on rfl rfl ?_
      refine Jl.pv (PR.move rfl) ?_
      refine Jl.on rfl rfl ?_
      refine Jl.pv (PR.len rfl tsl22) ?_
      refine Jl.on rfl rfl ?_
      refine Jl.pv (PR.gtr _ rfl rfl rfl) ?_
      refine Jl.pv (PR.pickF rfl rfl) ?_
      refine Jl.nil ?_
      refine Jq.thenN ?_
      refine Jc.cond rfl (fun h0 => ?_) (fun h0 => ?_)
      · try replace h0 := of_decide_eq_true h0
        refine Jc.seq ?_
        refine Jc.region ?_
        refine Jl.call fwakes_ct en8 (by rfl) (by repeat (first | exact Take.nil | apply Take.cons (by repeat (first | exact Del.here | apply Del.there)))) (by repeat (first | exact trivial | refine And.intro (by repeat (first | exact Mem.here | apply Mem.there)) ?_)) ?_
        rintro ⟨⟩
        refine Jl.pv (PR.assign rfl) ?_
        refine Jl.nil ?_
        refine Jq.thenN ?_
        refine Jc.ret ?_
        refine Jq.thenR ?_
        exact Jq.fin () (.inl rfl) rfl (RetVs.tmp rfl RetVs.nil) rfl (by repeat (first | exact Take.nil | apply Take.cons (by repeat (first | exact Del.here | apply Del.there)))) (by repeat (first | exact trivial | refine And.intro (by repeat (first | exact Mem.here | apply Mem.there)) ?_))
      · try replace h0 := of_decide_eq_false h0
        refine Jc.skip ?_
        refine Jq.thenN ?_
        refine Jc.seq ?_
        refine Jc.seq ?_
        refine Jc.region ?_
        refine Jl.pv (PR.move rfl) ?_
        refine Jl.call (sum_ct A ca a (by omega)) en17 (by rfl) (by repeat (first | exact Take.nil | apply Take.cons (by repeat (first | exact Del.here | apply Del.there)))) (by repeat (first | exact trivial | refine And.intro (by repeat (first | exact Mem.here | apply Mem.there)) ?_)) ?_
        rintro ⟨⟩
        refine Jl.pv (PR.move rfl) ?_
        refine Jl.call (sum_ct B cb b (by omega)) en17 (by rfl) (by repeat (first | exact Take.nil | apply Take.cons (by repeat (first | exact Del.here | apply Del.there)))) (by repeat (first | exact trivial | refine And.intro (by repeat (first | exact Mem.here | apply Mem.there)) ?_)) ?_
        rintro ⟨⟩
        refine Jl.pv (PR.eql _ rfl rfl rfl) ?_
        refine Jl.pv (PR.move rfl) ?_
        refine Jl.bsplit (fun g30 => ?_) (fun g30 => ?_)
        · try replace g30 := of_decide_eq_true g30
          refine Jl.on rfl rfl ?_
          refine Jl.buildSlice (by rfl) tsl22 tzr22_0 (by rfl) (by rfl) ?_
          intro b31
          refine Jl.on rfl rfl ?_
          refine Jl.pv (PR.move rfl) ?_
          refine Jl.on rfl rfl ?_
          refine Jl.toRow 1 0 (by repeat (first | exact Swap.here | apply Swap.there)) (by rfl) (by rfl) ?_
          refine Jl.append a.length (u8s a) rfl rfl rfl tsl22 tze5 (by rfl) (by decide) tby5 (fun _ _ => (by repeat (first | exact Swap.here | apply Swap.there))) (by repeat (first | exact Mem.here | apply Mem.there)) (by omega) rfl (by simp [u8s]) (u8s_one _) (by omega) (by decide) ?_
          intro A33 c33
          refine Jl.on rfl rfl ?_
          refine Jl.pv (PR.move rfl) ?_
          refine Jl.on rfl rfl ?_
          refine Jl.append (a ++ c).length (u8s (a ++ c)) rfl rfl rfl tsl22 tze5 (by rfl) (by decide) tby5 (fun _ _ => (by repeat (first | exact Swap.here | apply Swap.there))) (by repeat (first | exact Mem.here | apply Mem.there)) (by simp) (by simp [u8s]) (by simp [u8s]) (u8s_one _) (by omega) (by decide) ?_
          intro A35 c35
          refine Jl.sealR (by repeat (first | exact Del.here | apply Del.there)) ?_
          refine Jl.on rfl rfl ?_
          refine Jl.call (sum_at (a ++ c) rfl (by simp; omega)) en17 (by rfl) (by repeat (first | exact Take.nil | apply Take.cons (by repeat (first | exact Del.here | apply Del.there)))) (by repeat (first | exact trivial | refine And.intro (by repeat (first | exact Mem.here | apply Mem.there)) ?_)) ?_
          rintro ⟨⟩
          refine Jl.on rfl rfl ?_
          refine Jl.buildSlice (by rfl) tsl22 tzr22_0 (by rfl) (by rfl) ?_
          intro b37
          refine Jl.on rfl rfl ?_
          refine Jl.pv (PR.move rfl) ?_
          refine Jl.on rfl rfl ?_
          refine Jl.toRow 1 0 (by repeat (first | exact Swap.here | apply Swap.there)) (by rfl) (by rfl) ?_
          refine Jl.append b.length (u8s b) rfl rfl rfl tsl22 tze5 (by rfl) (by decide) tby5 (fun _ _ => (by repeat (first | exact Swap.here | apply Swap.there))) (by repeat (first | exact Mem.here | apply Mem.there)) (by omega) rfl (by simp [u8s]) (u8s_one _) (by omega) (by decide) ?_
          intro A39 c39
          refine Jl.on rfl rfl ?_
          refine Jl.pv (PR.move rfl) ?_
          refine Jl.on rfl rfl ?_
          refine Jl.append (b ++ c).length (u8s (b ++ c)) rfl rfl rfl tsl22 tze5 (by rfl) (by decide) tby5 (fun _ _ => (by repeat (first | exact Swap.here | apply Swap.there))) (by repeat (first | exact Mem.here | apply Mem.there)) (by simp) (by simp [u8s]) (by simp [u8s]) (u8s_one _) (by omega) (by decide) ?_
          intro A41 c41
          refine Jl.sealR (by repeat (first | exact Del.here | apply Del.there)) ?_
          refine Jl.on rfl rfl ?_
          refine Jl.call (sum_at (b ++ c) rfl (by simp; omega)) en17 (by rfl) (by repeat (first | exact Take.nil | apply Take.cons (by repeat (first | exact Del.here | apply Del.there)))) (by repeat (first | exact trivial | refine And.intro (by repeat (first | exact Mem.here | apply Mem.there)) ?_)) ?_
          rintro ⟨⟩
          refine Jl.on rfl rfl ?_
          refine Jl.pv (PR.neq false rfl rfl (decide_eq_false (fun h => h (by rw [sumN_app a b c (by omega)])))) ?_
          refine Jl.pv (PR.pickT rfl rfl) ?_
          refine Jl.nil ?_
          refine Jq.thenN ?_
          refine Jc.condF rfl ?_
          refine Jc.skip ?_
          refine Jq.thenN ?_
          refine Jc.seq ?_
          refine Jc.region ?_
          refine Jl.buildSlice (by rfl) tsl22 tzr22_0 (by rfl) (by rfl) ?_
          intro b45
          refine Jl.pv (PR.move rfl) ?_
          refine Jl.toRow 1 0 (by repeat (first | exact Swap.here | apply Swap.there)) (by rfl) (by rfl) ?_
          refine Jl.append a.length (u8s a) rfl rfl rfl tsl22 tze5 (by rfl) (by decide) tby5 (fun _ _ => (by repeat (first | exact Swap.here | apply Swap.there))) (by repeat (first | exact Mem.here | apply Mem.there)) (by omega) rfl (by simp [u8s]) (u8s_one _) (by omega) (by decide) ?_
          intro A47 c47
          refine Jl.pv (PR.move rfl) ?_
          refine Jl.buildSlice (by rfl) tsl22 tzr22_1 (by rfl) (by rfl) ?_
          intro b49
          refine Jl.seal (by repeat (first | exact Del.here | apply Del.there)) ?_
          refine Jl.append (a ++ [x]).length (u8s (a ++ [x])) rfl rfl rfl tsl22 tze5 (by rfl) (by decide) tby5 (fun _ _ => (by repeat (first | exact Swap.here | apply Swap.there))) (by repeat (first | exact Mem.here | apply Mem.there)) (by simp) (by simp [u8s]) rfl (by simp [Value.oneCell']) (by omega) (by decide) ?_
          intro A50 c50
          refine Jl.sealR (by repeat (first | exact Del.here | apply Del.there)) ?_
          refine Jl.call (sum_at (a ++ [x]) rfl (by simp; omega)) en17 (by rfl) (by repeat (first | exact Take.nil | apply Take.cons (by repeat (first | exact Del.here | apply Del.there)))) (by repeat (first | exact trivial | refine And.intro (by repeat (first | exact Mem.here | apply Mem.there)) ?_)) ?_
          rintro ⟨⟩
          refine Jl.buildSlice (by rfl) tsl22 tzr22_0 (by rfl) (by rfl) ?_
          intro b52
          refine Jl.pv (PR.move rfl) ?_
          refine Jl.toRow 1 0 (by repeat (first | exact Swap.here | apply Swap.there)) (by rfl) (by rfl) ?_
          refine Jl.append a.length (u8s a) rfl rfl rfl tsl22 tze5 (by rfl) (by decide) tby5 (fun _ _ => (by repeat (first | exact Swap.here | apply Swap.there))) (by repeat (first | exact Mem.here | apply Mem.there)) (by omega) rfl (by simp [u8s]) (u8s_one _) (by omega) (by decide) ?_
          intro A54 c54
          refine Jl.pv (PR.move rfl) ?_
          refine Jl.buildSlice (by rfl) tsl22 tzr22_1 (by rfl) (by rfl) ?_
          intro b56
          refine Jl.seal (by repeat (first | exact Del.here | apply Del.there)) ?_
          refine Jl.append (a ++ [y]).length (u8s (a ++ [y])) rfl rfl rfl tsl22 tze5 (by rfl) (by decide) tby5 (fun _ _ => (by repeat (first | exact Swap.here | apply Swap.there))) (by repeat (first | exact Mem.here | apply Mem.there)) (by simp) (by simp [u8s]) rfl (by simp [Value.oneCell']) (by omega) (by decide) ?_
          intro A57 c57
          refine Jl.sealR (by repeat (first | exact Del.here | apply Del.there)) ?_
          refine Jl.call (sum_at (a ++ [y]) rfl (by simp; omega)) en17 (by rfl) (by repeat (first | exact Take.nil | apply Take.cons (by repeat (first | exact Del.here | apply Del.there)))) (by repeat (first | exact trivial | refine And.intro (by repeat (first | exact Mem.here | apply Mem.there)) ?_)) ?_
          rintro ⟨⟩
          refine Jl.pv (PR.sub (IntKind.u32.wrap ((sumN (a ++ [x]) : Nat) - (sumN (a ++ [y]) : Nat))) rfl rfl rfl) ?_
          refine Jl.pv (PR.move rfl) ?_
          refine Jl.pv (PR.conv (x.toNat : Int) rfl Try.underlying5 Try.underlying34 (by rw [IntKind.wrap_u32]; omega)) ?_
          refine Jl.pv (PR.move rfl) ?_
          refine Jl.pv (PR.conv (y.toNat : Int) rfl Try.underlying5 Try.underlying34 (by rw [IntKind.wrap_u32]; omega)) ?_
          refine Jl.pv (PR.sub (IntKind.u32.wrap ((x.toNat : Int) - (y.toNat : Int))) rfl rfl rfl) ?_
          refine Jl.pv (PR.eql true rfl rfl (decide_eq_true (by rw [sumN_snoc, sumN_snoc, IntKind.wrap_u32, IntKind.wrap_u32]; unfold sumS; omega))) ?_
          refine Jl.pv (PR.move rfl) ?_
          refine Jl.on rfl rfl ?_
          refine Jl.call fwakes_ct en8 (by rfl) (by repeat (first | exact Take.nil | apply Take.cons (by repeat (first | exact Del.here | apply Del.there)))) (by repeat (first | exact trivial | refine And.intro (by repeat (first | exact Mem.here | apply Mem.there)) ?_)) ?_
          rintro ⟨⟩
          refine Jl.pv (PR.pickT rfl rfl) ?_
          refine Jl.pv (PR.assign rfl) ?_
          refine Jl.nil ?_
          refine Jq.thenN ?_
          refine Jc.ret ?_
          exact Jq.fin () (.inl rfl) rfl (RetVs.tmp rfl RetVs.nil) rfl (by repeat (first | exact Take.nil | apply Take.cons (by repeat (first | exact Del.here | apply Del.there)))) (by repeat (first | exact trivial | refine And.intro (by repeat (first | exact Mem.here | apply Mem.there)) ?_))
        · try replace g30 := of_decide_eq_false g30
          refine Jl.off rfl rfl rfl rfl ?_
          refine Jl.off rfl rfl rfl rfl ?_
          refine Jl.off rfl rfl rfl rfl ?_
          refine Jl.off rfl rfl rfl rfl ?_
          refine Jl.off rfl rfl rfl rfl ?_
          refine Jl.off rfl rfl rfl rfl ?_
          refine Jl.off rfl rfl rfl rfl ?_
          refine Jl.off rfl rfl rfl rfl ?_
          refine Jl.off rfl rfl rfl rfl ?_
          refine Jl.off rfl rfl rfl rfl ?_
          refine Jl.off rfl rfl rfl rfl ?_
          refine Jl.off rfl rfl rfl rfl ?_
          refine Jl.off rfl rfl rfl rfl ?_
          refine Jl.pv (PR.pickF rfl rfl) ?_
          refine Jl.nil ?_
          refine Jq.thenN ?_
          refine Jc.condF rfl ?_
          refine Jc.skip ?_
          refine Jq.thenN ?_
          refine Jc.seq ?_
          refine Jc.region ?_
          refine Jl.buildSlice (by rfl) tsl22 tzr22_0 (by rfl) (by rfl) ?_
          intro b45
          refine Jl.pv (PR.move rfl) ?_
          refine Jl.toRow 1 0 (by repeat (first | exact Swap.here | apply Swap.there)) (by rfl) (by rfl) ?_
          refine Jl.append a.length (u8s a) rfl rfl rfl tsl22 tze5 (by rfl) (by decide) tby5 (fun _ _ => (by repeat (first | exact Swap.here | apply Swap.there))) (by repeat (first | exact Mem.here | apply Mem.there)) (by omega) rfl (by simp [u8s]) (u8s_one _) (by omega) (by decide) ?_
          intro A47 c47
          refine Jl.pv (PR.move rfl) ?_
          refine Jl.buildSlice (by rfl) tsl22 tzr22_1 (by rfl) (by rfl) ?_
          intro b49
          refine Jl.seal (by repeat (first | exact Del.here | apply Del.there)) ?_
          refine Jl.append (a ++ [x]).length (u8s (a ++ [x])) rfl rfl rfl tsl22 tze5 (by rfl) (by decide) tby5 (fun _ _ => (by repeat (first | exact Swap.here | apply Swap.there))) (by repeat (first | exact Mem.here | apply Mem.there)) (by simp) (by simp [u8s]) rfl (by simp [Value.oneCell']) (by omega) (by decide) ?_
          intro A50 c50
          refine Jl.sealR (by repeat (first | exact Del.here | apply Del.there)) ?_
          refine Jl.call (sum_at (a ++ [x]) rfl (by simp; omega)) en17 (by rfl) (by repeat (first | exact Take.nil | apply Take.cons (by repeat (first | exact Del.here | apply Del.there)))) (by repeat (first | exact trivial | refine And.intro (by repeat (first | exact Mem.here | apply Mem.there)) ?_)) ?_
          rintro ⟨⟩
          refine Jl.buildSlice (by rfl) tsl22 tzr22_0 (by rfl) (by rfl) ?_
          intro b52
          refine Jl.pv (PR.move rfl) ?_
          refine Jl.toRow 1 0 (by repeat (first | exact Swap.here | apply Swap.there)) (by rfl) (by rfl) ?_
          refine Jl.append a.length (u8s a) rfl rfl rfl tsl22 tze5 (by rfl) (by decide) tby5 (fun _ _ => (by repeat (first | exact Swap.here | apply Swap.there))) (by repeat (first | exact Mem.here | apply Mem.there)) (by omega) rfl (by simp [u8s]) (u8s_one _) (by omega) (by decide) ?_
          intro A54 c54
          refine Jl.pv (PR.move rfl) ?_
          refine Jl.buildSlice (by rfl) tsl22 tzr22_1 (by rfl) (by rfl) ?_
          intro b56
          refine Jl.seal (by repeat (first | exact Del.here | apply Del.there)) ?_
          refine Jl.append (a ++ [y]).length (u8s (a ++ [y])) rfl rfl rfl tsl22 tze5 (by rfl) (by decide) tby5 (fun _ _ => (by repeat (first | exact Swap.here | apply Swap.there))) (by repeat (first | exact Mem.here | apply Mem.there)) (by simp) (by simp [u8s]) rfl (by simp [Value.oneCell']) (by omega) (by decide) ?_
          intro A57 c57
          refine Jl.sealR (by repeat (first | exact Del.here | apply Del.there)) ?_
          refine Jl.call (sum_at (a ++ [y]) rfl (by simp; omega)) en17 (by rfl) (by repeat (first | exact Take.nil | apply Take.cons (by repeat (first | exact Del.here | apply Del.there)))) (by repeat (first | exact trivial | refine And.intro (by repeat (first | exact Mem.here | apply Mem.there)) ?_)) ?_
          rintro ⟨⟩
          refine Jl.pv (PR.sub (IntKind.u32.wrap ((sumN (a ++ [x]) : Nat) - (sumN (a ++ [y]) : Nat))) rfl rfl rfl) ?_
          refine Jl.pv (PR.move rfl) ?_
          refine Jl.pv (PR.conv (x.toNat : Int) rfl Try.underlying5 Try.underlying34 (by rw [IntKind.wrap_u32]; omega)) ?_
          refine Jl.pv (PR.move rfl) ?_
          refine Jl.pv (PR.conv (y.toNat : Int) rfl Try.underlying5 Try.underlying34 (by rw [IntKind.wrap_u32]; omega)) ?_
          refine Jl.pv (PR.sub (IntKind.u32.wrap ((x.toNat : Int) - (y.toNat : Int))) rfl rfl rfl) ?_
          refine Jl.pv (PR.eql true rfl rfl (decide_eq_true (by rw [sumN_snoc, sumN_snoc, IntKind.wrap_u32, IntKind.wrap_u32]; unfold sumS; omega))) ?_
          refine Jl.pv (PR.move rfl) ?_
          refine Jl.on rfl rfl ?_
          refine Jl.call fwakes_ct en8 (by rfl) (by repeat (first | exact Take.nil | apply Take.cons (by repeat (first | exact Del.here | apply Del.there)))) (by repeat (first | exact trivial | refine And.intro (by repeat (first | exact Mem.here | apply Mem.there)) ?_)) ?_
          rintro ⟨⟩
          refine Jl.pv (PR.pickT rfl rfl) ?_
          refine Jl.pv (PR.assign rfl) ?_
          refine Jl.nil ?_
          refine Jq.thenN ?_
          refine Jc.ret ?_
          exact Jq.fin () (.inl rfl) rfl (RetVs.tmp rfl RetVs.nil) rfl (by repeat (first | exact Take.nil | apply Take.cons (by repeat (first | exact Del.here | apply Del.there)))) (by repeat (first | exact trivial | refine And.intro (by repeat (first | exact Mem.here | apply Mem.there)) ?_))
end Go.Proofs.Ytnkekjhijkfckaa
