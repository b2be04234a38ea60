/-
Contracts of herd/frame: Put, Long, Take, frames.
-/
import Derived.Test.YtnkekjhijkfckaaFrameA
namespace Go.Proofs.Ytnkekjhijkfckaa
set_option linter.unusedVariables false
open Go.RowKit
attribute [local irreducible] Res.blk Res.row Fact.rd
def pF (b : List UInt8) : List UInt8 := ((cutF b).getD ([], [])).1
def rF (b : List UInt8) : List UInt8 := ((cutF b).getD ([], [])).2
theorem cut_u (A : Option Addr) (c : Nat) (b : List UInt8) (hn : b.length ≤ 1000000) (hc : b.length ≤ c) :
    CtY Try.prog 23 [.slice A b.length c] [] [.rd A (u8s b)] (fun x : OA × OA => .tuple #[.slice x.1.1 (pF b).length x.1.2, .slice x.2.1 (rF b).length x.2.2, .bool (cutF b).isSome]) (fun _ => [])
      (fun x => [.is ((pF b).length ≤ x.1.2 ∧ (rF b).length ≤ x.2.2)]) (fun x => [.rd x.1.1 (u8s (pF b)), .rd x.2.1 (u8s (rF b))]) := by
  have h := cut_cty A c b hn hc
  unfold pF rF
  cases hcf : cutF b with
  | none =>
    rw [hcf] at h
    exact h
  | some t =>
    rw [hcf] at h
    exact h
theorem pF_len (b : List UInt8) : (pF b).length + (rF b).length ≤ b.length := by
  unfold pF rF
  cases hcf : cutF b with
  | none => simp
  | some t => have := (cutF_len (p := t.1) (r := t.2) hcf).1; simp only [Option.getD_some]; omega

theorem fput_sum (s : Nat) : IntKind.u8.wrap ((s : Nat) : Int) = ((s % 256 : Nat) : Int) := by rw [IntKind.wrap_u8]; omega
theorem fput_shr (s q : Nat) (j : Nat) (hj : j = 8 ∨ j = 16 ∨ j = 24) (hq : q = s / 2 ^ j) : Int.fdiv (s : Int) (2 ^ (min ((j : Nat) : Int).toNat IntKind.u32.bits)) = (q : Int) := by
  have := shr_sum s (j / 8) (by omega)
  rw [show 8 * (j / 8) = j by omega] at this
  rw [this, hq]
theorem fput_ct (A : Option Addr) (c : Nat) (p : List UInt8) (hn : p.length ≤ 1000000) : Ct Try.prog 9 [.slice A p.length c] [] [.rd A (u8s p)] (fun x : OA => .tuple #[.slice x.1 (putFN p).length x.2, .int .i64 (putFR p)]) (rowU (putFN p)) (fun _ => []) := by
  by_cases hp : p.length ≤ 4000
  · have e1 : putFN p = frameB p := if_pos hp
    have e2 : putFR p = 0 := if_pos hp
    rw [e1, e2]
    have hpb := putB_len (p.length : Int)
    have hfl : (frameB p).length = (putB p.length).length + p.length + 4 := by simp [frameB, sumB]; omega
    refine Ct.of _ Try.func9 Try.ntmps9 rfl rfl (fun X W => ?_)
    refine Jc.seq ?_
    refine Jc.region ?_
    refine Jl.pv (PR.assign rfl) ?_
    refine Jl.pv (PR.assign rfl) ?_
    refine Jl.nil ?_
    refine Jq.thenN ?_
    refine Jc.seq ?_
    refine Jc.seq ?_
    refine Jc.region ?_
    refine Jl.pv (PR.move rfl) ?_
    refine Jl.pv (PR.len rfl tsl22) ?_
    refine Jl.pv (PR.gtr false rfl rfl (by simp; omega)) ?_
    refine Jl.nil ?_
    refine Jq.thenN ?_
    refine Jc.condF rfl ?_
    refine Jc.skip ?_
    refine Jq.thenN ?_
    refine Jc.seq ?_
    refine Jc.region ?_
    refine Jl.pv (PR.move rfl) ?_
    refine Jl.pv (PR.len rfl tsl22) ?_
    refine Jl.call (put_fine (a := p.length) (by simp [fineN]; omega)) en21 (by rfl) (by repeat (first | exact Take.nil | apply Take.cons (by repeat (first | exact Del.here | apply Del.there)))) (by repeat (first | exact trivial | refine And.intro (by repeat (first | exact Mem.here | apply Mem.there)) ?_)) ?_
    rintro ⟨A13, c13⟩
    refine Jl.pv (PR.move rfl) ?_
    refine Jl.pv (PR.extract rfl (by rfl)) ?_
    refine Jl.pv (PR.extract rfl (by rfl)) ?_
    refine Jl.pv (PR.assign rfl) ?_
    refine Jl.pv (PR.assign rfl) ?_
    refine Jl.nil ?_
    refine Jq.thenN ?_
    refine Jc.seq ?_
    refine Jc.seq ?_
    refine Jc.region ?_
    refine Jl.pv (PR.move rfl) ?_
    refine Jl.pv (PR.neq false rfl rfl rfl) ?_
    refine Jl.nil ?_
    refine Jq.thenN ?_
    refine Jc.condF rfl ?_
    refine Jc.skip ?_
    refine Jq.thenN ?_
    refine Jc.seq ?_
    refine Jc.region ?_
    refine Jl.pv (PR.move rfl) ?_
    refine Jl.call (sum_ct A c p (by omega)) en17 (by rfl) (by repeat (first | exact Take.nil | apply Take.cons (by repeat (first | exact Del.here | apply Del.there)))) (by repeat (first | exact trivial | refine And.intro (by repeat (first | exact Mem.here | apply Mem.there)) ?_)) ?_
    rintro ⟨⟩
    refine Jl.pv (PR.assign rfl) ?_
    refine Jl.nil ?_
    refine Jq.thenN ?_
    refine Jc.seq ?_
    refine Jc.region ?_
    refine Jl.pv (PR.move rfl) ?_
    refine Jl.pv (PR.move rfl) ?_
    refine Jl.append (putB p.length ++ p).length (u8s (putB p.length ++ p)) rfl rfl rfl tsl22 tze5 (by rfl) (by decide) tby5 (fun _ _ => (by repeat (first | exact Swap.here | apply Swap.there))) (by repeat (first | exact Mem.here | apply Mem.there)) (by simp) (by simp [u8s]) (by simp [u8s]) (u8s_one _) (by omega) (by decide) ?_
    intro A23 c23
    refine Jl.pv (PR.move rfl) ?_
    refine Jl.pv (PR.conv ((sumN p % 256 : Nat) : Int) rfl Try.underlying34 Try.underlying5 (fput_sum _)) ?_
    refine Jl.pv (PR.move rfl) ?_
    refine Jl.pv (PR.shr ((sumN p / 256 : Nat) : Int) rfl rfl (by decide) (fput_shr _ _ 8 (by omega) rfl)) ?_
    refine Jl.pv (PR.conv ((sumN p / 256 % 256 : Nat) : Int) rfl Try.underlying34 Try.underlying5 (fput_sum _)) ?_
    refine Jl.pv (PR.move rfl) ?_
    refine Jl.pv (PR.shr ((sumN p / 65536 : Nat) : Int) rfl rfl (by decide) (fput_shr _ _ 16 (by omega) rfl)) ?_
    refine Jl.pv (PR.conv ((sumN p / 65536 % 256 : Nat) : Int) rfl Try.underlying34 Try.underlying5 (fput_sum _)) ?_
    refine Jl.pv (PR.move rfl) ?_
    refine Jl.pv (PR.shr ((sumN p / 16777216 : Nat) : Int) rfl rfl (by decide) (fput_shr _ _ 24 (by omega) rfl)) ?_
    refine Jl.pv (PR.conv ((sumN p / 16777216 % 256 : Nat) : Int) rfl Try.underlying34 Try.underlying5 (fput_sum _)) ?_
    refine Jl.buildSlice (by rfl) tsl22 tzr22_4 (by rfl) (by rfl) ?_
    intro b35
    refine Jl.seal (by repeat (first | exact Del.here | apply Del.there)) ?_
    refine Jl.append (frameB p).length (u8s (frameB p)) rfl rfl rfl tsl22 tze5 (by rfl) (by decide) tby5 (fun _ _ => (by repeat (first | exact Swap.here | apply Swap.there))) (by repeat (first | exact Mem.here | apply Mem.there)) (by rw [hfl]; simp) (by simp [u8s, frameB, sumB]) rfl (by simp [Value.oneCell']) (by simp; omega) (by decide) ?_
    intro A36 c36
    refine Jl.pv (PR.assign rfl) ?_
    refine Jl.pv (PR.assign rfl) ?_
    refine Jl.nil ?_
    refine Jq.thenN ?_
    refine Jc.ret ?_
    exact Jq.fin (A36, c36) (.inl rfl) rfl (RetVs.tmp rfl (RetVs.tmp rfl RetVs.nil)) rfl (by repeat (first | exact Take.nil | apply Take.cons (by repeat (first | exact Del.here | apply Del.there)))) (by repeat (first | exact trivial | refine And.intro (by repeat (first | exact Mem.here | apply Mem.there)) ?_))
  · have e1 : putFN p = [] := if_neg hp
    have e2 : putFR p = 2 := if_neg hp
    rw [e1, e2]
    refine Ct.of _ Try.func9 Try.ntmps9 rfl rfl (fun X W => ?_)
    refine Jc.seq ?_
    refine Jc.region ?_
    refine Jl.pv (PR.assign rfl) ?_
    refine Jl.pv (PR.assign rfl) ?_
    refine Jl.nil ?_
    refine Jq.thenN ?_
    refine Jc.seq ?_
    refine Jc.seq ?_
    refine Jc.region ?_
    refine Jl.pv (PR.move rfl) ?_
    refine Jl.pv (PR.len rfl tsl22) ?_
    refine Jl.pv (PR.gtr true rfl rfl (by simp; omega)) ?_
    refine Jl.nil ?_
    refine Jq.thenN ?_
    refine Jc.condT rfl ?_
    refine Jc.seq ?_
    refine Jc.region ?_
    refine Jl.pv (PR.assign rfl) ?_
    refine Jl.pv (PR.assign rfl) ?_
    refine Jl.nil ?_
    refine Jq.thenN ?_
    refine Jc.ret ?_
    refine Jq.thenR ?_
    refine Jq.nilRow 5 1 ?_
    exact Jq.fin (none, 0) (.inl rfl) rfl (RetVs.tmp rfl (RetVs.tmp rfl RetVs.nil)) rfl (by repeat (first | exact Take.nil | apply Take.cons (by repeat (first | exact Del.here | apply Del.there)))) (by repeat (first | exact trivial | refine And.intro (by repeat (first | exact Mem.here | apply Mem.there)) ?_))

def longF (n : Int) : Int := if n < 0 ∨ 4000 < n then -1 else (putB n).length + n + 4
theorem flong_ct (n : Int) : Ct Try.prog 19 [.int .i64 n] [] [] (fun _ : Unit => .int .i64 (longF n)) (fun _ => []) (fun _ => []) := by
  by_cases h1 : n < 0
  · rw [show longF n = -1 from if_pos (.inl h1)]
    refine Ct.of _ Try.func19 Try.ntmps19 rfl rfl (fun X W => ?_)
    refine Jc.seq ?_
    refine Jc.region ?_
    refine Jl.pv (PR.assign rfl) ?_
    refine Jl.nil ?_
    refine Jq.thenN ?_
    refine Jc.seq ?_
    refine Jc.seq ?_
    refine Jc.region ?_
    refine Jl.pv (PR.move rfl) ?_
    refine Jl.pv (PR.lss true rfl rfl (by simp; omega)) ?_
    refine Jl.pv (PR.move rfl) ?_
    refine Jl.off rfl rfl rfl rfl ?_
    refine Jl.off rfl rfl rfl rfl ?_
    refine Jl.pv (PR.pickT rfl rfl) ?_
    refine Jl.nil ?_
    refine Jq.thenN ?_
    refine Jc.condT rfl ?_
    refine Jc.seq ?_
    refine Jc.region ?_
    refine Jl.pv (PR.assign rfl) ?_
    refine Jl.nil ?_
    refine Jq.thenN ?_
    refine Jc.ret ?_
    refine Jq.thenR ?_
    exact Jq.fin () (.inl rfl) rfl (RetVs.tmp rfl RetVs.nil) rfl (by repeat (first | exact Take.nil | apply Take.cons (by repeat (first | exact Del.here | apply Del.there)))) (by repeat (first | exact trivial | refine And.intro (by repeat (first | exact Mem.here | apply Mem.there)) ?_))
  · by_cases h2 : 4000 < n
    · rw [show longF n = -1 from if_pos (.inr h2)]
      refine Ct.of _ Try.func19 Try.ntmps19 rfl rfl (fun X W => ?_)
      refine Jc.seq ?_
      refine Jc.region ?_
      refine Jl.pv (PR.assign rfl) ?_
      refine Jl.nil ?_
      refine Jq.thenN ?_
      refine Jc.seq ?_
      refine Jc.seq ?_
      refine Jc.region ?_
      refine Jl.pv (PR.move rfl) ?_
      refine Jl.pv (PR.lss false rfl rfl (by simp; omega)) ?_
      refine Jl.pv (PR.move rfl) ?_
      refine Jl.on rfl rfl ?_
      refine Jl.pv (PR.move rfl) ?_
      refine Jl.on rfl rfl ?_
      refine Jl.pv (PR.gtr true rfl rfl (by simp; omega)) ?_
      refine Jl.pv (PR.pickF rfl rfl) ?_
      refine Jl.nil ?_
      refine Jq.thenN ?_
      refine Jc.condT rfl ?_
      refine Jc.seq ?_
      refine Jc.region ?_
      refine Jl.pv (PR.assign rfl) ?_
      refine Jl.nil ?_
      refine Jq.thenN ?_
      refine Jc.ret ?_
      refine Jq.thenR ?_
      exact Jq.fin () (.inl rfl) rfl (RetVs.tmp rfl RetVs.nil) rfl (by repeat (first | exact Take.nil | apply Take.cons (by repeat (first | exact Del.here | apply Del.there)))) (by repeat (first | exact trivial | refine And.intro (by repeat (first | exact Mem.here | apply Mem.there)) ?_))
    · rw [show longF n = (putB n).length + n + 4 from if_neg (by omega)]
      have hpb := putB_len n
      refine Ct.of _ Try.func19 Try.ntmps19 rfl rfl (fun X W => ?_)
      refine Jc.seq ?_
      refine Jc.region ?_
      refine Jl.pv (PR.assign rfl) ?_
      refine Jl.nil ?_
      refine Jq.thenN ?_
      refine Jc.seq ?_
      refine Jc.seq ?_
      refine Jc.region ?_
      refine Jl.pv (PR.move rfl) ?_
      refine Jl.pv (PR.lss false rfl rfl (by simp; omega)) ?_
      refine Jl.pv (PR.move rfl) ?_
      refine Jl.on rfl rfl ?_
      refine Jl.pv (PR.move rfl) ?_
      refine Jl.on rfl rfl ?_
      refine Jl.pv (PR.gtr false rfl rfl (by simp; omega)) ?_
      refine Jl.pv (PR.pickF rfl rfl) ?_
      refine Jl.nil ?_
      refine Jq.thenN ?_
      refine Jc.condF rfl ?_
      refine Jc.skip ?_
      refine Jq.thenN ?_
      refine Jc.seq ?_
      refine Jc.region ?_
      refine Jl.pv (PR.move rfl) ?_
      refine Jl.call (put_fine (a := n) (by simp [fineN]; omega)) en21 (by rfl) (by repeat (first | exact Take.nil | apply Take.cons (by repeat (first | exact Del.here | apply Del.there)))) (by repeat (first | exact trivial | refine And.intro (by repeat (first | exact Mem.here | apply Mem.there)) ?_)) ?_
      rintro ⟨A13, c13⟩
      refine Jl.pv (PR.move rfl) ?_
      refine Jl.pv (PR.extract rfl (by rfl)) ?_
      refine Jl.pv (PR.extract rfl (by rfl)) ?_
      refine Jl.pv (PR.assign rfl) ?_
      refine Jl.pv (PR.assign rfl) ?_
      refine Jl.nil ?_
      refine Jq.thenN ?_
      refine Jc.seq ?_
      refine Jc.region ?_
      refine Jl.pv (PR.move rfl) ?_
      refine Jl.pv (PR.len rfl tsl22) ?_
      refine Jl.pv (PR.move rfl) ?_
      refine Jl.pv (PR.add _ rfl rfl (w64 (by omega) (by omega))) ?_
      refine Jl.pv (PR.add _ rfl rfl (w64 (by omega) (by omega))) ?_
      refine Jl.pv (PR.assign rfl) ?_
      refine Jl.nil ?_
      refine Jq.thenN ?_
      refine Jc.ret ?_
      exact Jq.fin () (.inl rfl) rfl (RetVs.tmp rfl RetVs.nil) rfl (by repeat (first | exact Take.nil | apply Take.cons (by repeat (first | exact Del.here | apply Del.there)))) (by repeat (first | exact trivial | refine And.intro (by repeat (first | exact Mem.here | apply Mem.there)) ?_))

def takeF (b : List UInt8) : List UInt8 × List UInt8 × Int := match cutF b with
  | some (p, r) => (p, r, 0)
  | none => ([], [], 40)
def rows2 (p r : List UInt8) (x : OA × OA) : List Res := [.row 5 1 (.slice x.1.1 p.length x.1.2) p.length (u8s p), .row 5 1 (.slice x.2.1 r.length x.2.2) r.length (u8s r)]
theorem ftake_ct (A : Option Addr) (c : Nat) (b : List UInt8) (hn : b.length ≤ 1000000) (hc : b.length ≤ c) :
    Ct Try.prog 11 [.slice A b.length c] [] [.rd A (u8s b)] (fun x : OA × OA => .tuple #[.slice x.1.1 (takeF b).1.length x.1.2, .slice x.2.1 (takeF b).2.1.length x.2.2, .int .i64 (takeF b).2.2]) (rows2 (takeF b).1 (takeF b).2.1) (fun _ => []) := by
  have hpl := pF_len b
  cases hcf : cutF b with
  | none =>
    rw [show takeF b = ([], [], 40) by simp [takeF, hcf]]
    refine Ct.of _ Try.func11 Try.ntmps11 rfl rfl (fun X W => ?_)
    refine Jc.seq ?_
    refine Jc.region ?_
    refine Jl.pv (PR.assign rfl) ?_
    refine Jl.pv (PR.assign rfl) ?_
    refine Jl.pv (PR.assign rfl) ?_
    refine Jl.nil ?_
    refine Jq.thenN ?_
    refine Jc.seq ?_
    refine Jc.region ?_
    refine Jl.pv (PR.move rfl) ?_
    refine Jl.call (cut_u A c b hn hc).ct en23 (by rfl) (by repeat (first | exact Take.nil | apply Take.cons (by repeat (first | exact Del.here | apply Del.there)))) (by repeat (first | exact trivial | refine And.intro (by repeat (first | exact Mem.here | apply Mem.there)) ?_)) ?_
    rintro ⟨⟨A10, c10⟩, ⟨B10, d10⟩⟩
    refine Jl.pv (PR.move rfl) ?_
    refine Jl.pv (PR.extract rfl (by rfl)) ?_
    refine Jl.pv (PR.extract rfl (by rfl)) ?_
    refine Jl.pv (PR.extract rfl (by rfl)) ?_
    refine Jl.pv (PR.assign rfl) ?_
    refine Jl.pv (PR.assign rfl) ?_
    refine Jl.pv (PR.assign rfl) ?_
    refine Jl.nil ?_
    refine Jq.thenN ?_
    refine Jc.seq ?_
    refine Jc.seq ?_
    refine Jc.region ?_
    refine Jl.pv (PR.move rfl) ?_
    refine Jl.pv (PR.not rfl) ?_
    refine Jl.as (.bool true) (congrArg Value.bool (by rw [hcf]; rfl)) ?_
    refine Jl.nil ?_
    refine Jq.thenN ?_
    refine Jc.condT rfl ?_
    refine Jc.seq ?_
    refine Jc.region ?_
    refine Jl.pv (PR.assign rfl) ?_
    refine Jl.pv (PR.assign rfl) ?_
    refine Jl.pv (PR.assign rfl) ?_
    refine Jl.nil ?_
    refine Jq.thenN ?_
    refine Jc.ret ?_
    refine Jq.thenR ?_
    refine Jq.nilRow 5 1 ?_
    refine Jq.nilRow 5 1 ?_
    exact Jq.fin ((none, 0), (none, 0)) (.inl rfl) rfl (RetVs.tmp rfl (RetVs.tmp rfl (RetVs.tmp rfl RetVs.nil))) rfl (by repeat (first | exact Take.nil | apply Take.cons (by repeat (first | exact Del.here | apply Del.there)))) (by repeat (first | exact trivial | refine And.intro (by repeat (first | exact Mem.here | apply Mem.there)) ?_))
    -- hint not used: k15
  | some t =>
    rw [show takeF b = (pF b, rF b, 0) by simp [takeF, pF, rF, hcf]]
    refine Ct.of _ Try.func11 Try.ntmps11 rfl rfl (fun X W => ?_)
    refine Jc.seq ?_
    refine Jc.region ?_
    refine Jl.pv (PR.assign rfl) ?_
    refine Jl.pv (PR.assign rfl) ?_
    refine Jl.pv (PR.assign rfl) ?_
    refine Jl.nil ?_
    refine Jq.thenN ?_
    refine Jc.seq ?_
    refine Jc.region ?_
    refine Jl.pv (PR.move rfl) ?_
    refine Jl.call (cut_u A c b hn hc).ct en23 (by rfl) (by repeat (first | exact Take.nil | apply Take.cons (by repeat (first | exact Del.here | apply Del.there)))) (by repeat (first | exact trivial | refine And.intro (by repeat (first | exact Mem.here | apply Mem.there)) ?_)) ?_
    rintro ⟨⟨A10, c10⟩, ⟨B10, d10⟩⟩
    refine Jl.pv (PR.move rfl) ?_
    refine Jl.pv (PR.extract rfl (by rfl)) ?_
    refine Jl.pv (PR.extract rfl (by rfl)) ?_
    refine Jl.pv (PR.extract rfl (by rfl)) ?_
    refine Jl.pv (PR.assign rfl) ?_
    refine Jl.pv (PR.assign rfl) ?_
    refine Jl.pv (PR.assign rfl) ?_
    refine Jl.nil ?_
    refine Jq.thenN ?_
    refine Jc.seq ?_
    refine Jc.seq ?_
    refine Jc.region ?_
    refine Jl.pv (PR.move rfl) ?_
    refine Jl.pv (PR.not rfl) ?_
    refine Jl.as (.bool false) (congrArg Value.bool (by rw [hcf]; rfl)) ?_
    refine Jl.nil ?_
    refine Jq.thenN ?_
    refine Jc.condF rfl ?_
    refine Jc.skip ?_
    refine Jq.thenN ?_
    refine Jc.seq ?_
    refine Jc.region ?_
    refine Jl.pv (PR.move rfl) ?_
    refine Jl.call (bclone_ct A10 c10 (pF b) (by omega)) en24 (by rfl) (by repeat (first | exact Take.nil | apply Take.cons (by repeat (first | exact Del.here | apply Del.there)))) (by repeat (first | exact trivial | refine And.intro (by repeat (first | exact Mem.here | apply Mem.there)) ?_)) ?_
    rintro ⟨A17, c17⟩
    refine Jl.pv (PR.move rfl) ?_
    refine Jl.call (bclone_ct B10 d10 (rF b) (by omega)) en24 (by rfl) (by repeat (first | exact Take.nil | apply Take.cons (by repeat (first | exact Del.here | apply Del.there)))) (by repeat (first | exact trivial | refine And.intro (by repeat (first | exact Mem.here | apply Mem.there)) ?_)) ?_
    rintro ⟨A19, c19⟩
    refine Jl.pv (PR.assign rfl) ?_
    refine Jl.pv (PR.assign rfl) ?_
    refine Jl.pv (PR.assign rfl) ?_
    refine Jl.nil ?_
    refine Jq.thenN ?_
    refine Jc.ret ?_
    exact Jq.fin ((A17, c17), (A19, c19)) (.inl rfl) rfl (RetVs.tmp rfl (RetVs.tmp rfl (RetVs.tmp rfl RetVs.nil))) rfl (by repeat (first | exact Take.nil | apply Take.cons (by repeat (first | exact Del.here | apply Del.there)))) (by repeat (first | exact trivial | refine And.intro (by repeat (first | exact Mem.here | apply Mem.there)) ?_))

def fvals (b : List UInt8) (k : Nat) (y : OA) : List Value := [.int .i64 ((b.length : Int) - ((frameAt b k).2.length : Nat)), .slice y.1 (frameAt b k).1.length y.2]
def fposts (b : List UInt8) (k : Nat) (y : OA) : List Fact := [.rd y.1 (u8s (frameAt b k).1)]
structure FS (b : List UInt8) where
  k : Nat
  r : List UInt8
  A : Option Addr
  c : Nat
  m : Nat
  Φk : List Fact
  hI : FrI b k r
  hc : r.length ≤ c
theorem frames1_it (A : Option Addr) (c : Nat) (b : List UInt8) (hn : b.length ≤ 1000000) (hc : b.length ≤ c) (b0 : Nat) :
    ItY Try.prog 32 [.pointer (some ⟨b0, 0, none⟩)] [.blk b0 22 [.slice A b.length c]] [.rd A (u8s b)] (framesN b).length (fvals b) (fposts b) := by
  refine ItY.of _ Try.func32 Try.ntmps32 rfl rfl (by rfl) (by simp only [List.mem_singleton]; rintro φ rfl; exact Fact.rd_old _ _) (fun W l cl clx hy => ?_)
  refine Jc.scope (σ := FS b) (fun s => [(0, .func (.yield l) #[] #[]), (1, .pointer (some ⟨b0, 0, none⟩)), (3, .slice s.A s.r.length s.c)]) (fun s => [.blk b0 22 [.slice A b.length c]]) (fun s => [cl s.k s.m s.Φk, .sz s.m, .rd s.A (u8s s.r)]) (fun s => s.r.length) (l := 0) rfl ?_ ?_
  · rintro ⟨k, r, Ar, cr, m, Φk, hI, hcr⟩
    show Jc _ _ _ _ _ _ [(0, Value.func (.yield l) #[] #[]), (1, .pointer (some ⟨b0, 0, none⟩)), (3, .slice Ar r.length cr)] [.blk b0 22 [.slice A b.length c]] [cl k m Φk, .sz m, .rd Ar (u8s r)]
    replace hcr : r.length ≤ cr := hcr
    have hrl := hI.le
    have hpl := pF_len r
    refine Jc.seq ?_
    refine Jc.region ?_
    refine Jl.pv (PR.move rfl) ?_
    refine Jl.call ((cut_u Ar cr r (by omega) hcr).at m) en23 (by rfl) (by repeat (first | exact Take.nil | apply Take.cons (by repeat (first | exact Del.here | apply Del.there)))) (by repeat (first | exact trivial | refine And.intro (by repeat (first | exact Mem.here | apply Mem.there)) ?_)) ?_
    rintro ⟨⟨A10, c10⟩, ⟨B10, d10⟩⟩
    refine Jl.pure (p := (pF r).length ≤ c10 ∧ (rF r).length ≤ d10) (by repeat (first | exact Mem.here | apply Mem.there)) (fun _ _ h => h) fun hcap => ?_
    refine Jl.pv (PR.move rfl) ?_
    refine Jl.pv (PR.extract rfl (by rfl)) ?_
    refine Jl.pv (PR.extract rfl (by rfl)) ?_
    refine Jl.pv (PR.extract rfl (by rfl)) ?_
    refine Jl.pv (PR.assign rfl) ?_
    refine Jl.pv (PR.assign rfl) ?_
    refine Jl.pv (PR.assign rfl) ?_
    refine Jl.nil ?_
    refine Jq.thenN ?_
    refine Jc.seq ?_
    refine Jc.region ?_
    refine Jl.pv (PR.move rfl) ?_
    refine Jl.pv (PR.move rfl) ?_
    refine Jl.bsplit (fun g15 => ?_) (fun g15 => ?_)
    · try replace g15 := of_decide_eq_true g15
      obtain ⟨⟨p, r'⟩, hcf⟩ := Option.isSome_iff_exists.1 g15
      have hpr : pF r = p ∧ rF r = r' := by simp [pF, rF, hcf]
      obtain ⟨hkN, hfk, hI'⟩ := hI.next hcf
      have hfa : frameAt b k = (pF r, rF r) := by rw [frameAt_eq hfk, hpr.1, hpr.2]
      rw [← hpr.2] at hI'
      have hlt := (cutF_len hcf).1
      rw [← hpr.2] at hlt
      refine Jl.on rfl rfl ?_
      refine Jl.pv (PR.move rfl) ?_
      refine Jl.on rfl rfl ?_
      refine Jl.pv (PR.load1 rfl tsh22 (by repeat (first | exact Has.here | apply Has.there)) (by rfl)) ?_
      refine Jl.on rfl rfl ?_
      refine Jl.pv (PR.len rfl tsl22) ?_
      refine Jl.on rfl rfl ?_
      refine Jl.pv (PR.move rfl) ?_
      refine Jl.on rfl rfl ?_
      refine Jl.pv (PR.len rfl tsl22) ?_
      refine Jl.on rfl rfl ?_
      refine Jl.pv (PR.sub ((b.length : Int) - ((rF r).length : Nat)) rfl rfl (w64 (by omega) (by omega))) ?_
      refine Jl.on rfl rfl ?_
      refine Jl.pv (PR.move rfl) ?_
      refine Jl.on rfl rfl ?_
      refine hy _ _ _ _ _ _ _ _ _ _ _ _ _ _ k m (A10, c10) Φk [.rd A10 (u8s (pF r)), .rd B10 (u8s (rF r))] hkN rfl (by show some [_, _] = some (fvals b k (A10, c10)); simp only [fvals, hfa]) (by repeat (first | exact Mem.here | apply Mem.there)) (by repeat (first | exact trivial | refine And.intro (by repeat (first | exact Mem.here | apply Mem.there)) ?_)) (by intro φ hφ; simp only [fposts, hfa, List.mem_singleton] at hφ; subst hφ; simp) rfl (fun m23 => ?_) ?_
      · refine Jl.pv (PR.pickT rfl rfl) ?_
        refine Jl.nil ?_
        refine Jq.thenN ?_
        refine Jc.condT rfl ?_
        refine Jc.seq ?_
        refine Jc.region ?_
        refine Jl.pv (PR.move rfl) ?_
        refine Jl.pv (PR.assign rfl) ?_
        refine Jl.nil ?_
        refine Jq.thenN ?_
        refine Jc.goto ?_
        exact Jq.jmpB ⟨k + 1, rF r, B10, d10, m23, [.rd A10 (u8s (pF r)), .rd B10 (u8s (rF r))] ++ Φk, hI', hcap.2⟩ (by simp only; omega) (by exact ⟨rfl, rfl, rfl, trivial⟩) rfl (by exact ⟨(by repeat (first | exact Mem.here | apply Mem.there)), (by repeat (first | exact Mem.here | apply Mem.there)), (by repeat (first | exact Mem.here | apply Mem.there)), trivial⟩)
      · refine Jl.pv (PR.pickT rfl rfl) ?_
        refine Jl.nil ?_
        refine Jq.thenN ?_
        refine Jc.condF rfl ?_
        refine Jc.skip ?_
        refine Jq.jmpN ?_
        exact Jq.itStopY (.inr rfl) hkN (by repeat (first | exact Mem.here | apply Mem.there))
    · try replace g15 := of_decide_eq_false g15
      refine Jl.off rfl rfl rfl rfl ?_
      refine Jl.off rfl rfl rfl rfl ?_
      refine Jl.off rfl rfl rfl rfl ?_
      refine Jl.off rfl rfl rfl rfl ?_
      refine Jl.off rfl rfl rfl rfl ?_
      refine Jl.off rfl rfl rfl rfl ?_
      refine Jl.off rfl rfl rfl rfl ?_
      refine Jl.off rfl rfl rfl rfl ?_
      refine Jl.pv (PR.pickF rfl rfl) ?_
      refine Jl.nil ?_
      refine Jq.thenN ?_
      refine Jc.condF rfl ?_
      refine Jc.skip ?_
      refine Jq.jmpN ?_
      rw [hI.stop (by simpa using g15)]; exact Jq.itDoneY (.inr rfl) (by repeat (first | exact Mem.here | apply Mem.there))
  · intro hfirst0
    refine Jc.seq ?_
    refine Jc.region ?_
    refine Jl.pv (PR.load1 rfl tsh22 (by repeat (first | exact Has.here | apply Has.there)) (by rfl)) ?_
    refine Jl.pv (PR.assign rfl) ?_
    refine Jl.nil ?_
    refine Jq.thenN ?_
    refine Jc.seq ?_
    refine Jc.label ?_
    refine Jq.thenN ?_
    exact Jc.at_ hfirst0 ⟨0, b, A, c, W.heap.size, [], FrI.zero b, hc⟩ (by exact ⟨rfl, rfl, rfl, trivial⟩) rfl (by exact ⟨Mem.here, (by repeat (first | exact Mem.here | apply Mem.there)), (by repeat (first | exact Mem.here | apply Mem.there)), trivial⟩)

theorem frames_ct (A : Option Addr) (c n : Nat) : Ct Try.prog 26 [.slice A n c] [] [] (fun b : Nat => .func (.func 32) #[] #[.pointer (some ⟨b, 0, none⟩)]) (fun b => [.blk b 22 [.slice A n c]]) (fun _ => []) := by
  refine Ct.of _ Try.func26 Try.ntmps26 rfl rfl (fun X W => ?_)
  refine Jc.seq ?_
  refine Jc.region ?_
  refine Jl.box rfl (by rfl) ?_
  intro b1
  refine Jl.pv (PR.assign rfl) ?_
  refine Jl.nil ?_
  refine Jq.thenN ?_
  refine Jc.seq ?_
  refine Jc.region ?_
  refine Jl.pv (PR.makeFunc rfl rfl) ?_
  refine Jl.pv (PR.assign rfl) ?_
  refine Jl.nil ?_
  refine Jq.thenN ?_
  refine Jc.ret ?_
  exact Jq.fin b1 (.inl rfl) rfl (RetVs.tmp rfl RetVs.nil) rfl (by repeat (first | exact Take.nil | apply Take.cons (by repeat (first | exact Del.here | apply Del.there)))) (by repeat (first | exact trivial | refine And.intro (by repeat (first | exact Mem.here | apply Mem.there)) ?_))
end Go.Proofs.Ytnkekjhijkfckaa
