/-
Contracts of herd/num: Put.
-/
import Derived.Test.YtnkekjhijkfckaaNumB
namespace Go.Proofs.Ytnkekjhijkfckaa
set_option linter.unusedVariables false
open Go.RowKit
attribute [local irreducible] Res.blk Res.row Fact.rd
theorem put1_ct (n : Int) : Ct Try.prog 21 [.int .i64 n] [] [] (fun x : Option Addr × Nat => .tuple #[.slice x.1 (putN n).length x.2, .int .i64 (putR n)]) (rowU (putN n)) (fun _ => []) := by
  by_cases hfn : fineN n = true
  · have hf : 0 ≤ n ∧ n ≤ 1099511627776 := by simpa [fineN] using hfn
    obtain ⟨m, rfl⟩ : ∃ m : Nat, n = m := ⟨n.toNat, by omega⟩
    have e1 : putN (m : Int) = putB m := if_pos hfn
    have e2 : putR (m : Int) = 0 := if_pos hfn
    rw [e1, e2]
    refine Ct.of _ Try.func21 Try.ntmps21 rfl rfl (fun X W => ?_)
    refine Jc.seq ?_
    refine Jc.region ?_
    refine Jl.pv (PR.assign rfl) ?_
    refine Jl.pv (PR.assign rfl) ?_
    refine Jl.nil ?_
    refine Jq.thenN ?_
    refine Jc.seq ?_
    refine Jc.seq ?_
    refine Jc.region ?_
    refine Jl.pv (PR.move rfl) ?_
    refine Jl.call (long_ct m) en28 (by rfl) (by repeat (first | exact Take.nil | apply Take.cons (by repeat (first | exact Del.here | apply Del.there)))) (by repeat (first | exact trivial | refine And.intro (by repeat (first | exact Mem.here | apply Mem.there)) ?_)) ?_
    rintro ⟨⟩
    refine Jl.pv (PR.eql false rfl rfl (by have := longZ_eq0 (m : Int); simp [hfn] at this; simpa using this)) ?_
    refine Jl.nil ?_
    refine Jq.thenN ?_
    refine Jc.condF rfl ?_
    refine Jc.skip ?_
    refine Jq.thenN ?_
    refine Jc.seq ?_
    refine Jc.region ?_
    refine Jl.pv (PR.move rfl) ?_
    refine Jl.nilRow 5 1 ?_
    refine Jl.call (put_ct [] none 0 m (by omega) (by simp)) en29 (by rfl) (by repeat (first | exact Take.nil | apply Take.cons (by repeat (first | exact Del.here | apply Del.there)))) (by repeat (first | exact trivial | refine And.intro (by repeat (first | exact Mem.here | apply Mem.there)) ?_)) ?_
    rintro ⟨A8, c8⟩
    refine Jl.pv (PR.assign rfl) ?_
    refine Jl.pv (PR.assign rfl) ?_
    refine Jl.nil ?_
    refine Jq.thenN ?_
    refine Jc.ret ?_
    exact Jq.fin (A8, c8) (.inl rfl) rfl (RetVs.tmp rfl (RetVs.tmp rfl RetVs.nil)) rfl (by repeat (first | exact Take.nil | apply Take.cons (by repeat (first | exact Del.here | apply Del.there)))) (by repeat (first | exact trivial | refine And.intro (by repeat (first | exact Mem.here | apply Mem.there)) ?_))
  · have hz := (longZ_eq0 n).2 (by simpa using hfn)
    have e1 : putN n = [] := if_neg hfn
    have e2 : putR n = 2 := if_neg hfn
    rw [e1, e2]
    refine Ct.of _ Try.func21 Try.ntmps21 rfl rfl (fun X W => ?_)
    refine Jc.seq ?_
    refine Jc.region ?_
    refine Jl.pv (PR.assign rfl) ?_
    refine Jl.pv (PR.assign rfl) ?_
    refine Jl.nil ?_
    refine Jq.thenN ?_
    refine Jc.seq ?_
    refine Jc.seq ?_
    refine Jc.region ?_
    refine Jl.pv (PR.move rfl) ?_
    refine Jl.call (long_ct n) en28 (by rfl) (by repeat (first | exact Take.nil | apply Take.cons (by repeat (first | exact Del.here | apply Del.there)))) (by repeat (first | exact trivial | refine And.intro (by repeat (first | exact Mem.here | apply Mem.there)) ?_)) ?_
    rintro ⟨⟩
    refine Jl.pv (PR.eql true rfl rfl (by simpa using hz)) ?_
    refine Jl.nil ?_
    refine Jq.thenN ?_
    refine Jc.condT rfl ?_
    refine Jc.seq ?_
    refine Jc.region ?_
    refine Jl.pv (PR.assign rfl) ?_
    refine Jl.pv (PR.assign rfl) ?_
    refine Jl.nil ?_
    refine Jq.thenN ?_
    refine Jc.ret ?_
    refine Jq.thenR ?_
    refine Jq.nilRow 5 1 ?_
    exact Jq.fin (none, 0) (.inl rfl) rfl (RetVs.tmp rfl (RetVs.tmp rfl RetVs.nil)) rfl (by repeat (first | exact Take.nil | apply Take.cons (by repeat (first | exact Del.here | apply Del.there)))) (by repeat (first | exact trivial | refine And.intro (by repeat (first | exact Mem.here | apply Mem.there)) ?_))

abbrev OA := Option Addr × Nat
def natI (l : List Nat) : List Value := l.map fun n : Nat => Value.int .i64 (n : Int)
theorem put1_at {n : Int} {l : List UInt8} {r : Int} (h : putN n = l) (h2 : putR n = r) : Ct Try.prog 21 [.int .i64 n] [] [] (fun x : Option Addr × Nat => .tuple #[.slice x.1 l.length x.2, .int .i64 r]) (rowU l) (fun _ => []) := by
  subst h h2; exact put1_ct n
theorem take_at {A : Option Addr} {c : Nat} {b : List UInt8} {t : Nat × List UInt8 × Nat} (h : takeN b = t) (hn : b.length ≤ 1000000) (hc : b.length ≤ c) : Ct Try.prog 31 [.slice A b.length c] [] [.rd A (u8s b)] (takeV t) (rowU t.2.1) (fun _ => []) := by
  subst h; exact take_ct A c b hn hc

theorem put_fine {a : Int} (h : fineN a = true) : Ct Try.prog 21 [.int .i64 a] [] [] (fun x : Option Addr × Nat => .tuple #[.slice x.1 (putB a).length x.2, .int .i64 0]) (rowU (putB a)) (fun _ => []) := put1_at (if_pos h) (if_pos h)
theorem sl_take (b : List UInt8) (k : Nat) : ((u8s b).drop (0 * 1)).take (k * 1) = u8s (b.take k) := by simp [u8s]

end Go.Proofs.Ytnkekjhijkfckaa
