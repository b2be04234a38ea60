/-
Contracts of herd/frame: Sum, cut, Put, Long, Take.
-/
import Derived.Test.YtnkekjhijkfckaaJy
import Derived.Test.YtnkekjhijkfckaaNumC
import Derived.Test.YtnkekjhijkfckaaFrameP
namespace Go.Proofs.Ytnkekjhijkfckaa
set_option linter.unusedVariables false
open Go.RowKit
attribute [local irreducible] Res.blk Res.row Fact.rd
theorem bclone_ct (A : Option Addr) (c : Nat) (l : List UInt8) (hn : l.length ≤ 10000000) :
    Ct Try.prog 24 [.slice A l.length c] [] [.rd A (u8s l)] (fun x : Option Addr × Nat => .slice x.1 l.length x.2) (fun x => [.row 5 1 (.slice x.1 l.length x.2) l.length (u8s l)]) (fun _ => []) := by
  cases A with
  | none =>
    refine Ct.of _ Try.func24 Try.ntmps24 rfl rfl (fun X W => ?_)
    refine Jc.pure (p := l = []) Mem.here (fun X W h => ?_) ?_
    · cases l with
      | nil => rfl
      | cons x l => exact absurd (Fact.rd_none h) (by simp [u8s])
    rintro rfl
    refine Jc.seq ?_
    refine Jc.region ?_
    refine Jl.pv (PR.assign rfl) ?_
    refine Jl.nil ?_
    refine Jq.thenN ?_
    refine Jc.seq ?_
    refine Jc.seq ?_
    refine Jc.region ?_
    refine Jl.pv (PR.move rfl) ?_
    refine Jl.pv (PR.eqlNil true rfl tsl22 rfl) ?_
    refine Jl.nil ?_
    refine Jq.thenN ?_
    refine Jc.condT rfl ?_
    refine Jc.seq ?_
    refine Jc.region ?_
    refine Jl.pv (PR.assign rfl) ?_
    refine Jl.nil ?_
    refine Jq.thenN ?_
    refine Jc.ret ?_
    refine Jq.thenR ?_
    refine Jq.nilRow 5 1 ?_
    exact Jq.fin (none, 0) (.inl rfl) rfl (RetVs.tmp rfl RetVs.nil) rfl (by repeat (first | exact Take.nil | apply Take.cons (by repeat (first | exact Del.here | apply Del.there)))) (by repeat (first | exact trivial | refine And.intro (by repeat (first | exact Mem.here | apply Mem.there)) ?_))
  | some a =>
    refine Ct.of _ Try.func24 Try.ntmps24 rfl rfl (fun X W => ?_)
    refine Jc.seq ?_
    refine Jc.region ?_
    refine Jl.pv (PR.assign rfl) ?_
    refine Jl.nil ?_
    refine Jq.thenN ?_
    refine Jc.seq ?_
    refine Jc.seq ?_
    refine Jc.region ?_
    refine Jl.pv (PR.move rfl) ?_
    refine Jl.pv (PR.eqlNil false rfl tsl22 rfl) ?_
    refine Jl.nil ?_
    refine Jq.thenN ?_
    refine Jc.condF rfl ?_
    refine Jc.skip ?_
    refine Jq.thenN ?_
    refine Jc.seq ?_
    refine Jc.region ?_
    refine Jl.buildSlice (by rfl) tsl22 tzr22_0 (by rfl) (by rfl) ?_
    intro b5
    refine Jl.pv (PR.move rfl) ?_
    refine Jl.toRow 1 0 (by repeat (first | exact Swap.here | apply Swap.there)) (by rfl) (by rfl) ?_
    refine Jl.append l.length (u8s l) rfl rfl rfl tsl22 tze5 (by rfl) (by decide) tby5 (fun _ _ => (by repeat (first | exact Swap.here | apply Swap.there))) (by repeat (first | exact Mem.here | apply Mem.there)) (by omega) rfl (by simp [u8s]) (u8s_one _) (by omega) (by decide) ?_
    intro A7 c7
    refine Jl.pv (PR.assign rfl) ?_
    refine Jl.nil ?_
    refine Jq.thenN ?_
    refine Jc.ret ?_
    exact Jq.fin (A7, c7) (.inl rfl) rfl (RetVs.tmp rfl RetVs.nil) rfl (by repeat (first | exact Take.nil | apply Take.cons (by repeat (first | exact Del.here | apply Del.there)))) (by repeat (first | exact trivial | refine And.intro (by repeat (first | exact Mem.here | apply Mem.there)) ?_))

theorem sum_mul (s : Nat) (hs : s < 4294967296) : IntKind.u32.wrap (31 * (s : Int)) = ((31 * s % 4294967296 : Nat) : Int) := by rw [IntKind.wrap_u32]; omega
theorem sum_add (s c : Nat) : IntKind.u32.wrap (((31 * s % 4294967296 : Nat) : Int) + (c : Int)) = (((31 * s + c) % 4294967296 : Nat) : Int) := by rw [IntKind.wrap_u32]; omega
theorem sum_add7 (s c : Nat) : IntKind.u32.wrap ((((31 * s + c) % 4294967296 : Nat) : Int) + 7) = (((31 * s + c + 7) % 4294967296 : Nat) : Int) := by rw [IntKind.wrap_u32]; omega
theorem sum1_ct (b : Nat) (s : Nat) (c : UInt8) (hs : s < 4294967296) : Ct Try.prog 27 [.int .u8 c.toNat, .pointer (some ⟨b, 0, none⟩)] [.blk b 34 [.int .u32 (s : Int)]] [] (fun _ : Unit => .tuple #[]) (fun _ => [.blk b 34 [.int .u32 (sumS s c : Nat)]]) (fun _ => []) := by
  have hc : c.toNat < 256 := UInt8.toNat_lt c
  refine Ct.of _ Try.func27 Try.ntmps27 rfl rfl (fun X W => ?_)
  refine Jc.region ?_
  refine Jl.pv (PR.load1 rfl tsh34 (by repeat (first | exact Has.here | apply Has.there)) (by rfl)) ?_
  refine Jl.pv (PR.mul ((31 * s % 4294967296 : Nat) : Int) rfl rfl (sum_mul s hs)) ?_
  refine Jl.pv (PR.move rfl) ?_
  refine Jl.pv (PR.conv (c.toNat : Int) rfl Try.underlying5 Try.underlying34 (by rw [IntKind.wrap_u32]; omega)) ?_
  refine Jl.pv (PR.add (((31 * s + c.toNat) % 4294967296 : Nat) : Int) rfl rfl (sum_add s c.toNat)) ?_
  refine Jl.pv (PR.add ((sumS s c : Nat) : Int) rfl rfl (sum_add7 s c.toNat)) ?_
  refine Jl.store1 rfl tsh34 rfl (by rfl) (by repeat (first | exact Swap.here | apply Swap.there)) (by rfl) ?_
  refine Jl.nil ?_
  exact Jq.fin () (.inr rfl) rfl RetVs.nil rfl (by repeat (first | exact Take.nil | apply Take.cons (by repeat (first | exact Del.here | apply Del.there)))) (by repeat (first | exact trivial | refine And.intro (by repeat (first | exact Mem.here | apply Mem.there)) ?_))

theorem sum_ct (A : Option Addr) (c : Nat) (l : List UInt8) (hn : l.length ≤ 1000000) : Ct Try.prog 17 [.slice A l.length c] [] [.rd A (u8s l)] (fun _ : Unit => .int .u32 (sumN l : Nat)) (fun _ => []) (fun _ => []) := by
  refine Ct.of _ Try.func17 Try.ntmps17 rfl rfl (fun X W => ?_)
  refine Jc.seq ?_
  refine Jc.region ?_
  refine Jl.pv (PR.assign rfl) ?_
  refine Jl.nil ?_
  refine Jq.thenN ?_
  refine Jc.seq ?_
  refine Jc.region ?_
  refine Jl.alloc tze34 ?_
  intro b3
  refine Jl.store1 rfl tsh34 rfl (by rfl) (by repeat (first | exact Swap.here | apply Swap.there)) (by rfl) ?_
  refine Jl.nil ?_
  refine Jq.thenN ?_
  refine Jc.seq ?_
  refine Jc.region ?_
  refine Jl.pv (PR.makeFunc rfl rfl) ?_
  refine Jl.pv (PR.assign rfl) ?_
  refine Jl.nil ?_
  refine Jq.thenN ?_
  refine Jc.seq ?_
  refine Jc.seq ?_
  refine Jc.region ?_
  refine Jl.pv (PR.move rfl) ?_
  refine Jl.pv (PR.len rfl tsl22) ?_
  refine Jl.pv (PR.move rfl) ?_
  refine Jl.nil ?_
  refine Jq.thenN ?_
  refine Jc.block ?_
  refine Jc.loop (σ := { k : Nat // k ≤ l.length }) (fun s => [(10, .int .i64 (s.1 : Int)), (9, .int .i64 (l.length : Int)), (8, .slice A l.length c), (3, .pointer (some ⟨b3, 0, none⟩)), (4, .func (.func 27) #[] #[.pointer (some ⟨b3, 0, none⟩)])]) (fun s => [.blk b3 34 [.int .u32 (sumN (l.take s.1) : Nat)]]) (fun _ => [.rd A (u8s l)]) (fun s => l.length - s.1) ⟨0, Nat.zero_le _⟩ (by exact ⟨rfl, rfl, rfl, rfl, rfl, trivial⟩) rfl (by exact ⟨Mem.here, trivial⟩) ?_
  rintro ⟨k, hk⟩
  show Jc _ _ _ _ _ _ [(10, Value.int .i64 (k : Int)), (9, Value.int .i64 (l.length : Int)), (8, .slice A l.length c), (3, .pointer (some ⟨b3, 0, none⟩)), (4, .func (.func 27) #[] #[.pointer (some ⟨b3, 0, none⟩)])] [.blk b3 34 [.int .u32 (sumN (l.take k) : Nat)]] [.rd A (u8s l)]
  refine Jc.seq ?_
  refine Jc.region ?_
  refine Jl.pv (PR.lss _ rfl rfl rfl) ?_
  refine Jl.nil ?_
  refine Jq.thenN ?_
  refine Jc.seq ?_
  refine Jc.cond rfl (fun hlt => ?_) (fun hlt => ?_)
  · try replace hlt := of_decide_eq_true hlt
    have hlt' : k < l.length := by omega
    refine Jc.skip ?_
    refine Jq.thenN ?_
    refine Jc.seq ?_
    refine Jc.block ?_
    refine Jc.seq ?_
    refine Jc.region ?_
    refine Jl.pv (PR.idx1 k rfl rfl tsl22 (by repeat (first | exact Mem.here | apply Mem.there)) (by simp [u8s]) rfl hlt') ?_
    refine Jl.pv (PR.loadR rfl tsh5 (by repeat (first | exact Mem.here | apply Mem.there)) (getu hlt')) ?_
    refine Jl.pv (PR.assign rfl) ?_
    refine Jl.nil ?_
    refine Jq.thenN ?_
    refine Jc.region ?_
    refine Jl.pv (PR.move rfl) ?_
    refine Jl.pv (PR.move rfl) ?_
    refine Jl.callv (sum1_ct b3 (sumN (l.take k)) l[k] (sumN_lt _)) en27 rfl (by rfl) (by rfl) (by repeat (first | exact Take.nil | apply Take.cons (by repeat (first | exact Del.here | apply Del.there)))) (by repeat (first | exact trivial | refine And.intro (by repeat (first | exact Mem.here | apply Mem.there)) ?_)) ?_
    rintro ⟨⟩
    refine Jl.nil ?_
    refine Jq.blkN ?_
    refine Jq.thenN ?_
    refine Jc.region ?_
    refine Jl.pv (PR.add ((k + 1 : Nat) : Int) rfl rfl (by rw [w64 (by omega) (by omega)]; rfl)) ?_
    refine Jl.pv (PR.move rfl) ?_
    refine Jl.nil ?_
    refine Jq.again ⟨k + 1, hlt'⟩ (by simp only; omega) (by exact ⟨rfl, rfl, rfl, rfl, rfl, trivial⟩) (by simp only [sumN_take l k hlt']; rfl) (by exact ⟨Mem.here, trivial⟩)
  · try replace hlt := of_decide_eq_false hlt
    obtain rfl : k = l.length := by omega
    rw [List.take_length]
    refine Jc.exit ?_
    refine Jq.thenX ?_
    refine Jq.thenX ?_
    refine Jq.blkX ?_
    refine Jq.thenN ?_
    refine Jc.seq ?_
    refine Jc.region ?_
    refine Jl.pv (PR.load1 rfl tsh34 (by repeat (first | exact Has.here | apply Has.there)) (by rfl)) ?_
    refine Jl.pv (PR.assign rfl) ?_
    refine Jl.nil ?_
    refine Jq.thenN ?_
    refine Jc.ret ?_
    exact Jq.fin () (.inl rfl) rfl (RetVs.tmp rfl RetVs.nil) rfl (by repeat (first | exact Take.nil | apply Take.cons (by repeat (first | exact Del.here | apply Del.there)))) (by repeat (first | exact trivial | refine And.intro (by repeat (first | exact Mem.here | apply Mem.there)) ?_))

theorem sumB_len (s : Nat) : (sumB s).length = 4 := rfl
theorem sumB_at (s k : Nat) (hk : k < 4) : (sumB s)[k]? = some (UInt8.ofNat (s / 2 ^ (8 * k))) := by
  obtain rfl | rfl | rfl | rfl : k = 0 ∨ k = 1 ∨ k = 2 ∨ k = 3 := by omega
  all_goals simp [sumB]
theorem shr_sum (s k : Nat) (hk : k < 4) : Int.fdiv (s : Int) (2 ^ (min ((8 * k : Nat) : Int).toNat IntKind.u32.bits)) = ((s / 2 ^ (8 * k) : Nat) : Int) := by
  have e : min ((8 * k : Nat) : Int).toNat IntKind.u32.bits = 8 * k := by show min _ 32 = _; omega
  rw [e, Int.fdiv_eq_ediv_of_nonneg _ (Int.pow_nonneg (by decide))]
  norm_cast
theorem four_eq {a b : List UInt8} (h1 : a.length = 4) (h2 : b.length = 4) (h : ∀ j, j < 4 → a[j]? = b[j]?) : a = b := by
  apply List.ext_getElem?
  intro j
  by_cases hj : j < 4
  · exact h j hj
  · rw [List.getElem?_eq_none (by omega), List.getElem?_eq_none (by omega)]
def cutV (t : Option (List UInt8 × List UInt8)) (x : OA × OA) : Value := match t with
  | some (p, r) => .tuple #[.slice x.1.1 p.length x.1.2, .slice x.2.1 r.length x.2.2, .bool true]
  | none => .tuple #[.slice x.1.1 0 x.1.2, .slice x.2.1 0 x.2.2, .bool false]
def cutY (t : Option (List UInt8 × List UInt8)) (x : OA × OA) : List Fact := match t with
  | some (p, r) => [.rd x.1.1 (u8s p), .rd x.2.1 (u8s r)]
  | none => [.rd x.1.1 [], .rd x.2.1 []]
def cutC (t : Option (List UInt8 × List UInt8)) (x : OA × OA) : Prop := match t with
  | some (p, r) => p.length ≤ x.1.2 ∧ r.length ≤ x.2.2
  | none => 0 ≤ x.1.2 ∧ 0 ≤ x.2.2
theorem yg_nil (m : Nat) (A : Option Addr) (X : Nat → Prop) (W : World) : (Fact.yg m (.rd A [])).p X W := Fact.rd_nil A _ W
theorem cut_cty (A : Option Addr) (c : Nat) (b : List UInt8) (hn : b.length ≤ 1000000) (hc : b.length ≤ c) :
    CtY Try.prog 23 [.slice A b.length c] [] [.rd A (u8s b)] (cutV (cutF b)) (fun _ => []) (fun x => [.is (cutC (cutF b) x)]) (cutY (cutF b)) := by
  obtain ⟨n, r0, e0, ht⟩ : ∃ n r0 e0, takeN b = (n, r0, e0) := ⟨_, _, _, rfl⟩
  have htl : r0.length ≤ b.length := by have := takeN_len b; rw [ht] at this; exact this
  have hcf : cutF b = if e0 = 0 ∧ n ≤ 4000 ∧ n + 4 ≤ r0.length ∧ (r0.drop n).take 4 = sumB (sumN (r0.take n)) then some (r0.take n, r0.drop (n + 4)) else none := by rw [cutF, ht]
  have hct : Ct Try.prog 31 [.slice A b.length c] [] [.rd A (u8s b)] (fun x : OA => .tuple #[.int .i64 (n : Int), .slice x.1 r0.length x.2, .int .i64 (e0 : Int)]) (rowU r0) (fun _ => []) := take_at ht hn hc
  clear ht
  refine CtY.of _ Try.func23 Try.ntmps23 rfl rfl (fun X W => ?_)
  refine Jc.seq ?_
  refine Jc.region ?_
  refine Jl.pv (PR.assign rfl) ?_
  refine Jl.pv (PR.assign rfl) ?_
  refine Jl.pv (PR.assign rfl) ?_
  refine Jl.nil ?_
  refine Jq.thenN ?_
  refine Jc.scope (σ := { _u : Unit // cutF b = none }) (fun _ => []) (fun _ => []) (fun _ => []) (fun _ => 0) (l := 0) rfl ?_ ?_
  · rintro ⟨_, hcn⟩
    rw [hcn]
    refine Jc.seq ?_
    refine Jc.region ?_
    refine Jl.pv (PR.assign rfl) ?_
    refine Jl.pv (PR.assign rfl) ?_
    refine Jl.pv (PR.assign rfl) ?_
    refine Jl.nil ?_
    refine Jq.thenN ?_
    refine Jc.ret ?_
    refine Jq.jmpR ?_
    refine Jq.fact0 (.yg W.heap.size (.rd none [])) (fun X' W' => yg_nil _ _ X' W') ?_
    refine Jq.fact0 (.is (cutC none ((none, 0), (none, 0)))) (fun _ _ => ⟨Nat.le_refl 0, Nat.le_refl 0⟩) ?_
    exact Jq.fin ((none, 0), (none, 0)) (.inl rfl) rfl (RetVs.tmp rfl (RetVs.tmp rfl (RetVs.tmp rfl RetVs.nil))) rfl (by repeat (first | exact Take.nil | apply Take.cons (by repeat (first | exact Del.here | apply Del.there)))) (by repeat (first | exact trivial | refine And.intro (by repeat (first | exact Mem.here | apply Mem.there)) ?_))
  · intro hfirst0
    refine Jc.seq ?_
    refine Jc.region ?_
    refine Jl.pv (PR.move rfl) ?_
    refine Jl.call hct en31 (by rfl) (by repeat (first | exact Take.nil | apply Take.cons (by repeat (first | exact Del.here | apply Del.there)))) (by repeat (first | exact trivial | refine And.intro (by repeat (first | exact Mem.here | apply Mem.there)) ?_)) ?_
    rintro ⟨A11, c11⟩
    refine Jl.sealY (fun _ h => h) (by repeat (first | exact Del.here | apply Del.there)) (fun hc11 => ?_)
    refine Jl.pv (PR.move rfl) ?_
    refine Jl.pv (PR.extract rfl (by rfl)) ?_
    refine Jl.pv (PR.extract rfl (by rfl)) ?_
    refine Jl.pv (PR.extract rfl (by rfl)) ?_
    refine Jl.pv (PR.assign rfl) ?_
    refine Jl.pv (PR.assign rfl) ?_
    refine Jl.pv (PR.assign rfl) ?_
    refine Jl.nil ?_
    refine Jq.thenN ?_
    refine Jc.seq ?_
    refine Jc.seq ?_
    refine Jc.region ?_
    refine Jl.pv (PR.move rfl) ?_
    refine Jl.pv (PR.neq _ rfl rfl rfl) ?_
    refine Jl.pv (PR.move rfl) ?_
    refine Jl.bsplit (fun g17 => ?_) (fun g17 => ?_)
    · try replace g17 := of_decide_eq_true g17
      refine Jl.off rfl rfl rfl rfl ?_
      refine Jl.off rfl rfl rfl rfl ?_
      refine Jl.pv (PR.pickT rfl rfl) ?_
      refine Jl.pv (PR.move rfl) ?_
      refine Jl.off rfl rfl rfl rfl ?_
      refine Jl.off rfl rfl rfl rfl ?_
      refine Jl.off rfl rfl rfl rfl ?_
      refine Jl.off rfl rfl rfl rfl ?_
      refine Jl.off rfl rfl rfl rfl ?_
      refine Jl.pv (PR.pickT rfl rfl) ?_
      refine Jl.nil ?_
      refine Jq.thenN ?_
      refine Jc.condT rfl ?_
      refine Jc.goto ?_
      refine Jq.thenG ?_
      exact Jq.jmpA ⟨(), by rw [hcf, if_neg (by omega)]⟩ trivial rfl trivial
    · try replace g17 := of_decide_eq_false g17
      refine Jl.on rfl rfl ?_
      refine Jl.pv (PR.move rfl) ?_
      refine Jl.on rfl rfl ?_
      refine Jl.pv (PR.gtr _ rfl rfl rfl) ?_
      refine Jl.pv (PR.pickF rfl rfl) ?_
      refine Jl.pv (PR.move rfl) ?_
      refine Jl.bsplit (fun g21 => ?_) (fun g21 => ?_)
      · try replace g21 := of_decide_eq_true g21
        refine Jl.off rfl rfl rfl rfl ?_
        refine Jl.off rfl rfl rfl rfl ?_
        refine Jl.off rfl rfl rfl rfl ?_
        refine Jl.off rfl rfl rfl rfl ?_
        refine Jl.off rfl rfl rfl rfl ?_
        refine Jl.pv (PR.pickT rfl rfl) ?_
        refine Jl.nil ?_
        refine Jq.thenN ?_
        refine Jc.condT rfl ?_
        refine Jc.goto ?_
        refine Jq.thenG ?_
        exact Jq.jmpA ⟨(), by rw [hcf, if_neg (by omega)]⟩ trivial rfl trivial
      · try replace g21 := of_decide_eq_false g21
        refine Jl.on rfl rfl ?_
        refine Jl.pv (PR.move rfl) ?_
        refine Jl.on rfl rfl ?_
        refine Jl.pv (PR.len rfl tsl22) ?_
        refine Jl.on rfl rfl ?_
        refine Jl.pv (PR.move rfl) ?_
        refine Jl.on rfl rfl ?_
        refine Jl.pv (PR.add ((n + 4 : Nat) : Int) rfl rfl (by rw [w64 (by omega) (by omega)]; rfl)) ?_
        refine Jl.on rfl rfl ?_
        refine Jl.pv (PR.lss _ rfl rfl rfl) ?_
        refine Jl.pv (PR.pickF rfl rfl) ?_
        refine Jl.nil ?_
        refine Jq.thenN ?_
        refine Jc.cond rfl (fun h0 => ?_) (fun h0 => ?_)
        · try replace h0 := of_decide_eq_true h0
          refine Jc.goto ?_
          refine Jq.thenG ?_
          exact Jq.jmpA ⟨(), by rw [hcf, if_neg (by omega)]⟩ trivial rfl trivial
        · try replace h0 := of_decide_eq_false h0
          have hn4 : n + 4 ≤ r0.length := by omega
          obtain ⟨ck, hck⟩ : ∃ ck, (r0.drop n).take 4 = ck := ⟨_, rfl⟩
          have hckl : ck.length = 4 := by rw [← hck]; simp; omega
          have hpl : (r0.take n).length = n := by simp; omega
          refine Jc.skip ?_
          refine Jq.thenN ?_
          refine Jc.seq ?_
          refine Jc.region ?_
          refine Jl.pv (PR.move rfl) ?_
          refine Jl.pv (PR.move rfl) ?_
          refine Jl.sliceY 0 n n (u8s (r0.take n)) rfl tsl22 rfl rfl (by repeat (first | exact Mem.here | apply Mem.there)) (by omega) (by omega) hc11 rfl (sl_take r0 n) ?_
          intro A30 c30 hc30
          skip
          refine Jl.pv (PR.assign rfl) ?_
          refine Jl.nil ?_
          refine Jq.thenN ?_
          refine Jc.seq ?_
          refine Jc.seq ?_
          refine Jc.region ?_
          refine Jl.pv (PR.move rfl) ?_
          refine Jl.pv (PR.move rfl) ?_
          refine Jl.pv (PR.move rfl) ?_
          refine Jl.pv (PR.add ((n + 4 : Nat) : Int) rfl rfl (by rw [w64 (by omega) (by omega)]; rfl)) ?_
          refine Jl.slice n (n + 4) 4 (u8s ck) rfl tsl22 rfl rfl (by repeat (first | exact Mem.here | apply Mem.there)) (by omega) hn4 hc11 (by omega) (by rw [← hck]; simp [u8s, List.map_drop, List.map_take]) ?_
          intro A35 c35 hc35
          clear hc35
          refine Jl.pv (PR.len rfl tsl22) ?_
          refine Jl.pv (PR.move rfl) ?_
          refine Jl.nil ?_
          refine Jq.thenN ?_
          refine Jc.block ?_
          refine Jc.loop (σ := { k : Nat // k ≤ 4 ∧ ∀ j, j < k → ck[j]? = (sumB (sumN (r0.take n)))[j]? }) (fun s => [(37, .int .i64 (s.1 : Int)), (36, .int .i64 4), (35, .slice A35 4 c35), (2, .slice A30 n c30), (3, .slice A11 r0.length c11), (5, .int .i64 (n : Int))]) (fun _ => []) (fun _ => [.rd A35 (u8s ck), .yg W.heap.size (.rd A30 (u8s (r0.take n))), .rd A30 (u8s (r0.take n)), .yg W.heap.size (.rd A11 (u8s r0))]) (fun s => 4 - s.1) ⟨0, by omega, fun j h => by omega⟩ (by exact ⟨rfl, rfl, rfl, rfl, rfl, rfl, trivial⟩) rfl (by exact ⟨(by repeat (first | exact Mem.here | apply Mem.there)), (by repeat (first | exact Mem.here | apply Mem.there)), (by repeat (first | exact Mem.here | apply Mem.there)), (by repeat (first | exact Mem.here | apply Mem.there)), trivial⟩) ?_
          rintro ⟨k, hk, hkj⟩
          show Jc _ _ _ _ _ _ [(37, Value.int .i64 (k : Int)), (36, .int .i64 4), (35, .slice A35 4 c35), (2, .slice A30 n c30), (3, .slice A11 r0.length c11), (5, .int .i64 (n : Int))] [] [.rd A35 (u8s ck), .yg W.heap.size (.rd A30 (u8s (r0.take n))), .rd A30 (u8s (r0.take n)), .yg W.heap.size (.rd A11 (u8s r0))]
          refine Jc.seq ?_
          refine Jc.region ?_
          refine Jl.pv (PR.lss _ rfl rfl rfl) ?_
          refine Jl.nil ?_
          refine Jq.thenN ?_
          refine Jc.seq ?_
          refine Jc.cond rfl (fun hlt => ?_) (fun hlt => ?_)
          · try replace hlt := of_decide_eq_true hlt
            have hlt' : k < 4 := by omega
            have hkc : k < ck.length := by omega
            refine Jc.skip ?_
            refine Jq.thenN ?_
            refine Jc.seq ?_
            refine Jc.block ?_
            refine Jc.seq ?_
            refine Jc.region ?_
            refine Jl.pv (PR.move rfl) ?_
            refine Jl.pv (PR.idx1 k rfl rfl tsl22 (by repeat (first | exact Mem.here | apply Mem.there)) (by simp [u8s, hckl]) rfl hlt') ?_
            refine Jl.pv (PR.loadR rfl tsh5 (by repeat (first | exact Mem.here | apply Mem.there)) (getu hkc)) ?_
            refine Jl.pv (PR.assign rfl) ?_
            refine Jl.pv (PR.assign rfl) ?_
            refine Jl.nil ?_
            refine Jq.thenN ?_
            refine Jc.seq ?_
            refine Jc.region ?_
            refine Jl.pv (PR.move rfl) ?_
            refine Jl.pv (PR.move rfl) ?_
            rw [show Value.slice A30 n c30 = Value.slice A30 (r0.take n).length c30 by rw [hpl]]
            refine Jl.call (sum_ct A30 c30 (r0.take n) (by omega)) en17 (by rfl) (by repeat (first | exact Take.nil | apply Take.cons (by repeat (first | exact Del.here | apply Del.there)))) (by repeat (first | exact trivial | refine And.intro (by repeat (first | exact Mem.here | apply Mem.there)) ?_)) ?_
            rintro ⟨⟩
            refine Jl.pv (PR.move rfl) ?_
            refine Jl.pv (PR.mul ((8 * k : Nat) : Int) rfl rfl (by rw [w64 (by omega) (by omega)]; rfl)) ?_
            refine Jl.pv (PR.shr ((sumN (r0.take n) / 2 ^ (8 * k) : Nat) : Int) rfl rfl (decide_eq_true (by omega)) (shr_sum _ k hlt')) ?_
            refine Jl.pv (PR.conv ((sumN (r0.take n) / 2 ^ (8 * k) % 256 : Nat) : Int) rfl Try.underlying34 Try.underlying5 (by rw [IntKind.wrap_u8]; rfl)) ?_
            refine Jl.pv (PR.neq _ rfl rfl rfl) ?_
            refine Jl.nil ?_
            refine Jq.thenN ?_
            refine Jc.cond rfl (fun hne => ?_) (fun hne => ?_)
            · try replace hne := of_decide_eq_true hne
              refine Jc.goto ?_
              refine Jq.blkG ?_
              refine Jq.thenG ?_
              refine Jq.thenG ?_
              refine Jq.blkG ?_
              refine Jq.thenG ?_
              have hcn : cutF b = none := by
                rw [hcf]
                refine if_neg ?_
                rintro ⟨_, _, _, h4⟩
                have h5 := sumB_at (sumN (r0.take n)) k hlt'
                rw [← h4, hck, List.getElem?_eq_getElem hkc] at h5
                have h6 := congrArg UInt8.toNat (Option.some.inj h5)
                simp only [UInt8.toNat_ofNat'] at h6
                omega
              exact Jq.jmpA ⟨(), hcn⟩ trivial rfl trivial
            · try replace hne := of_decide_eq_false hne
              refine Jc.skip ?_
              refine Jq.blkN ?_
              refine Jq.thenN ?_
              refine Jc.region ?_
              refine Jl.pv (PR.add ((k + 1 : Nat) : Int) rfl rfl (by rw [w64 (by omega) (by omega)]; rfl)) ?_
              refine Jl.pv (PR.move rfl) ?_
              refine Jl.nil ?_
              refine Jq.again ⟨k + 1, hlt', fun j hj => ?_⟩ (by simp only; omega) (by exact ⟨rfl, rfl, rfl, rfl, rfl, rfl, trivial⟩) rfl (by exact ⟨(by repeat (first | exact Mem.here | apply Mem.there)), (by repeat (first | exact Mem.here | apply Mem.there)), (by repeat (first | exact Mem.here | apply Mem.there)), (by repeat (first | exact Mem.here | apply Mem.there)), trivial⟩)
              rcases Nat.lt_or_ge j k with h1 | h1
              · exact hkj j h1
              · obtain rfl : j = k := by omega
                rw [sumB_at _ _ hlt', List.getElem?_eq_getElem hkc]
                exact congrArg some (UInt8.toNat_inj.1 (by simp only [UInt8.toNat_ofNat']; omega))
          · try replace hlt := of_decide_eq_false hlt
            obtain rfl : k = 4 := by omega
            have hcs : cutF b = some (r0.take n, r0.drop (n + 4)) := by rw [hcf, if_pos ⟨by omega, by omega, hn4, by rw [hck]; exact four_eq hckl rfl hkj⟩]
            rw [hcs]
            refine Jc.exit ?_
            refine Jq.thenX ?_
            refine Jq.thenX ?_
            refine Jq.blkX ?_
            refine Jq.thenN ?_
            refine Jc.seq ?_
            refine Jc.seq ?_
            refine Jc.drawn [0, 0, 0, 4, 14, 1, 63, 127] ([(0, false), (1, false), (2, false), (3, false), (4, false), (5, false), (6, false), (7, false)], []) [] tmx (by kernel_rfl) ?_
            refine Dh.JH.nil ?_
            refine Dh.JB.pv rfl trivial (fun _ => PR.move rfl) ?_
            refine Dh.JB.pv rfl trivial (fun _ => PR.move rfl) ?_
            refine Dh.JB.pv rfl trivial (fun _ => PR.move rfl) ?_
            refine Dh.JB.pv rfl trivial (fun _ => PR.add ((n + 4 : Nat) : Int) rfl rfl (by rw [w64 (by omega) (by omega)]; rfl)) ?_
            refine Dh.JB.sliceY (n + 4) r0.length (r0.length - (n + 4)) (u8s (r0.drop (n + 4))) rfl trivial rfl tsl22 rfl rfl (by repeat (first | exact Mem.here | apply Mem.there)) hn4 (by omega) hc11 rfl (sl_end r0 (n + 4)) ?_
            intro A55 c55 hc55
            skip
            refine Dh.JB.pv rfl trivial (fun _ => PR.assign rfl) ?_
            refine Dh.JB.pv rfl trivial (fun _ => PR.assign rfl) ?_
            refine Dh.JB.pv rfl trivial (fun _ => PR.assign rfl) ?_
            refine Dh.JB.nil ?_
            refine Dh.JL.nil ?_
            refine Jq.thenN ?_
            refine Jc.ret ?_
            refine Jq.thenR ?_
            refine Jq.jmpR ?_
            have hdl : (r0.drop (n + 4)).length = r0.length - (n + 4) := by simp
            have hcap : (r0.take n).length ≤ c30 ∧ (r0.drop (n + 4)).length ≤ c55 := by rw [hpl, hdl]; simp only at hc11; omega
            refine Jq.fact0 (.is (cutC (some (r0.take n, r0.drop (n + 4))) ((A30, c30), (A55, c55)))) (fun _ _ => hcap) ?_
            exact Jq.fin ((A30, c30), (A55, c55)) (.inl rfl) rfl (RetVs.tmp rfl (RetVs.tmp rfl (RetVs.tmp rfl RetVs.nil))) (by simp only [cutV, retval, hpl, hdl]) (by repeat (first | exact Take.nil | apply Take.cons (by repeat (first | exact Del.here | apply Del.there)))) (by repeat (first | exact trivial | refine And.intro (by repeat (first | exact Mem.here | apply Mem.there)) ?_))

end Go.Proofs.Ytnkekjhijkfckaa
