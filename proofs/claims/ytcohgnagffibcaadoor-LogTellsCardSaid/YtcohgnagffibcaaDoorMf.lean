/-
Texts of other layers, in one: FrameP, FrameA, FrameQ, LFb, LFt, LFu.
-/
import Derived.Test.YtcohgnagffibcaaDoorMn
import Derived.Test.YtcohgnagffibcaaDoorJy
import Derived.Test.YtcohgnagffibcaaDoorJk
import Derived.Test.YtcohgnagffibcaaDoorJw
namespace Go.Proofs.YtcohgnagffibcaaDoor
set_option linter.unusedVariables false
/-- Sums. -/
def fsS (s : Nat) (c : UInt8) : Nat := (31 * s + c.toNat + 7) % 4294967296
def sumN (b : List UInt8) : Nat := b.foldl fsS 1
theorem fsS_lt (s : Nat) (c : UInt8) : fsS s c < 4294967296 := Nat.mod_lt _ (by omega)
theorem sumN_snoc (b : List UInt8) (c : UInt8) : sumN (b ++ [c]) = fsS (sumN b) c := by simp [sumN]
theorem sumN_lt (b : List UInt8) : sumN b < 4294967296 := by
  rcases List.eq_nil_or_concat b with rfl | ⟨l, c, rfl⟩
  · decide
  · rw [List.concat_eq_append, sumN_snoc]; exact fsS_lt _ _
theorem sumN_take (b : List UInt8) (k : Nat) (h : k < b.length) : sumN (b.take (k + 1)) = fsS (sumN (b.take k)) b[k] := by
  rw [List.take_succ_eq_append_getElem h, sumN_snoc]
def sumB (s : Nat) : List UInt8 := [UInt8.ofNat s, UInt8.ofNat (s / 256), UInt8.ofNat (s / 65536), UInt8.ofNat (s / 16777216)]
/-- Frames. -/
def frameB (p : List UInt8) : List UInt8 := putB p.length ++ p ++ sumB (sumN p)
def putFN (p : List UInt8) : List UInt8 := if p.length ≤ 4000 then frameB p else []
def putFR (p : List UInt8) : Int := if p.length ≤ 4000 then 0 else 2
def cutF (b : List UInt8) : Option (List UInt8 × List UInt8) :=
  if (takeN b).2.2 = 0 ∧ (takeN b).1 ≤ 4000 ∧ (takeN b).1 + 4 ≤ (takeN b).2.1.length ∧ ((takeN b).2.1.drop (takeN b).1).take 4 = sumB (sumN ((takeN b).2.1.take (takeN b).1)) then
    some ((takeN b).2.1.take (takeN b).1, (takeN b).2.1.drop ((takeN b).1 + 4)) else none
theorem cutF_len {b p r : List UInt8} (h : cutF b = some (p, r)) : p.length + r.length + 4 ≤ b.length ∧ p.length ≤ 4000 := by
  unfold cutF at h
  split at h
  · rename_i hc
    simp only [Option.some.injEq, Prod.mk.injEq] at h
    obtain ⟨rfl, rfl⟩ := h
    have := takeN_len b
    simp only [List.length_take, List.length_drop]
    omega
  · cases h
def framesF : Nat → List UInt8 → List (List UInt8 × List UInt8)
  | 0, _ => []
  | f + 1, b => match cutF b with
    | none => []
    | some (p, r) => (p, r) :: framesF f r
theorem framesF_fuel : ∀ f g b, b.length ≤ f → b.length ≤ g → framesF f b = framesF g b
  | 0, 0, _, _, _ => rfl
  | 0, g + 1, b, h, _ => by
    have hb : b = [] := List.eq_nil_of_length_eq_zero (by omega)
    subst hb
    have : cutF [] = none := by decide
    simp [framesF, this]
  | f + 1, 0, b, _, h => by
    have hb : b = [] := List.eq_nil_of_length_eq_zero (by omega)
    subst hb
    have : cutF [] = none := by decide
    simp [framesF, this]
  | f + 1, g + 1, b, hf, hg => by
    unfold framesF
    cases hc : cutF b with
    | none => rfl
    | some pr =>
      obtain ⟨p, r⟩ := pr
      have := (cutF_len hc).1
      simp only
      rw [framesF_fuel f g r (by omega) (by omega)]
def framesN (b : List UInt8) : List (List UInt8 × List UInt8) := framesF b.length b
theorem framesN_none {b : List UInt8} (h : cutF b = none) : framesN b = [] := by
  unfold framesN
  cases hb : b.length with
  | zero => rfl
  | succ f => simp [framesF, h]
theorem framesN_some {b p r : List UInt8} (h : cutF b = some (p, r)) : framesN b = (p, r) :: framesN r := by
  have hl := (cutF_len h).1
  unfold framesN
  cases hb : b.length with
  | zero => omega
  | succ f => simp only [framesF, h]; rw [framesF_fuel f r.length r (by omega) (Nat.le_refl _)]
/-- How far an iterator of frames has come: k frames on, at r. -/
structure FrI (b : List UInt8) (k : Nat) (r : List UInt8) : Prop where
  le : r.length ≤ b.length
  eq : (framesN b).drop k = framesN r
  kle : k ≤ (framesN b).length
theorem FrI.zero (b : List UInt8) : FrI b 0 b := ⟨Nat.le_refl _, rfl, Nat.zero_le _⟩
theorem FrI.stop {b r : List UInt8} {k : Nat} (h : FrI b k r) (hc : cutF r = none) : k = (framesN b).length := by
  have h1 := h.eq
  rw [framesN_none hc] at h1
  have := List.drop_eq_nil_iff.1 h1
  have := h.kle
  omega
theorem FrI.next {b r p r' : List UInt8} {k : Nat} (h : FrI b k r) (hc : cutF r = some (p, r')) : k < (framesN b).length ∧ (framesN b)[k]? = some (p, r') ∧ FrI b (k + 1) r' := by
  have h1 := h.eq
  rw [framesN_some hc] at h1
  have hg : (framesN b)[k]? = some (p, r') := by
    have := congrArg (·[0]?) h1
    simpa using this
  have hk := (List.getElem?_eq_some_iff.1 hg).1
  refine ⟨hk, hg, by have := (cutF_len hc).1; have := h.le; omega, ?_, hk⟩
  have := congrArg (List.drop 1) h1
  simpa [Nat.add_comm] using this
def frameAt (b : List UInt8) (k : Nat) : List UInt8 × List UInt8 := ((framesN b)[k]?).getD ([], [])
theorem frameAt_eq {b p r : List UInt8} {k : Nat} (h : (framesN b)[k]? = some (p, r)) : frameAt b k = (p, r) := by simp [frameAt, h]
/-- All of them: the payloads, how many bytes are used. -/
def allP (b : List UInt8) : List (List UInt8) := (framesN b).map (·.1)
def usedN (b : List UInt8) (k : Nat) : Nat := if k = 0 then 0 else b.length - (frameAt b (k - 1)).2.length
def allU (b : List UInt8) : Nat := usedN b (framesN b).length
theorem framesF_len : ∀ f b, 4 * (framesF f b).length ≤ b.length
  | 0, b => by simp [framesF]
  | f + 1, b => by
    unfold framesF
    cases hc : cutF b with
    | none => simp
    | some pr =>
      obtain ⟨p, r⟩ := pr
      have := (cutF_len hc).1
      have := framesF_len f r
      simp only [List.length_cons]; omega
theorem framesN_len (b : List UInt8) : 4 * (framesN b).length ≤ b.length := framesF_len _ _
end Go.Proofs.YtcohgnagffibcaaDoor
namespace Go.Proofs.YtcohgnagffibcaaDoor
set_option linter.unusedVariables false
open Go.RowKit
attribute [local irreducible] Res.blk Res.row Fact.rd
theorem bclone_ct (A : Option Addr) (c : Nat) (l : List UInt8) (hn : l.length ≤ 10000000) :
    Ct Tryd.prog 53 [.slice A l.length c] [] [.rd A (u8s l)] (fun x : Option Addr × Nat => .slice x.1 l.length x.2) (fun x => [.row 5 1 (.slice x.1 l.length x.2) l.length (u8s l)]) (fun _ => []) := by
  cases A with
  | none =>
    refine Ct.of _ Tryd.func53 Tryd.ntmps53 rfl rfl (fun X W => ?_)
    refine Jc.pure (p := l = []) Mem.here (fun X W h => ?_) ?_
    · cases l with
      | nil => rfl
      | cons x l => exact absurd (Fact.rd_none h) (by simp [u8s])
    rintro rfl
    refine Jc.seq ?_
    refine Jc.region ?_
    refine Jl.pv (PR.assign rfl) ?_
    refine Jl.nil ?_
    refine Jq.thenN ?_
    refine Jc.seq ?_
    refine Jc.seq ?_
    refine Jc.region ?_
    refine Jl.pv (PR.move rfl) ?_
    refine Jl.pv (PR.eqlNil true rfl tsl22 rfl) ?_
    refine Jl.nil ?_
    refine Jq.thenN ?_
    refine Jc.condT rfl ?_
    refine Jc.seq ?_
    refine Jc.region ?_
    refine Jl.pv (PR.assign rfl) ?_
    refine Jl.nil ?_
    refine Jq.thenN ?_
    refine Jc.ret ?_
    refine Jq.thenR ?_
    refine Jq.nilRow 5 1 ?_
    exact Jq.fin (none, 0) (.inl rfl) rfl (RetVs.tmp rfl RetVs.nil) rfl (by repeat (first | exact Take.nil | apply Take.cons (by repeat (first | exact Del.here | apply Del.there)))) (by repeat (first | exact trivial | refine And.intro (by repeat (first | exact Mem.here | apply Mem.there)) ?_))
  | some a =>
    refine Ct.of _ Tryd.func53 Tryd.ntmps53 rfl rfl (fun X W => ?_)
    refine Jc.seq ?_
    refine Jc.region ?_
    refine Jl.pv (PR.assign rfl) ?_
    refine Jl.nil ?_
    refine Jq.thenN ?_
    refine Jc.seq ?_
    refine Jc.seq ?_
    refine Jc.region ?_
    refine Jl.pv (PR.move rfl) ?_
    refine Jl.pv (PR.eqlNil false rfl tsl22 rfl) ?_
    refine Jl.nil ?_
    refine Jq.thenN ?_
    refine Jc.condF rfl ?_
    refine Jc.skip ?_
    refine Jq.thenN ?_
    refine Jc.seq ?_
    refine Jc.region ?_
    refine Jl.buildSlice (by rfl) tsl22 tzr22_0 (by rfl) (by rfl) ?_
    intro b5
    refine Jl.pv (PR.move rfl) ?_
    refine Jl.toRow 1 0 (by repeat (first | exact Swap.here | apply Swap.there)) (by rfl) (by rfl) ?_
    refine Jl.append l.length (u8s l) rfl rfl rfl tsl22 tze5 (by rfl) (by decide) tby5 (fun _ _ => (by repeat (first | exact Swap.here | apply Swap.there))) (by repeat (first | exact Mem.here | apply Mem.there)) (by omega) rfl (by simp [u8s]) (u8s_one _) (by omega) (by decide) ?_
    intro A7 c7
    refine Jl.pv (PR.assign rfl) ?_
    refine Jl.nil ?_
    refine Jq.thenN ?_
    refine Jc.ret ?_
    exact Jq.fin (A7, c7) (.inl rfl) rfl (RetVs.tmp rfl RetVs.nil) rfl (by repeat (first | exact Take.nil | apply Take.cons (by repeat (first | exact Del.here | apply Del.there)))) (by repeat (first | exact trivial | refine And.intro (by repeat (first | exact Mem.here | apply Mem.there)) ?_))

theorem sum_mul (s : Nat) (hs : s < 4294967296) : IntKind.u32.wrap (31 * (s : Int)) = ((31 * s % 4294967296 : Nat) : Int) := by rw [IntKind.wrap_u32]; omega
theorem sum_add (s c : Nat) : IntKind.u32.wrap (((31 * s % 4294967296 : Nat) : Int) + (c : Int)) = (((31 * s + c) % 4294967296 : Nat) : Int) := by rw [IntKind.wrap_u32]; omega
theorem sum_add7 (s c : Nat) : IntKind.u32.wrap ((((31 * s + c) % 4294967296 : Nat) : Int) + 7) = (((31 * s + c + 7) % 4294967296 : Nat) : Int) := by rw [IntKind.wrap_u32]; omega
theorem sum1_ct (b : Nat) (s : Nat) (c : UInt8) (hs : s < 4294967296) : Ct Tryd.prog 74 [.int .u8 c.toNat, .pointer (some ⟨b, 0, none⟩)] [.blk b 40 [.int .u32 (s : Int)]] [] (fun _ : Unit => .tuple #[]) (fun _ => [.blk b 40 [.int .u32 (fsS s c : Nat)]]) (fun _ => []) := by
  have hc : c.toNat < 256 := UInt8.toNat_lt c
  refine Ct.of _ Tryd.func74 Tryd.ntmps74 rfl rfl (fun X W => ?_)
  refine Jc.region ?_
  refine Jl.pv (PR.load1 rfl tsh40 (by repeat (first | exact Has.here | apply Has.there)) (by rfl)) ?_
  refine Jl.pv (PR.mul ((31 * s % 4294967296 : Nat) : Int) rfl rfl (sum_mul s hs)) ?_
  refine Jl.pv (PR.move rfl) ?_
  refine Jl.pv (PR.conv (c.toNat : Int) rfl Tryd.underlying5 Tryd.underlying40 (by rw [IntKind.wrap_u32]; omega)) ?_
  refine Jl.pv (PR.add (((31 * s + c.toNat) % 4294967296 : Nat) : Int) rfl rfl (sum_add s c.toNat)) ?_
  refine Jl.pv (PR.add ((fsS s c : Nat) : Int) rfl rfl (sum_add7 s c.toNat)) ?_
  refine Jl.store1 rfl tsh40 rfl (by rfl) (by repeat (first | exact Swap.here | apply Swap.there)) (by rfl) ?_
  refine Jl.nil ?_
  exact Jq.fin () (.inr rfl) rfl RetVs.nil rfl (by repeat (first | exact Take.nil | apply Take.cons (by repeat (first | exact Del.here | apply Del.there)))) (by repeat (first | exact trivial | refine And.intro (by repeat (first | exact Mem.here | apply Mem.there)) ?_))

theorem sum_ct (A : Option Addr) (c : Nat) (l : List UInt8) (hn : l.length ≤ 1000000) : Ct Tryd.prog 63 [.slice A l.length c] [] [.rd A (u8s l)] (fun _ : Unit => .int .u32 (sumN l : Nat)) (fun _ => []) (fun _ => []) := by
  refine Ct.of _ Tryd.func63 Tryd.ntmps63 rfl rfl (fun X W => ?_)
  refine Jc.seq ?_
  refine Jc.region ?_
  refine Jl.pv (PR.assign rfl) ?_
  refine Jl.nil ?_
  refine Jq.thenN ?_
  refine Jc.seq ?_
  refine Jc.region ?_
  refine Jl.alloc tze40 ?_
  intro b3
  refine Jl.store1 rfl tsh40 rfl (by rfl) (by repeat (first | exact Swap.here | apply Swap.there)) (by rfl) ?_
  refine Jl.nil ?_
  refine Jq.thenN ?_
  refine Jc.seq ?_
  refine Jc.region ?_
  refine Jl.pv (PR.makeFunc rfl rfl) ?_
  refine Jl.pv (PR.assign rfl) ?_
  refine Jl.nil ?_
  refine Jq.thenN ?_
  refine Jc.seq ?_
  refine Jc.seq ?_
  refine Jc.region ?_
  refine Jl.pv (PR.move rfl) ?_
  refine Jl.pv (PR.len rfl tsl22) ?_
  refine Jl.pv (PR.move rfl) ?_
  refine Jl.nil ?_
  refine Jq.thenN ?_
  refine Jc.block ?_
  refine Jc.loop (σ := { k : Nat // k ≤ l.length }) (fun s => [(10, .int .i64 (s.1 : Int)), (9, .int .i64 (l.length : Int)), (8, .slice A l.length c), (3, .pointer (some ⟨b3, 0, none⟩)), (4, .func (.func 74) #[] #[.pointer (some ⟨b3, 0, none⟩)])]) (fun s => [.blk b3 40 [.int .u32 (sumN (l.take s.1) : Nat)]]) (fun _ => [.rd A (u8s l)]) (fun s => l.length - s.1) ⟨0, Nat.zero_le _⟩ (by exact ⟨rfl, rfl, rfl, rfl, rfl, trivial⟩) rfl (by exact ⟨Mem.here, trivial⟩) ?_
  rintro ⟨k, hk⟩
  show Jc _ _ _ _ _ _ [(10, Value.int .i64 (k : Int)), (9, Value.int .i64 (l.length : Int)), (8, .slice A l.length c), (3, .pointer (some ⟨b3, 0, none⟩)), (4, .func (.func 74) #[] #[.pointer (some ⟨b3, 0, none⟩)])] [.blk b3 40 [.int .u32 (sumN (l.take k) : Nat)]] [.rd A (u8s l)]
  refine Jc.seq ?_
  refine Jc.region ?_
  refine Jl.pv (PR.lss _ rfl rfl rfl) ?_
  refine Jl.nil ?_
  refine Jq.thenN ?_
  refine Jc.seq ?_
  refine Jc.cond rfl (fun hlt => ?_) (fun hlt => ?_)
  · try replace hlt := of_decide_eq_true hlt
    have hlt' : k < l.length := by omega
    refine Jc.skip ?_
    refine Jq.thenN ?_
    refine Jc.seq ?_
    refine Jc.block ?_
    refine Jc.seq ?_
    refine Jc.region ?_
    refine Jl.pv (PR.idx1 k rfl rfl tsl22 (by repeat (first | exact Mem.here | apply Mem.there)) (by simp [u8s]) rfl hlt') ?_
    refine Jl.pv (PR.loadR rfl tsh5 (by repeat (first | exact Mem.here | apply Mem.there)) (getu hlt')) ?_
    refine Jl.pv (PR.assign rfl) ?_
    refine Jl.nil ?_
    refine Jq.thenN ?_
    refine Jc.region ?_
    refine Jl.pv (PR.move rfl) ?_
    refine Jl.pv (PR.move rfl) ?_
    refine Jl.callv (sum1_ct b3 (sumN (l.take k)) l[k] (sumN_lt _)) en74 rfl (by rfl) (by rfl) (by repeat (first | exact Take.nil | apply Take.cons (by repeat (first | exact Del.here | apply Del.there)))) (by repeat (first | exact trivial | refine And.intro (by repeat (first | exact Mem.here | apply Mem.there)) ?_)) ?_
    rintro ⟨⟩
    refine Jl.nil ?_
    refine Jq.blkN ?_
    refine Jq.thenN ?_
    refine Jc.region ?_
    refine Jl.pv (PR.add ((k + 1 : Nat) : Int) rfl rfl (by rw [w64 (by omega) (by omega)]; rfl)) ?_
    refine Jl.pv (PR.move rfl) ?_
    refine Jl.nil ?_
    refine Jq.again ⟨k + 1, hlt'⟩ (by simp only; omega) (by exact ⟨rfl, rfl, rfl, rfl, rfl, trivial⟩) (by simp only [sumN_take l k hlt']; rfl) (by exact ⟨Mem.here, trivial⟩)
  · try replace hlt := of_decide_eq_false hlt
    obtain rfl : k = l.length := by omega
    rw [List.take_length]
    refine Jc.exit ?_
    refine Jq.thenX ?_
    refine Jq.thenX ?_
    refine Jq.blkX ?_
    refine Jq.thenN ?_
    refine Jc.seq ?_
    refine Jc.region ?_
    refine Jl.pv (PR.load1 rfl tsh40 (by repeat (first | exact Has.here | apply Has.there)) (by rfl)) ?_
    refine Jl.pv (PR.assign rfl) ?_
    refine Jl.nil ?_
    refine Jq.thenN ?_
    refine Jc.ret ?_
    exact Jq.fin () (.inl rfl) rfl (RetVs.tmp rfl RetVs.nil) rfl (by repeat (first | exact Take.nil | apply Take.cons (by repeat (first | exact Del.here | apply Del.there)))) (by repeat (first | exact trivial | refine And.intro (by repeat (first | exact Mem.here | apply Mem.there)) ?_))

theorem sumB_len (s : Nat) : (sumB s).length = 4 := rfl
theorem sumB_at (s k : Nat) (hk : k < 4) : (sumB s)[k]? = some (UInt8.ofNat (s / 2 ^ (8 * k))) := by
  obtain rfl | rfl | rfl | rfl : k = 0 ∨ k = 1 ∨ k = 2 ∨ k = 3 := by omega
  all_goals simp [sumB]
theorem shr_sum (s k : Nat) (hk : k < 4) : Int.fdiv (s : Int) (2 ^ (min ((8 * k : Nat) : Int).toNat IntKind.u32.bits)) = ((s / 2 ^ (8 * k) : Nat) : Int) := by
  have e : min ((8 * k : Nat) : Int).toNat IntKind.u32.bits = 8 * k := by show min _ 32 = _; omega
  rw [e, Int.fdiv_eq_ediv_of_nonneg _ (Int.pow_nonneg (by decide))]
  norm_cast
theorem four_eq {a b : List UInt8} (h1 : a.length = 4) (h2 : b.length = 4) (h : ∀ j, j < 4 → a[j]? = b[j]?) : a = b := by
  apply List.ext_getElem?
  intro j
  by_cases hj : j < 4
  · exact h j hj
  · rw [List.getElem?_eq_none (by omega), List.getElem?_eq_none (by omega)]
def cutV (t : Option (List UInt8 × List UInt8)) (x : OA × OA) : Value := match t with
  | some (p, r) => .tuple #[.slice x.1.1 p.length x.1.2, .slice x.2.1 r.length x.2.2, .bool true]
  | none => .tuple #[.slice x.1.1 0 x.1.2, .slice x.2.1 0 x.2.2, .bool false]
def cutY (t : Option (List UInt8 × List UInt8)) (x : OA × OA) : List Fact := match t with
  | some (p, r) => [.rd x.1.1 (u8s p), .rd x.2.1 (u8s r)]
  | none => [.rd x.1.1 [], .rd x.2.1 []]
def cutC (t : Option (List UInt8 × List UInt8)) (x : OA × OA) : Prop := match t with
  | some (p, r) => p.length ≤ x.1.2 ∧ r.length ≤ x.2.2
  | none => 0 ≤ x.1.2 ∧ 0 ≤ x.2.2
theorem yg_nil (m : Nat) (A : Option Addr) (X : Nat → Prop) (W : World) : (Fact.yg m (.rd A [])).p X W := Fact.rd_nil A _ W
theorem cut_cty (A : Option Addr) (c : Nat) (b : List UInt8) (hn : b.length ≤ 1000000) (hc : b.length ≤ c) :
    CtY Tryd.prog 52 [.slice A b.length c] [] [.rd A (u8s b)] (cutV (cutF b)) (fun _ => []) (fun x => [.is (cutC (cutF b) x)]) (cutY (cutF b)) := by
  obtain ⟨n, r0, e0, ht⟩ : ∃ n r0 e0, takeN b = (n, r0, e0) := ⟨_, _, _, rfl⟩
  have htl : r0.length ≤ b.length := by have := takeN_len b; rw [ht] at this; exact this
  have hcf : cutF b = if e0 = 0 ∧ n ≤ 4000 ∧ n + 4 ≤ r0.length ∧ (r0.drop n).take 4 = sumB (sumN (r0.take n)) then some (r0.take n, r0.drop (n + 4)) else none := by rw [cutF, ht]
  have hct : Ct Tryd.prog 66 [.slice A b.length c] [] [.rd A (u8s b)] (fun x : OA => .tuple #[.int .i64 (n : Int), .slice x.1 r0.length x.2, .int .i64 (e0 : Int)]) (rowU r0) (fun _ => []) := take_at ht hn hc
  clear ht
  refine CtY.of _ Tryd.func52 Tryd.ntmps52 rfl rfl (fun X W => ?_)
  refine Jc.seq ?_
  refine Jc.region ?_
  refine Jl.pv (PR.assign rfl) ?_
  refine Jl.pv (PR.assign rfl) ?_
  refine Jl.pv (PR.assign rfl) ?_
  refine Jl.nil ?_
  refine Jq.thenN ?_
  refine Jc.scope (σ := { _u : Unit // cutF b = none }) (fun _ => []) (fun _ => []) (fun _ => []) (fun _ => 0) (l := 0) rfl ?_ ?_
  · rintro ⟨_, hcn⟩
    rw [hcn]
    refine Jc.seq ?_
    refine Jc.region ?_
    refine Jl.pv (PR.assign rfl) ?_
    refine Jl.pv (PR.assign rfl) ?_
    refine Jl.pv (PR.assign rfl) ?_
    refine Jl.nil ?_
    refine Jq.thenN ?_
    refine Jc.ret ?_
    refine Jq.jmpR ?_
    refine Jq.fact0 (.yg W.heap.size (.rd none [])) (fun X' W' => yg_nil _ _ X' W') ?_
    refine Jq.fact0 (.is (cutC none ((none, 0), (none, 0)))) (fun _ _ => ⟨Nat.le_refl 0, Nat.le_refl 0⟩) ?_
    exact Jq.fin ((none, 0), (none, 0)) (.inl rfl) rfl (RetVs.tmp rfl (RetVs.tmp rfl (RetVs.tmp rfl RetVs.nil))) rfl (by repeat (first | exact Take.nil | apply Take.cons (by repeat (first | exact Del.here | apply Del.there)))) (by repeat (first | exact trivial | refine And.intro (by repeat (first | exact Mem.here | apply Mem.there)) ?_))
  · intro hfirst0
    refine Jc.seq ?_
    refine Jc.region ?_
    refine Jl.pv (PR.move rfl) ?_
    refine Jl.call hct en66 (by rfl) (by repeat (first | exact Take.nil | apply Take.cons (by repeat (first | exact Del.here | apply Del.there)))) (by repeat (first | exact trivial | refine And.intro (by repeat (first | exact Mem.here | apply Mem.there)) ?_)) ?_
    rintro ⟨A11, c11⟩
    refine Jl.sealY (fun _ h => h) (by repeat (first | exact Del.here | apply Del.there)) (fun hc11 => ?_)
    refine Jl.pv (PR.move rfl) ?_
    refine Jl.pv (PR.extract rfl (by rfl)) ?_
    refine Jl.pv (PR.extract rfl (by rfl)) ?_
    refine Jl.pv (PR.extract rfl (by rfl)) ?_
    refine Jl.pv (PR.assign rfl) ?_
    refine Jl.pv (PR.assign rfl) ?_
    refine Jl.pv (PR.assign rfl) ?_
    refine Jl.nil ?_
    refine Jq.thenN ?_
    refine Jc.seq ?_
    refine Jc.seq ?_
    refine Jc.region ?_
    refine Jl.pv (PR.move rfl) ?_
    refine Jl.pv (PR.neq _ rfl rfl rfl) ?_
    refine Jl.pv (PR.move rfl) ?_
    refine Jl.bsplit (fun g17 => ?_) (fun g17 => ?_)
    · try replace g17 := of_decide_eq_true g17
      refine Jl.offS rfl rfl rfl ?_
      refine Jl.offS rfl rfl rfl ?_
      refine Jl.pv (PR.pickT rfl rfl) ?_
      refine Jl.pv (PR.move rfl) ?_
      refine Jl.offS rfl rfl rfl ?_
      refine Jl.offS rfl rfl rfl ?_
      refine Jl.offS rfl rfl rfl ?_
      refine Jl.offS rfl rfl rfl ?_
      refine Jl.offS rfl rfl rfl ?_
      refine Jl.pv (PR.pickT rfl rfl) ?_
      refine Jl.nil ?_
      refine Jq.thenN ?_
      refine Jc.condT rfl ?_
      refine Jc.goto ?_
      refine Jq.thenG ?_
      exact Jq.jmpA ⟨(), by rw [hcf, if_neg (by omega)]⟩ trivial rfl trivial
    · try replace g17 := of_decide_eq_false g17
      refine Jl.on rfl rfl ?_
      refine Jl.pv (PR.move rfl) ?_
      refine Jl.on rfl rfl ?_
      refine Jl.pv (PR.gtr _ rfl rfl rfl) ?_
      refine Jl.pv (PR.pickF rfl rfl) ?_
      refine Jl.pv (PR.move rfl) ?_
      refine Jl.bsplit (fun g21 => ?_) (fun g21 => ?_)
      · try replace g21 := of_decide_eq_true g21
        refine Jl.offS rfl rfl rfl ?_
        refine Jl.offS rfl rfl rfl ?_
        refine Jl.offS rfl rfl rfl ?_
        refine Jl.offS rfl rfl rfl ?_
        refine Jl.offS rfl rfl rfl ?_
        refine Jl.pv (PR.pickT rfl rfl) ?_
        refine Jl.nil ?_
        refine Jq.thenN ?_
        refine Jc.condT rfl ?_
        refine Jc.goto ?_
        refine Jq.thenG ?_
        exact Jq.jmpA ⟨(), by rw [hcf, if_neg (by omega)]⟩ trivial rfl trivial
      · try replace g21 := of_decide_eq_false g21
        refine Jl.on rfl rfl ?_
        refine Jl.pv (PR.move rfl) ?_
        refine Jl.on rfl rfl ?_
        refine Jl.pv (PR.len rfl tsl22) ?_
        refine Jl.on rfl rfl ?_
        refine Jl.pv (PR.move rfl) ?_
        refine Jl.on rfl rfl ?_
        refine Jl.pv (PR.add ((n + 4 : Nat) : Int) rfl rfl (by rw [w64 (by omega) (by omega)]; rfl)) ?_
        refine Jl.on rfl rfl ?_
        refine Jl.pv (PR.lss _ rfl rfl rfl) ?_
        refine Jl.pv (PR.pickF rfl rfl) ?_
        refine Jl.nil ?_
        refine Jq.thenN ?_
        refine Jc.cond rfl (fun h0 => ?_) (fun h0 => ?_)
        · try replace h0 := of_decide_eq_true h0
          refine Jc.goto ?_
          refine Jq.thenG ?_
          exact Jq.jmpA ⟨(), by rw [hcf, if_neg (by omega)]⟩ trivial rfl trivial
        · try replace h0 := of_decide_eq_false h0
          have hn4 : n + 4 ≤ r0.length := by omega
          obtain ⟨ck, hck⟩ : ∃ ck, (r0.drop n).take 4 = ck := ⟨_, rfl⟩
          have hckl : ck.length = 4 := by rw [← hck]; simp; omega
          have hpl : (r0.take n).length = n := by simp; omega
          refine Jc.skip ?_
          refine Jq.thenN ?_
          refine Jc.seq ?_
          refine Jc.region ?_
          refine Jl.pv (PR.move rfl) ?_
          refine Jl.pv (PR.move rfl) ?_
          refine Jl.sliceY 0 n n (u8s (r0.take n)) rfl tsl22 rfl rfl (by repeat (first | exact Mem.here | apply Mem.there)) (by omega) (by omega) hc11 rfl (sl_take r0 n) ?_
          intro A30 c30 hc30
          skip
          refine Jl.pv (PR.assign rfl) ?_
          refine Jl.nil ?_
          refine Jq.thenN ?_
          refine Jc.seq ?_
          refine Jc.seq ?_
          refine Jc.region ?_
          refine Jl.pv (PR.move rfl) ?_
          refine Jl.pv (PR.move rfl) ?_
          refine Jl.pv (PR.move rfl) ?_
          refine Jl.pv (PR.add ((n + 4 : Nat) : Int) rfl rfl (by rw [w64 (by omega) (by omega)]; rfl)) ?_
          refine Jl.slice n (n + 4) 4 (u8s ck) rfl tsl22 rfl rfl (by repeat (first | exact Mem.here | apply Mem.there)) (by omega) hn4 hc11 (by omega) (by rw [← hck]; simp [u8s, List.map_drop, List.map_take]) ?_
          intro A35 c35 hc35
          clear hc35
          refine Jl.pv (PR.len rfl tsl22) ?_
          refine Jl.pv (PR.move rfl) ?_
          refine Jl.nil ?_
          refine Jq.thenN ?_
          refine Jc.block ?_
          refine Jc.loop (σ := { k : Nat // k ≤ 4 ∧ ∀ j, j < k → ck[j]? = (sumB (sumN (r0.take n)))[j]? }) (fun s => [(37, .int .i64 (s.1 : Int)), (36, .int .i64 4), (35, .slice A35 4 c35), (2, .slice A30 n c30), (3, .slice A11 r0.length c11), (5, .int .i64 (n : Int))]) (fun _ => []) (fun _ => [.rd A35 (u8s ck), .yg W.heap.size (.rd A30 (u8s (r0.take n))), .rd A30 (u8s (r0.take n)), .yg W.heap.size (.rd A11 (u8s r0))]) (fun s => 4 - s.1) ⟨0, by omega, fun j h => by omega⟩ (by exact ⟨rfl, rfl, rfl, rfl, rfl, rfl, trivial⟩) rfl (by exact ⟨(by repeat (first | exact Mem.here | apply Mem.there)), (by repeat (first | exact Mem.here | apply Mem.there)), (by repeat (first | exact Mem.here | apply Mem.there)), (by repeat (first | exact Mem.here | apply Mem.there)), trivial⟩) ?_
          rintro ⟨k, hk, hkj⟩
          show Jc _ _ _ _ _ _ [(37, Value.int .i64 (k : Int)), (36, .int .i64 4), (35, .slice A35 4 c35), (2, .slice A30 n c30), (3, .slice A11 r0.length c11), (5, .int .i64 (n : Int))] [] [.rd A35 (u8s ck), .yg W.heap.size (.rd A30 (u8s (r0.take n))), .rd A30 (u8s (r0.take n)), .yg W.heap.size (.rd A11 (u8s r0))]
          refine Jc.seq ?_
          refine Jc.region ?_
          refine Jl.pv (PR.lss _ rfl rfl rfl) ?_
          refine Jl.nil ?_
          refine Jq.thenN ?_
          refine Jc.seq ?_
          refine Jc.cond rfl (fun hlt => ?_) (fun hlt => ?_)
          · try replace hlt := of_decide_eq_true hlt
            have hlt' : k < 4 := by omega
            have hkc : k < ck.length := by omega
            refine Jc.skip ?_
            refine Jq.thenN ?_
            refine Jc.seq ?_
            refine Jc.block ?_
            refine Jc.seq ?_
            refine Jc.region ?_
            refine Jl.pv (PR.move rfl) ?_
            refine Jl.pv (PR.idx1 k rfl rfl tsl22 (by repeat (first | exact Mem.here | apply Mem.there)) (by simp [u8s, hckl]) rfl hlt') ?_
            refine Jl.pv (PR.loadR rfl tsh5 (by repeat (first | exact Mem.here | apply Mem.there)) (getu hkc)) ?_
            refine Jl.pv (PR.assign rfl) ?_
            refine Jl.pv (PR.assign rfl) ?_
            refine Jl.nil ?_
            refine Jq.thenN ?_
            refine Jc.seq ?_
            refine Jc.region ?_
            refine Jl.pv (PR.move rfl) ?_
            refine Jl.pv (PR.move rfl) ?_
            rw [show Value.slice A30 n c30 = Value.slice A30 (r0.take n).length c30 by rw [hpl]]
            refine Jl.call (sum_ct A30 c30 (r0.take n) (by omega)) en63 (by rfl) (by repeat (first | exact Take.nil | apply Take.cons (by repeat (first | exact Del.here | apply Del.there)))) (by repeat (first | exact trivial | refine And.intro (by repeat (first | exact Mem.here | apply Mem.there)) ?_)) ?_
            rintro ⟨⟩
            refine Jl.pv (PR.move rfl) ?_
            refine Jl.pv (PR.mul ((8 * k : Nat) : Int) rfl rfl (by rw [w64 (by omega) (by omega)]; rfl)) ?_
            refine Jl.pv (PR.shr ((sumN (r0.take n) / 2 ^ (8 * k) : Nat) : Int) rfl rfl (decide_eq_true (by omega)) (shr_sum _ k hlt')) ?_
            refine Jl.pv (PR.conv ((sumN (r0.take n) / 2 ^ (8 * k) % 256 : Nat) : Int) rfl Tryd.underlying40 Tryd.underlying5 (by rw [IntKind.wrap_u8]; rfl)) ?_
            refine Jl.pv (PR.neq _ rfl rfl rfl) ?_
            refine Jl.nil ?_
            refine Jq.thenN ?_
            refine Jc.cond rfl (fun hne => ?_) (fun hne => ?_)
            · try replace hne := of_decide_eq_true hne
              refine Jc.goto ?_
              refine Jq.blkG ?_
              refine Jq.thenG ?_
              refine Jq.thenG ?_
              refine Jq.blkG ?_
              refine Jq.thenG ?_
              have hcn : cutF b = none := by
                rw [hcf]
                refine if_neg ?_
                rintro ⟨_, _, _, h4⟩
                have h5 := sumB_at (sumN (r0.take n)) k hlt'
                rw [← h4, hck, List.getElem?_eq_getElem hkc] at h5
                have h6 := congrArg UInt8.toNat (Option.some.inj h5)
                simp only [UInt8.toNat_ofNat'] at h6
                omega
              exact Jq.jmpA ⟨(), hcn⟩ trivial rfl trivial
            · try replace hne := of_decide_eq_false hne
              refine Jc.skip ?_
              refine Jq.blkN ?_
              refine Jq.thenN ?_
              refine Jc.region ?_
              refine Jl.pv (PR.add ((k + 1 : Nat) : Int) rfl rfl (by rw [w64 (by omega) (by omega)]; rfl)) ?_
              refine Jl.pv (PR.move rfl) ?_
              refine Jl.nil ?_
              refine Jq.again ⟨k + 1, hlt', fun j hj => ?_⟩ (by simp only; omega) (by exact ⟨rfl, rfl, rfl, rfl, rfl, rfl, trivial⟩) rfl (by exact ⟨(by repeat (first | exact Mem.here | apply Mem.there)), (by repeat (first | exact Mem.here | apply Mem.there)), (by repeat (first | exact Mem.here | apply Mem.there)), (by repeat (first | exact Mem.here | apply Mem.there)), trivial⟩)
              rcases Nat.lt_or_ge j k with h1 | h1
              · exact hkj j h1
              · obtain rfl : j = k := by omega
                rw [sumB_at _ _ hlt', List.getElem?_eq_getElem hkc]
                exact congrArg some (UInt8.toNat_inj.1 (by simp only [UInt8.toNat_ofNat']; omega))
          · try replace hlt := of_decide_eq_false hlt
            obtain rfl : k = 4 := by omega
            have hcs : cutF b = some (r0.take n, r0.drop (n + 4)) := by rw [hcf, if_pos ⟨by omega, by omega, hn4, by rw [hck]; exact four_eq hckl rfl hkj⟩]
            rw [hcs]
            refine Jc.exit ?_
            refine Jq.thenX ?_
            refine Jq.thenX ?_
            refine Jq.blkX ?_
            refine Jq.thenN ?_
            refine Jc.seq ?_
            refine Jc.seq ?_
            refine Jc.drawn [0, 0, 0, 4, 14, 1, 63, 127] ([(0, false), (1, false), (2, false), (3, false), (4, false), (5, false), (6, false), (7, false)], []) [] tmx (by kernel_rfl) ?_
            refine Dh.JH.nil ?_
            refine Dh.JB.pv rfl trivial (fun _ => PR.move rfl) ?_
            refine Dh.JB.pv rfl trivial (fun _ => PR.move rfl) ?_
            refine Dh.JB.pv rfl trivial (fun _ => PR.move rfl) ?_
            refine Dh.JB.pv rfl trivial (fun _ => PR.add ((n + 4 : Nat) : Int) rfl rfl (by rw [w64 (by omega) (by omega)]; rfl)) ?_
            refine Dh.JB.sliceY (n + 4) r0.length (r0.length - (n + 4)) (u8s (r0.drop (n + 4))) rfl trivial rfl tsl22 rfl rfl (by repeat (first | exact Mem.here | apply Mem.there)) hn4 (by omega) hc11 rfl (sl_end r0 (n + 4)) ?_
            intro A55 c55 hc55
            skip
            refine Dh.JB.pv rfl trivial (fun _ => PR.assign rfl) ?_
            refine Dh.JB.pv rfl trivial (fun _ => PR.assign rfl) ?_
            refine Dh.JB.pv rfl trivial (fun _ => PR.assign rfl) ?_
            refine Dh.JB.nil ?_
            refine Dh.JL.nil ?_
            refine Jq.thenN ?_
            refine Jc.ret ?_
            refine Jq.thenR ?_
            refine Jq.jmpR ?_
            have hdl : (r0.drop (n + 4)).length = r0.length - (n + 4) := by simp
            have hcap : (r0.take n).length ≤ c30 ∧ (r0.drop (n + 4)).length ≤ c55 := by rw [hpl, hdl]; simp only at hc11; omega
            refine Jq.fact0 (.is (cutC (some (r0.take n, r0.drop (n + 4))) ((A30, c30), (A55, c55)))) (fun _ _ => hcap) ?_
            exact Jq.fin ((A30, c30), (A55, c55)) (.inl rfl) rfl (RetVs.tmp rfl (RetVs.tmp rfl (RetVs.tmp rfl RetVs.nil))) (by simp only [cutV, retval, hpl, hdl]) (by repeat (first | exact Take.nil | apply Take.cons (by repeat (first | exact Del.here | apply Del.there)))) (by repeat (first | exact trivial | refine And.intro (by repeat (first | exact Mem.here | apply Mem.there)) ?_))

end Go.Proofs.YtcohgnagffibcaaDoor
namespace Go.Proofs.YtcohgnagffibcaaDoor
set_option linter.unusedVariables false
theorem cutF_put {p : List UInt8} (hp : p.length ≤ 4000) (q : List UInt8) : cutF (frameB p ++ q) = some (p, q) := by
  have h1 : takeN (frameB p ++ q) = (p.length, p ++ sumB (sumN p) ++ q, 0) := by
    have := takeN_put (n := (p.length : Int)) (by simp [fineN]; omega) (p ++ sumB (sumN p) ++ q)
    simpa [frameB, List.append_assoc] using this
  have e1 : (p ++ (sumB (sumN p) ++ q)).take p.length = p := by simp
  have e2 : (p ++ (sumB (sumN p) ++ q)).drop p.length = sumB (sumN p) ++ q := by simp
  have e3 : (p ++ (sumB (sumN p) ++ q)).drop (p.length + 4) = q := by rw [← List.drop_drop, e2]; rfl
  unfold cutF
  rw [h1]
  simp only [List.append_assoc]
  rw [e1, e2, e3, if_pos]
  refine ⟨trivial, hp, ?_, rfl⟩
  simp [sumB]
theorem cutF_only {b p r : List UInt8} (h : cutF b = some (p, r)) : b = frameB p ++ r ∧ p.length ≤ 4000 := by
  have hl := cutF_len h
  refine ⟨?_, hl.2⟩
  unfold cutF at h
  split at h
  · rename_i hc
    obtain ⟨h0, h1, h2, h3⟩ := hc
    simp only [Option.some.injEq, Prod.mk.injEq] at h
    obtain ⟨rfl, rfl⟩ := h
    obtain ⟨n, t, e, ht⟩ : ∃ n t e, takeN b = (n, t, e) := ⟨_, _, _, rfl⟩
    rw [ht] at h0 h1 h2 h3 ⊢
    simp only at h0 h1 h2 h3 ⊢
    subst h0
    have hb := (takeN_only ht).1
    have hlen : (t.take n).length = n := by simp; omega
    rw [frameB, hlen, ← h3, ← hb]
    simp only [List.append_assoc]
    congr 1
    have : (t.drop n).take 4 ++ t.drop (n + 4) = t.drop n := by rw [← List.drop_drop, List.take_append_drop]
    rw [this, List.take_append_drop]
  · cases h
theorem cutF_cut {p : List UInt8} (hp : p.length ≤ 4000) {j : Nat} (hj : j < (frameB p).length) : cutF ((frameB p).take j) = none := by
  cases hc : cutF ((frameB p).take j) with
  | none => rfl
  | some pr =>
    obtain ⟨p', r'⟩ := pr
    obtain ⟨h1, h2⟩ := cutF_only hc
    have h3 := cutF_put h2 (r' ++ (frameB p).drop j)
    rw [← List.append_assoc, ← h1, List.take_append_drop] at h3
    have h4 := cutF_put hp []
    rw [List.append_nil, h3] at h4
    simp only [Option.some.injEq, Prod.mk.injEq, List.append_eq_nil_iff] at h4
    have := congrArg List.length h4.2.2
    simp at this
    omega
theorem frameB_pos (p : List UInt8) : 0 < (frameB p).length := by simp [frameB, sumB]; omega
/-- Frames one behind the other. -/
def framesB (l : List (List UInt8)) : List UInt8 := l.flatMap frameB
theorem framesN_put : ∀ {l : List (List UInt8)} (t : List UInt8), (∀ p ∈ l, p.length ≤ 4000) → cutF t = none → (framesN (framesB l ++ t)).map (·.1) = l ∧ (framesN (framesB l ++ t)).length = l.length
  | [], t, _, ht => by simp [framesB, framesN_none ht]
  | p :: l, t, h, ht => by
    have hc := cutF_put (h p (List.mem_cons_self ..)) (framesB l ++ t)
    have hb : framesB (p :: l) ++ t = frameB p ++ (framesB l ++ t) := by simp [framesB]
    obtain ⟨h1, h2⟩ := framesN_put (l := l) t (fun q hq => h q (List.mem_cons_of_mem _ hq)) ht
    rw [hb, framesN_some hc]
    simp [h1, h2]
theorem frameAt_last : ∀ {l : List (List UInt8)} (t : List UInt8), (∀ p ∈ l, p.length ≤ 4000) → cutF t = none → l ≠ [] → (frameAt (framesB l ++ t) (l.length - 1)).2 = t
  | [], _, _, _, h => absurd rfl h
  | [p], t, h, ht, _ => by
    have hc := cutF_put (h p (List.mem_cons_self ..)) t
    have hb : framesB [p] ++ t = frameB p ++ t := by simp [framesB]
    rw [hb]
    simp [frameAt, framesN_some hc]
  | p :: q :: l, t, h, ht, _ => by
    have hc := cutF_put (h p (List.mem_cons_self ..)) (framesB (q :: l) ++ t)
    have hb : framesB (p :: q :: l) ++ t = frameB p ++ (framesB (q :: l) ++ t) := by simp [framesB]
    have ih := frameAt_last (l := q :: l) t (fun x hx => h x (List.mem_cons_of_mem _ hx)) ht (by simp)
    rw [hb]
    simp only [frameAt, framesN_some hc] at ih ⊢
    simpa using ih
theorem allU_put {l : List (List UInt8)} (t : List UInt8) (h : ∀ p ∈ l, p.length ≤ 4000) (ht : cutF t = none) : allU (framesB l ++ t) = (framesB l).length := by
  have hl := (framesN_put t h ht).2
  unfold allU usedN
  rw [hl]
  by_cases he : l = []
  · subst he; simp [framesB]
  · have : l.length ≠ 0 := fun e => he (List.eq_nil_of_length_eq_zero e)
    rw [if_neg this, frameAt_last t h ht he]
    simp
theorem cutF_nil : cutF [] = none := by decide
/-- Sums tell of a byte that is another one. -/
theorem sumS_inj {s s' : Nat} {c : UInt8} (h1 : s < 4294967296) (h2 : s' < 4294967296) (h : fsS s c = fsS s' c) : s = s' := by unfold fsS at h; omega
theorem fold_inj : ∀ (d : List UInt8) {s s' : Nat}, s < 4294967296 → s' < 4294967296 → d.foldl fsS s = d.foldl fsS s' → s = s'
  | [], _, _, _, _, h => h
  | c :: d, s, s', h1, h2, h => sumS_inj h1 h2 (fold_inj d (fsS_lt s c) (fsS_lt s' c) h)
theorem sumN_set {p : List UInt8} {j : Nat} {v : UInt8} (hj : j < p.length) (h : sumN (p.set j v) = sumN p) : v = p[j] := by
  have e1 : p = p.take j ++ p[j] :: p.drop (j + 1) := by simp
  have e2 : p.set j v = p.take j ++ v :: p.drop (j + 1) := List.set_eq_take_append_cons_drop ▸ by simp [hj]
  have hsp : sumN p = (p.drop (j + 1)).foldl fsS (fsS (sumN (p.take j)) p[j]) := by
    have := congrArg sumN e1
    rw [this]
    simp only [sumN, List.foldl_append, List.foldl_cons]
  rw [e2, hsp] at h
  simp only [sumN, List.foldl_append, List.foldl_cons] at h
  have h3 := fold_inj _ (fsS_lt _ _) (fsS_lt _ _) h
  have h4 := UInt8.toNat_lt v
  have h5 := UInt8.toNat_lt p[j]
  unfold fsS at h3
  apply UInt8.toNat_inj.1
  omega
theorem sumB_inj {s s' : Nat} (h1 : s < 4294967296) (h2 : s' < 4294967296) (h : sumB s = sumB s') : s = s' := by
  simp only [sumB, List.cons.injEq, and_true] at h
  obtain ⟨a, b, c, d⟩ := h
  have f : ∀ x y : Nat, UInt8.ofNat x = UInt8.ofNat y → x % 256 = y % 256 := fun x y h => by
    have := congrArg UInt8.toNat h
    simpa using this
  have a := f _ _ a
  have b := f _ _ b
  have c := f _ _ c
  have d := f _ _ d
  omega
theorem cutF_harm {p : List UInt8} (hp : p.length ≤ 4000) {j : Nat} {v : UInt8} (hj : j < p.length + 4) (hv : (p ++ sumB (sumN p))[j]? ≠ some v) : cutF ((frameB p).set ((putB p.length).length + j) v) = none := by
  have hx : (frameB p).set ((putB p.length).length + j) v = putB p.length ++ (p ++ sumB (sumN p)).set j v := by
    rw [frameB, List.append_assoc, List.set_append_right _ _ (by omega)]
    simp
  have ht := takeN_put (n := (p.length : Int)) (by simp [fineN]; omega) ((p ++ sumB (sumN p)).set j v)
  rw [hx]
  unfold cutF
  rw [ht]
  refine if_neg ?_
  rintro ⟨_, _, _, h3⟩
  simp only [Int.toNat_natCast] at h3
  by_cases hjp : j < p.length
  · rw [List.set_append_left _ _ hjp] at h3
    have e1 : (p.set j v ++ sumB (sumN p)).take p.length = p.set j v := List.take_left' (by simp)
    have e2 : (p.set j v ++ sumB (sumN p)).drop p.length = sumB (sumN p) := List.drop_left' (by simp)
    rw [e1, e2] at h3
    have h4 := sumB_inj (sumN_lt _) (sumN_lt _) (show sumB (sumN p) = sumB (sumN (p.set j v)) from h3)
    have h5 := sumN_set hjp h4.symm
    rw [List.getElem?_append_left hjp, List.getElem?_eq_getElem hjp, h5] at hv
    exact hv rfl
  · rw [List.set_append_right _ _ (by omega)] at h3
    have e1 : (p ++ (sumB (sumN p)).set (j - p.length) v).take p.length = p := List.take_left' rfl
    have e2 : (p ++ (sumB (sumN p)).set (j - p.length) v).drop p.length = (sumB (sumN p)).set (j - p.length) v := List.drop_left' rfl
    rw [e1, e2, List.take_of_length_le (by simp [sumB])] at h3
    have h4 := congrArg (·[j - p.length]?) h3
    rw [List.getElem?_append_right (by omega), ← h4] at hv
    refine hv ?_
    rw [List.getElem?_set_self (by simp [sumB]; omega)]
end Go.Proofs.YtcohgnagffibcaaDoor
namespace Go.Proofs.YtcohgnagffibcaaDoor
set_option linter.unusedVariables false
open Go.RowKit
attribute [local irreducible] Res.blk Res.row Fact.rd
def pF (b : List UInt8) : List UInt8 := ((cutF b).getD ([], [])).1
def rF (b : List UInt8) : List UInt8 := ((cutF b).getD ([], [])).2
theorem cut_u (A : Option Addr) (c : Nat) (b : List UInt8) (hn : b.length ≤ 1000000) (hc : b.length ≤ c) :
    CtY Tryd.prog 52 [.slice A b.length c] [] [.rd A (u8s b)] (fun x : OA × OA => .tuple #[.slice x.1.1 (pF b).length x.1.2, .slice x.2.1 (rF b).length x.2.2, .bool (cutF b).isSome]) (fun _ => [])
      (fun x => [.is ((pF b).length ≤ x.1.2 ∧ (rF b).length ≤ x.2.2)]) (fun x => [.rd x.1.1 (u8s (pF b)), .rd x.2.1 (u8s (rF b))]) := by
  have h := cut_cty A c b hn hc
  unfold pF rF
  cases hcf : cutF b with
  | none =>
    rw [hcf] at h
    exact h
  | some t =>
    rw [hcf] at h
    exact h
theorem pF_len (b : List UInt8) : (pF b).length + (rF b).length ≤ b.length := by
  unfold pF rF
  cases hcf : cutF b with
  | none => simp
  | some t => have := (cutF_len (p := t.1) (r := t.2) hcf).1; simp only [Option.getD_some]; omega

theorem fput_sum (s : Nat) : IntKind.u8.wrap ((s : Nat) : Int) = ((s % 256 : Nat) : Int) := by rw [IntKind.wrap_u8]; omega
theorem fput_shr (s q : Nat) (j : Nat) (hj : j = 8 ∨ j = 16 ∨ j = 24) (hq : q = s / 2 ^ j) : Int.fdiv (s : Int) (2 ^ (min ((j : Nat) : Int).toNat IntKind.u32.bits)) = (q : Int) := by
  have := shr_sum s (j / 8) (by omega)
  rw [show 8 * (j / 8) = j by omega] at this
  rw [this, hq]
theorem fput_ct (A : Option Addr) (c : Nat) (p : List UInt8) (hn : p.length ≤ 1000000) : Ct Tryd.prog 46 [.slice A p.length c] [] [.rd A (u8s p)] (fun x : OA => .tuple #[.slice x.1 (putFN p).length x.2, .int .i64 (putFR p)]) (rowU (putFN p)) (fun _ => []) := by
  by_cases hp : p.length ≤ 4000
  · have e1 : putFN p = frameB p := if_pos hp
    have e2 : putFR p = 0 := if_pos hp
    rw [e1, e2]
    have hpb := putB_len (p.length : Int)
    have hfl : (frameB p).length = (putB p.length).length + p.length + 4 := by simp [frameB, sumB]; omega
    refine Ct.of _ Tryd.func46 Tryd.ntmps46 rfl rfl (fun X W => ?_)
    refine Jc.seq ?_
    refine Jc.region ?_
    refine Jl.pv (PR.assign rfl) ?_
    refine Jl.pv (PR.assign rfl) ?_
    refine Jl.nil ?_
    refine Jq.thenN ?_
    refine Jc.seq ?_
    refine Jc.seq ?_
    refine Jc.region ?_
    refine Jl.pv (PR.move rfl) ?_
    refine Jl.pv (PR.len rfl tsl22) ?_
    refine Jl.pv (PR.gtr false rfl rfl (by simp; omega)) ?_
    refine Jl.nil ?_
    refine Jq.thenN ?_
    refine Jc.condF rfl ?_
    refine Jc.skip ?_
    refine Jq.thenN ?_
    refine Jc.seq ?_
    refine Jc.region ?_
    refine Jl.pv (PR.move rfl) ?_
    refine Jl.pv (PR.len rfl tsl22) ?_
    refine Jl.call (put_fine (a := p.length) (by simp [fineN]; omega)) en62 (by rfl) (by repeat (first | exact Take.nil | apply Take.cons (by repeat (first | exact Del.here | apply Del.there)))) (by repeat (first | exact trivial | refine And.intro (by repeat (first | exact Mem.here | apply Mem.there)) ?_)) ?_
    rintro ⟨A13, c13⟩
    refine Jl.pv (PR.move rfl) ?_
    refine Jl.pv (PR.extract rfl (by rfl)) ?_
    refine Jl.pv (PR.extract rfl (by rfl)) ?_
    refine Jl.pv (PR.assign rfl) ?_
    refine Jl.pv (PR.assign rfl) ?_
    refine Jl.nil ?_
    refine Jq.thenN ?_
    refine Jc.seq ?_
    refine Jc.seq ?_
    refine Jc.region ?_
    refine Jl.pv (PR.move rfl) ?_
    refine Jl.pv (PR.neq false rfl rfl rfl) ?_
    refine Jl.nil ?_
    refine Jq.thenN ?_
    refine Jc.condF rfl ?_
    refine Jc.skip ?_
    refine Jq.thenN ?_
    refine Jc.seq ?_
    refine Jc.region ?_
    refine Jl.pv (PR.move rfl) ?_
    refine Jl.call (sum_ct A c p (by omega)) en63 (by rfl) (by repeat (first | exact Take.nil | apply Take.cons (by repeat (first | exact Del.here | apply Del.there)))) (by repeat (first | exact trivial | refine And.intro (by repeat (first | exact Mem.here | apply Mem.there)) ?_)) ?_
    rintro ⟨⟩
    refine Jl.pv (PR.assign rfl) ?_
    refine Jl.nil ?_
    refine Jq.thenN ?_
    refine Jc.seq ?_
    refine Jc.region ?_
    refine Jl.pv (PR.move rfl) ?_
    refine Jl.pv (PR.move rfl) ?_
    refine Jl.append (putB p.length ++ p).length (u8s (putB p.length ++ p)) rfl rfl rfl tsl22 tze5 (by rfl) (by decide) tby5 (fun _ _ => (by repeat (first | exact Swap.here | apply Swap.there))) (by repeat (first | exact Mem.here | apply Mem.there)) (by simp) (by simp [u8s]) (by simp [u8s]) (u8s_one _) (by omega) (by decide) ?_
    intro A23 c23
    refine Jl.pv (PR.move rfl) ?_
    refine Jl.pv (PR.conv ((sumN p % 256 : Nat) : Int) rfl Tryd.underlying40 Tryd.underlying5 (fput_sum _)) ?_
    refine Jl.pv (PR.move rfl) ?_
    refine Jl.pv (PR.shr ((sumN p / 256 : Nat) : Int) rfl rfl (by decide) (fput_shr _ _ 8 (by omega) rfl)) ?_
    refine Jl.pv (PR.conv ((sumN p / 256 % 256 : Nat) : Int) rfl Tryd.underlying40 Tryd.underlying5 (fput_sum _)) ?_
    refine Jl.pv (PR.move rfl) ?_
    refine Jl.pv (PR.shr ((sumN p / 65536 : Nat) : Int) rfl rfl (by decide) (fput_shr _ _ 16 (by omega) rfl)) ?_
    refine Jl.pv (PR.conv ((sumN p / 65536 % 256 : Nat) : Int) rfl Tryd.underlying40 Tryd.underlying5 (fput_sum _)) ?_
    refine Jl.pv (PR.move rfl) ?_
    refine Jl.pv (PR.shr ((sumN p / 16777216 : Nat) : Int) rfl rfl (by decide) (fput_shr _ _ 24 (by omega) rfl)) ?_
    refine Jl.pv (PR.conv ((sumN p / 16777216 % 256 : Nat) : Int) rfl Tryd.underlying40 Tryd.underlying5 (fput_sum _)) ?_
    refine Jl.buildSlice (by rfl) tsl22 tzr22_4 (by rfl) (by rfl) ?_
    intro b35
    refine Jl.seal (by repeat (first | exact Del.here | apply Del.there)) ?_
    refine Jl.append (frameB p).length (u8s (frameB p)) rfl rfl rfl tsl22 tze5 (by rfl) (by decide) tby5 (fun _ _ => (by repeat (first | exact Swap.here | apply Swap.there))) (by repeat (first | exact Mem.here | apply Mem.there)) (by rw [hfl]; simp) (by simp [u8s, frameB, sumB]) rfl (by simp [Value.oneCell']) (by simp; omega) (by decide) ?_
    intro A36 c36
    refine Jl.pv (PR.assign rfl) ?_
    refine Jl.pv (PR.assign rfl) ?_
    refine Jl.nil ?_
    refine Jq.thenN ?_
    refine Jc.ret ?_
    exact Jq.fin (A36, c36) (.inl rfl) rfl (RetVs.tmp rfl (RetVs.tmp rfl RetVs.nil)) rfl (by repeat (first | exact Take.nil | apply Take.cons (by repeat (first | exact Del.here | apply Del.there)))) (by repeat (first | exact trivial | refine And.intro (by repeat (first | exact Mem.here | apply Mem.there)) ?_))
  · have e1 : putFN p = [] := if_neg hp
    have e2 : putFR p = 2 := if_neg hp
    rw [e1, e2]
    refine Ct.of _ Tryd.func46 Tryd.ntmps46 rfl rfl (fun X W => ?_)
    refine Jc.seq ?_
    refine Jc.region ?_
    refine Jl.pv (PR.assign rfl) ?_
    refine Jl.pv (PR.assign rfl) ?_
    refine Jl.nil ?_
    refine Jq.thenN ?_
    refine Jc.seq ?_
    refine Jc.seq ?_
    refine Jc.region ?_
    refine Jl.pv (PR.move rfl) ?_
    refine Jl.pv (PR.len rfl tsl22) ?_
    refine Jl.pv (PR.gtr true rfl rfl (by simp; omega)) ?_
    refine Jl.nil ?_
    refine Jq.thenN ?_
    refine Jc.condT rfl ?_
    refine Jc.seq ?_
    refine Jc.region ?_
    refine Jl.pv (PR.assign rfl) ?_
    refine Jl.pv (PR.assign rfl) ?_
    refine Jl.nil ?_
    refine Jq.thenN ?_
    refine Jc.ret ?_
    refine Jq.thenR ?_
    refine Jq.nilRow 5 1 ?_
    exact Jq.fin (none, 0) (.inl rfl) rfl (RetVs.tmp rfl (RetVs.tmp rfl RetVs.nil)) rfl (by repeat (first | exact Take.nil | apply Take.cons (by repeat (first | exact Del.here | apply Del.there)))) (by repeat (first | exact trivial | refine And.intro (by repeat (first | exact Mem.here | apply Mem.there)) ?_))

def longF (n : Int) : Int := if n < 0 ∨ 4000 < n then -1 else (putB n).length + n + 4
def takeF (b : List UInt8) : List UInt8 × List UInt8 × Int := match cutF b with
  | some (p, r) => (p, r, 0)
  | none => ([], [], 40)
def rows2 (p r : List UInt8) (x : OA × OA) : List Res := [.row 5 1 (.slice x.1.1 p.length x.1.2) p.length (u8s p), .row 5 1 (.slice x.2.1 r.length x.2.2) r.length (u8s r)]
theorem ftake_ct (A : Option Addr) (c : Nat) (b : List UInt8) (hn : b.length ≤ 1000000) (hc : b.length ≤ c) :
    Ct Tryd.prog 39 [.slice A b.length c] [] [.rd A (u8s b)] (fun x : OA × OA => .tuple #[.slice x.1.1 (takeF b).1.length x.1.2, .slice x.2.1 (takeF b).2.1.length x.2.2, .int .i64 (takeF b).2.2]) (rows2 (takeF b).1 (takeF b).2.1) (fun _ => []) := by
  have hpl := pF_len b
  cases hcf : cutF b with
  | none =>
    rw [show takeF b = ([], [], 40) by simp [takeF, hcf]]
    refine Ct.of _ Tryd.func39 Tryd.ntmps39 rfl rfl (fun X W => ?_)
    refine Jc.seq ?_
    refine Jc.region ?_
    refine Jl.pv (PR.assign rfl) ?_
    refine Jl.pv (PR.assign rfl) ?_
    refine Jl.pv (PR.assign rfl) ?_
    refine Jl.nil ?_
    refine Jq.thenN ?_
    refine Jc.seq ?_
    refine Jc.region ?_
    refine Jl.pv (PR.move rfl) ?_
    refine Jl.call (cut_u A c b hn hc).ct en52 (by rfl) (by repeat (first | exact Take.nil | apply Take.cons (by repeat (first | exact Del.here | apply Del.there)))) (by repeat (first | exact trivial | refine And.intro (by repeat (first | exact Mem.here | apply Mem.there)) ?_)) ?_
    rintro ⟨⟨A10, c10⟩, ⟨B10, d10⟩⟩
    refine Jl.pv (PR.move rfl) ?_
    refine Jl.pv (PR.extract rfl (by rfl)) ?_
    refine Jl.pv (PR.extract rfl (by rfl)) ?_
    refine Jl.pv (PR.extract rfl (by rfl)) ?_
    refine Jl.pv (PR.assign rfl) ?_
    refine Jl.pv (PR.assign rfl) ?_
    refine Jl.pv (PR.assign rfl) ?_
    refine Jl.nil ?_
    refine Jq.thenN ?_
    refine Jc.seq ?_
    refine Jc.seq ?_
    refine Jc.region ?_
    refine Jl.pv (PR.move rfl) ?_
    refine Jl.pv (PR.not rfl) ?_
    refine Jl.as (.bool true) (congrArg Value.bool (by rw [hcf]; rfl)) ?_
    refine Jl.nil ?_
    refine Jq.thenN ?_
    refine Jc.condT rfl ?_
    refine Jc.seq ?_
    refine Jc.region ?_
    refine Jl.pv (PR.assign rfl) ?_
    refine Jl.pv (PR.assign rfl) ?_
    refine Jl.pv (PR.assign rfl) ?_
    refine Jl.nil ?_
    refine Jq.thenN ?_
    refine Jc.ret ?_
    refine Jq.thenR ?_
    refine Jq.nilRow 5 1 ?_
    refine Jq.nilRow 5 1 ?_
    exact Jq.fin ((none, 0), (none, 0)) (.inl rfl) rfl (RetVs.tmp rfl (RetVs.tmp rfl (RetVs.tmp rfl RetVs.nil))) rfl (by repeat (first | exact Take.nil | apply Take.cons (by repeat (first | exact Del.here | apply Del.there)))) (by repeat (first | exact trivial | refine And.intro (by repeat (first | exact Mem.here | apply Mem.there)) ?_))
    -- hint not used: k15
  | some t =>
    rw [show takeF b = (pF b, rF b, 0) by simp [takeF, pF, rF, hcf]]
    refine Ct.of _ Tryd.func39 Tryd.ntmps39 rfl rfl (fun X W => ?_)
    refine Jc.seq ?_
    refine Jc.region ?_
    refine Jl.pv (PR.assign rfl) ?_
    refine Jl.pv (PR.assign rfl) ?_
    refine Jl.pv (PR.assign rfl) ?_
    refine Jl.nil ?_
    refine Jq.thenN ?_
    refine Jc.seq ?_
    refine Jc.region ?_
    refine Jl.pv (PR.move rfl) ?_
    refine Jl.call (cut_u A c b hn hc).ct en52 (by rfl) (by repeat (first | exact Take.nil | apply Take.cons (by repeat (first | exact Del.here | apply Del.there)))) (by repeat (first | exact trivial | refine And.intro (by repeat (first | exact Mem.here | apply Mem.there)) ?_)) ?_
    rintro ⟨⟨A10, c10⟩, ⟨B10, d10⟩⟩
    refine Jl.pv (PR.move rfl) ?_
    refine Jl.pv (PR.extract rfl (by rfl)) ?_
    refine Jl.pv (PR.extract rfl (by rfl)) ?_
    refine Jl.pv (PR.extract rfl (by rfl)) ?_
    refine Jl.pv (PR.assign rfl) ?_
    refine Jl.pv (PR.assign rfl) ?_
    refine Jl.pv (PR.assign rfl) ?_
    refine Jl.nil ?_
    refine Jq.thenN ?_
    refine Jc.seq ?_
    refine Jc.seq ?_
    refine Jc.region ?_
    refine Jl.pv (PR.move rfl) ?_
    refine Jl.pv (PR.not rfl) ?_
    refine Jl.as (.bool false) (congrArg Value.bool (by rw [hcf]; rfl)) ?_
    refine Jl.nil ?_
    refine Jq.thenN ?_
    refine Jc.condF rfl ?_
    refine Jc.skip ?_
    refine Jq.thenN ?_
    refine Jc.seq ?_
    refine Jc.region ?_
    refine Jl.pv (PR.move rfl) ?_
    refine Jl.call (bclone_ct A10 c10 (pF b) (by omega)) en53 (by rfl) (by repeat (first | exact Take.nil | apply Take.cons (by repeat (first | exact Del.here | apply Del.there)))) (by repeat (first | exact trivial | refine And.intro (by repeat (first | exact Mem.here | apply Mem.there)) ?_)) ?_
    rintro ⟨A17, c17⟩
    refine Jl.pv (PR.move rfl) ?_
    refine Jl.call (bclone_ct B10 d10 (rF b) (by omega)) en53 (by rfl) (by repeat (first | exact Take.nil | apply Take.cons (by repeat (first | exact Del.here | apply Del.there)))) (by repeat (first | exact trivial | refine And.intro (by repeat (first | exact Mem.here | apply Mem.there)) ?_)) ?_
    rintro ⟨A19, c19⟩
    refine Jl.pv (PR.assign rfl) ?_
    refine Jl.pv (PR.assign rfl) ?_
    refine Jl.pv (PR.assign rfl) ?_
    refine Jl.nil ?_
    refine Jq.thenN ?_
    refine Jc.ret ?_
    exact Jq.fin ((A17, c17), (A19, c19)) (.inl rfl) rfl (RetVs.tmp rfl (RetVs.tmp rfl (RetVs.tmp rfl RetVs.nil))) rfl (by repeat (first | exact Take.nil | apply Take.cons (by repeat (first | exact Del.here | apply Del.there)))) (by repeat (first | exact trivial | refine And.intro (by repeat (first | exact Mem.here | apply Mem.there)) ?_))

def fvals (b : List UInt8) (k : Nat) (y : OA) : List Value := [.int .i64 ((b.length : Int) - ((frameAt b k).2.length : Nat)), .slice y.1 (frameAt b k).1.length y.2]
def fposts (b : List UInt8) (k : Nat) (y : OA) : List Fact := [.rd y.1 (u8s (frameAt b k).1)]
structure FS (b : List UInt8) where
  k : Nat
  r : List UInt8
  A : Option Addr
  c : Nat
  m : Nat
  Φk : List Fact
  hI : FrI b k r
  hc : r.length ≤ c
end Go.Proofs.YtcohgnagffibcaaDoor
namespace Go.Proofs.YtcohgnagffibcaaDoor
set_option linter.unusedVariables false
open Go.RowKit
attribute [local irreducible] Res.blk Res.row Fact.rd
theorem rsum_ct (A : Option Addr) (c : Nat) (l : List UInt8) (hn : l.length ≤ 1000000) : Ct Tryd.prog 59 [.slice A l.length c] [] [.rd A (u8s l)] (fun _ : Unit => .int .u32 (sumN l : Nat)) (fun _ => []) (fun _ => []) := by
  refine Ct.of _ Tryd.func59 Tryd.ntmps59 rfl rfl (fun X W => ?_)
  refine Jc.seq ?_
  refine Jc.region ?_
  refine Jl.pv (PR.assign rfl) ?_
  refine Jl.nil ?_
  refine Jq.thenN ?_
  refine Jc.seq ?_
  refine Jc.region ?_
  refine Jl.pv (PR.assign rfl) ?_
  refine Jl.nil ?_
  refine Jq.thenN ?_
  refine Jc.seq ?_
  refine Jc.seq ?_
  refine Jc.region ?_
  refine Jl.pv (PR.assign rfl) ?_
  refine Jl.nil ?_
  refine Jq.thenN ?_
  refine Jc.block ?_
  refine Jc.loop (σ := { k : Nat // k ≤ l.length }) (fun s => [(0, .slice A l.length c), (3, .int .u32 (sumN (l.take s.1) : Nat)), (4, .int .i64 (s.1 : Int))]) (fun _ => []) (fun _ => [.rd A (u8s l)]) (fun s => l.length - s.1) ⟨0, Nat.zero_le _⟩ (by exact ⟨rfl, rfl, rfl, trivial⟩) rfl (by exact ⟨Mem.here, trivial⟩) ?_
  rintro ⟨k, hk⟩
  have hs := sumN_lt (l.take k)
  show Jc _ _ _ _ _ _ [(0, Value.slice A l.length c), (3, .int .u32 (sumN (l.take k) : Nat)), (4, .int .i64 (k : Int))] [] [.rd A (u8s l)]
  refine Jc.seq ?_
  refine Jc.seq ?_
  refine Jc.region ?_
  refine Jl.pv (PR.move rfl) ?_
  refine Jl.pv (PR.move rfl) ?_
  refine Jl.pv (PR.len rfl tsl22) ?_
  refine Jl.pv (PR.lss _ rfl rfl rfl) ?_
  refine Jl.nil ?_
  refine Jq.thenN ?_
  refine Jc.cond rfl (fun hlt => ?_) (fun hlt => ?_)
  · try replace hlt := of_decide_eq_true hlt
    have hlt' : k < l.length := by omega
    have hbb := l[k].toNat_lt
    refine Jc.skip ?_
    refine Jq.thenN ?_
    refine Jc.seq ?_
    refine Jc.block ?_
    refine Jc.region ?_
    refine Jl.pv (PR.move rfl) ?_
    refine Jl.pv (PR.mul ((31 * sumN (l.take k) % 4294967296 : Nat) : Int) rfl rfl (sum_mul _ hs)) ?_
    refine Jl.pv (PR.move rfl) ?_
    refine Jl.pv (PR.move rfl) ?_
    refine Jl.pv (PR.idx1 k rfl rfl tsl22 (by repeat (first | exact Mem.here | apply Mem.there)) (by simp [u8s]) rfl hlt') ?_
    refine Jl.pv (PR.loadR rfl tsh5 (by repeat (first | exact Mem.here | apply Mem.there)) (getu hlt')) ?_
    refine Jl.pv (PR.conv (l[k].toNat : Int) rfl Tryd.underlying5 Tryd.underlying40 (by rw [IntKind.wrap_u32]; omega)) ?_
    refine Jl.pv (PR.add (((31 * sumN (l.take k) + l[k].toNat) % 4294967296 : Nat) : Int) rfl rfl (sum_add _ l[k].toNat)) ?_
    refine Jl.pv (PR.add ((fsS (sumN (l.take k)) l[k] : Nat) : Int) rfl rfl (sum_add7 _ l[k].toNat)) ?_
    refine Jl.pv (PR.assign rfl) ?_
    refine Jl.nil ?_
    refine Jq.blkN ?_
    refine Jq.thenN ?_
    refine Jc.region ?_
    refine Jl.pv (PR.move rfl) ?_
    refine Jl.pv (PR.add ((k + 1 : Nat) : Int) rfl rfl (by rw [w64 (by omega) (by omega)]; rfl)) ?_
    refine Jl.pv (PR.assign rfl) ?_
    refine Jl.nil ?_
    refine Jq.again ⟨k + 1, hlt'⟩ (by simp only; omega) (by exact ⟨rfl, by simp only [sumN_take l k hlt']; rfl, rfl, trivial⟩) rfl (by exact ⟨Mem.here, trivial⟩)
  · try replace hlt := of_decide_eq_false hlt
    obtain rfl : k = l.length := by omega
    rw [List.take_length]
    refine Jc.exit ?_
    refine Jq.thenX ?_
    refine Jq.thenX ?_
    refine Jq.blkX ?_
    refine Jq.thenN ?_
    refine Jc.seq ?_
    refine Jc.region ?_
    refine Jl.pv (PR.move rfl) ?_
    refine Jl.pv (PR.assign rfl) ?_
    refine Jl.nil ?_
    refine Jq.thenN ?_
    refine Jc.ret ?_
    exact Jq.fin () (.inl rfl) rfl (RetVs.tmp rfl RetVs.nil) rfl (by repeat (first | exact Take.nil | apply Take.cons (by repeat (first | exact Del.here | apply Del.there)))) (by repeat (first | exact trivial | refine And.intro (by repeat (first | exact Mem.here | apply Mem.there)) ?_))
end Go.Proofs.YtcohgnagffibcaaDoor
namespace Go.Proofs.YtcohgnagffibcaaDoor
set_option linter.unusedVariables false
open Go.RowKit
attribute [local irreducible] Res.blk Res.row Fact.rd
theorem rfput_ct (A : Option Addr) (c : Nat) (p : List UInt8) (hn : p.length ≤ 1000000) : Ct Tryd.prog 42 [.slice A p.length c] [] [.rd A (u8s p)] (fun x : OA => .tuple #[.slice x.1 (putFN p).length x.2, .int .i64 (putFR p)]) (rowU (putFN p)) (fun _ => []) := by
  by_cases hp : p.length ≤ 4000
  · have e1 : putFN p = frameB p := if_pos hp
    have e2 : putFR p = 0 := if_pos hp
    rw [e1, e2]
    have hpb := putB_len (p.length : Int)
    have hfl : (frameB p).length = (putB p.length).length + p.length + 4 := by simp [frameB, sumB]; omega
    refine Ct.of _ Tryd.func42 Tryd.ntmps42 rfl rfl (fun X W => ?_)
    refine Jc.seq ?_
    refine Jc.region ?_
    refine Jl.pv (PR.assign rfl) ?_
    refine Jl.pv (PR.assign rfl) ?_
    refine Jl.nil ?_
    refine Jq.thenN ?_
    refine Jc.seq ?_
    refine Jc.seq ?_
    refine Jc.region ?_
    refine Jl.pv (PR.move rfl) ?_
    refine Jl.pv (PR.len rfl tsl22) ?_
    refine Jl.pv (PR.gtr false rfl rfl (by simp; omega)) ?_
    refine Jl.nil ?_
    refine Jq.thenN ?_
    refine Jc.condF rfl ?_
    refine Jc.skip ?_
    refine Jq.thenN ?_
    refine Jc.seq ?_
    refine Jc.region ?_
    refine Jl.pv (PR.move rfl) ?_
    refine Jl.pv (PR.len rfl tsl22) ?_
    refine Jl.call (rput_fine (a := p.length) (by simp [fineN]; omega)) en58 (by rfl) (by repeat (first | exact Take.nil | apply Take.cons (by repeat (first | exact Del.here | apply Del.there)))) (by repeat (first | exact trivial | refine And.intro (by repeat (first | exact Mem.here | apply Mem.there)) ?_)) ?_
    rintro ⟨A13, c13⟩
    refine Jl.pv (PR.move rfl) ?_
    refine Jl.pv (PR.extract rfl (by rfl)) ?_
    refine Jl.pv (PR.extract rfl (by rfl)) ?_
    refine Jl.pv (PR.assign rfl) ?_
    refine Jl.pv (PR.assign rfl) ?_
    refine Jl.nil ?_
    refine Jq.thenN ?_
    refine Jc.seq ?_
    refine Jc.seq ?_
    refine Jc.region ?_
    refine Jl.pv (PR.move rfl) ?_
    refine Jl.pv (PR.neq false rfl rfl rfl) ?_
    refine Jl.nil ?_
    refine Jq.thenN ?_
    refine Jc.condF rfl ?_
    refine Jc.skip ?_
    refine Jq.thenN ?_
    refine Jc.seq ?_
    refine Jc.region ?_
    refine Jl.pv (PR.move rfl) ?_
    refine Jl.pv (PR.move rfl) ?_
    refine Jl.append (putB p.length ++ p).length (u8s (putB p.length ++ p)) rfl rfl rfl tsl22 tze5 (by rfl) (by decide) tby5 (fun _ _ => (by repeat (first | exact Swap.here | apply Swap.there))) (by repeat (first | exact Mem.here | apply Mem.there)) (by simp) (by simp [u8s]) (by simp [u8s]) (u8s_one _) (by omega) (by decide) ?_
    intro A21 c21
    refine Jl.pv (PR.assign rfl) ?_
    refine Jl.nil ?_
    refine Jq.thenN ?_
    refine Jc.seq ?_
    refine Jc.region ?_
    refine Jl.pv (PR.move rfl) ?_
    refine Jl.call (rsum_ct A c p (by omega)) en59 (by rfl) (by repeat (first | exact Take.nil | apply Take.cons (by repeat (first | exact Del.here | apply Del.there)))) (by repeat (first | exact trivial | refine And.intro (by repeat (first | exact Mem.here | apply Mem.there)) ?_)) ?_
    rintro ⟨⟩
    refine Jl.pv (PR.assign rfl) ?_
    refine Jl.nil ?_
    refine Jq.thenN ?_
    refine Jc.seq ?_
    refine Jc.region ?_
    refine Jl.pv (PR.move rfl) ?_
    refine Jl.pv (PR.move rfl) ?_
    refine Jl.pv (PR.conv ((sumN p % 256 : Nat) : Int) rfl Tryd.underlying40 Tryd.underlying5 (fput_sum _)) ?_
    refine Jl.pv (PR.move rfl) ?_
    refine Jl.pv (PR.shr ((sumN p / 256 : Nat) : Int) rfl rfl (by decide) (fput_shr _ _ 8 (by omega) rfl)) ?_
    refine Jl.pv (PR.conv ((sumN p / 256 % 256 : Nat) : Int) rfl Tryd.underlying40 Tryd.underlying5 (fput_sum _)) ?_
    refine Jl.pv (PR.move rfl) ?_
    refine Jl.pv (PR.shr ((sumN p / 65536 : Nat) : Int) rfl rfl (by decide) (fput_shr _ _ 16 (by omega) rfl)) ?_
    refine Jl.pv (PR.conv ((sumN p / 65536 % 256 : Nat) : Int) rfl Tryd.underlying40 Tryd.underlying5 (fput_sum _)) ?_
    refine Jl.pv (PR.move rfl) ?_
    refine Jl.pv (PR.shr ((sumN p / 16777216 : Nat) : Int) rfl rfl (by decide) (fput_shr _ _ 24 (by omega) rfl)) ?_
    refine Jl.pv (PR.conv ((sumN p / 16777216 % 256 : Nat) : Int) rfl Tryd.underlying40 Tryd.underlying5 (fput_sum _)) ?_
    refine Jl.buildSlice (by rfl) tsl22 tzr22_4 (by rfl) (by rfl) ?_
    intro b36
    refine Jl.seal (by repeat (first | exact Del.here | apply Del.there)) ?_
    refine Jl.append (frameB p).length (u8s (frameB p)) rfl rfl rfl tsl22 tze5 (by rfl) (by decide) tby5 (fun _ _ => (by repeat (first | exact Swap.here | apply Swap.there))) (by repeat (first | exact Mem.here | apply Mem.there)) (by rw [hfl]; simp) (by simp [u8s, frameB, sumB]) rfl (by simp [Value.oneCell']) (by simp; omega) (by decide) ?_
    intro A37 c37
    refine Jl.pv (PR.assign rfl) ?_
    refine Jl.pv (PR.assign rfl) ?_
    refine Jl.nil ?_
    refine Jq.thenN ?_
    refine Jc.ret ?_
    exact Jq.fin (A37, c37) (.inl rfl) rfl (RetVs.tmp rfl (RetVs.tmp rfl RetVs.nil)) rfl (by repeat (first | exact Take.nil | apply Take.cons (by repeat (first | exact Del.here | apply Del.there)))) (by repeat (first | exact trivial | refine And.intro (by repeat (first | exact Mem.here | apply Mem.there)) ?_))
  · have e1 : putFN p = [] := if_neg hp
    have e2 : putFR p = 2 := if_neg hp
    rw [e1, e2]
    refine Ct.of _ Tryd.func42 Tryd.ntmps42 rfl rfl (fun X W => ?_)
    refine Jc.seq ?_
    refine Jc.region ?_
    refine Jl.pv (PR.assign rfl) ?_
    refine Jl.pv (PR.assign rfl) ?_
    refine Jl.nil ?_
    refine Jq.thenN ?_
    refine Jc.seq ?_
    refine Jc.seq ?_
    refine Jc.region ?_
    refine Jl.pv (PR.move rfl) ?_
    refine Jl.pv (PR.len rfl tsl22) ?_
    refine Jl.pv (PR.gtr true rfl rfl (by simp; omega)) ?_
    refine Jl.nil ?_
    refine Jq.thenN ?_
    refine Jc.condT rfl ?_
    refine Jc.seq ?_
    refine Jc.region ?_
    refine Jl.pv (PR.assign rfl) ?_
    refine Jl.pv (PR.assign rfl) ?_
    refine Jl.nil ?_
    refine Jq.thenN ?_
    refine Jc.ret ?_
    refine Jq.thenR ?_
    refine Jq.nilRow 5 1 ?_
    exact Jq.fin (none, 0) (.inl rfl) rfl (RetVs.tmp rfl (RetVs.tmp rfl RetVs.nil)) rfl (by repeat (first | exact Take.nil | apply Take.cons (by repeat (first | exact Del.here | apply Del.there)))) (by repeat (first | exact trivial | refine And.intro (by repeat (first | exact Mem.here | apply Mem.there)) ?_))
theorem rfput_at {A : Option Addr} {c n : Nat} {p : List UInt8} (hn : p.length = n) (h4 : n ≤ 4000) : Ct Tryd.prog 42 [.slice A n c] [] [.rd A (u8s p)] (fun x : OA => .tuple #[.slice x.1 (frameB p).length x.2, .int .i64 0]) (rowU (frameB p)) (fun _ => []) := by
  subst hn
  have h0 := rfput_ct A c p (by omega)
  rw [show putFN p = frameB p from if_pos h4, show putFR p = 0 from if_pos h4] at h0
  exact h0
theorem ref_take {b r0 : List UInt8} {n : Nat} (ht : takeN b = (n, r0, 0)) (hn4 : n + 4 ≤ r0.length) :
    (frameB (r0.take n) = b.take (b.length - r0.length + n + 4) ↔ (r0.drop n).take 4 = sumB (sumN (r0.take n))) ∧ b.drop (b.length - r0.length + n + 4) = r0.drop (n + 4) ∧ b.length - r0.length + n + 4 ≤ b.length := by
  have hb := (takeN_only ht).1
  have hl : b.length = (putB n).length + r0.length := by rw [← hb]; simp
  have e0 : b.length - r0.length + n + 4 = (putB n).length + (n + 4) := by omega
  have hpl : (r0.take n).length = n := by simp; omega
  have e1 : b.take ((putB n).length + (n + 4)) = putB n ++ (r0.take n ++ (r0.drop n).take 4) := by
    rw [← hb, List.take_length_add_append, List.take_add]
  have e2 : b.drop ((putB n).length + (n + 4)) = r0.drop (n + 4) := by rw [← hb, List.drop_length_add_append]
  rw [e0, e1, e2]
  refine ⟨?_, rfl, by omega⟩
  rw [frameB, hpl, List.append_assoc, List.append_right_inj, List.append_right_inj]
  exact eq_comm
theorem rftake_ct (A : Option Addr) (c : Nat) (b : List UInt8) (hn : b.length ≤ 1000000) (hc : b.length ≤ c) :
    Ct Tryd.prog 30 [.slice A b.length c] [] [.rd A (u8s b)] (fun x : OA × OA => .tuple #[.slice x.1.1 (takeF b).1.length x.1.2, .slice x.2.1 (takeF b).2.1.length x.2.2, .int .i64 (takeF b).2.2]) (rows2 (takeF b).1 (takeF b).2.1) (fun _ => []) := by
  obtain ⟨n, r0, e0, ht⟩ : ∃ n r0 e0, takeN b = (n, r0, e0) := ⟨_, _, _, rfl⟩
  have htl : r0.length ≤ b.length := by have := takeN_len b; rw [ht] at this; exact this
  have hcf : cutF b = if e0 = 0 ∧ n ≤ 4000 ∧ n + 4 ≤ r0.length ∧ (r0.drop n).take 4 = sumB (sumN (r0.take n)) then some (r0.take n, r0.drop (n + 4)) else none := by rw [cutF, ht]
  have hct : Ct Tryd.prog 41 [.slice A b.length c] [] [.rd A (u8s b)] (fun x : OA => .tuple #[.int .i64 (n : Int), .slice x.1 r0.length x.2, .int .i64 (e0 : Int)]) (rowU r0) (fun _ => []) := by
    have := rtake_ct A c b hn hc
    rw [ht] at this
    exact this
  have hno : cutF b = none → takeF b = ([], [], 40) := fun h => by simp [takeF, h]
  have hye : ∀ p r, cutF b = some (p, r) → takeF b = (p, r, 0) := fun p r h => by simp [takeF, h]
  refine Ct.of _ Tryd.func30 Tryd.ntmps30 rfl rfl (fun X W => ?_)
  refine Jc.seq ?_
  refine Jc.region ?_
  refine Jl.pv (PR.assign rfl) ?_
  refine Jl.pv (PR.assign rfl) ?_
  refine Jl.pv (PR.assign rfl) ?_
  refine Jl.nil ?_
  refine Jq.thenN ?_
  refine Jc.seq ?_
  refine Jc.region ?_
  refine Jl.pv (PR.move rfl) ?_
  refine Jl.call hct en41 (by rfl) (by repeat (first | exact Take.nil | apply Take.cons (by repeat (first | exact Del.here | apply Del.there)))) (by repeat (first | exact trivial | refine And.intro (by repeat (first | exact Mem.here | apply Mem.there)) ?_)) ?_
  rintro ⟨A13, c13⟩
  refine Jl.sealC (by repeat (first | exact Del.here | apply Del.there)) (fun hc13 => ?_)
  refine Jl.pv (PR.move rfl) ?_
  refine Jl.pv (PR.extract rfl (by rfl)) ?_
  refine Jl.pv (PR.extract rfl (by rfl)) ?_
  refine Jl.pv (PR.extract rfl (by rfl)) ?_
  refine Jl.pv (PR.assign rfl) ?_
  refine Jl.pv (PR.assign rfl) ?_
  refine Jl.pv (PR.assign rfl) ?_
  refine Jl.nil ?_
  refine Jq.thenN ?_
  refine Jc.seq ?_
  refine Jc.seq ?_
  refine Jc.region ?_
  refine Jl.pv (PR.move rfl) ?_
  refine Jl.pv (PR.neq _ rfl rfl rfl) ?_
  refine Jl.pv (PR.move rfl) ?_
  refine Jl.bsplit (fun g19 => ?_) (fun g19 => ?_)
  · try replace g19 := of_decide_eq_true g19
    refine Jl.offS rfl rfl rfl ?_
    refine Jl.offS rfl rfl rfl ?_
    refine Jl.pv (PR.pickT rfl rfl) ?_
    refine Jl.pv (PR.move rfl) ?_
    refine Jl.offS rfl rfl rfl ?_
    refine Jl.offS rfl rfl rfl ?_
    refine Jl.offS rfl rfl rfl ?_
    refine Jl.offS rfl rfl rfl ?_
    refine Jl.offS rfl rfl rfl ?_
    refine Jl.pv (PR.pickT rfl rfl) ?_
    refine Jl.nil ?_
    refine Jq.thenN ?_
    refine Jc.condT rfl ?_
    refine Jc.seq ?_
    refine Jc.region ?_
    refine Jl.pv (PR.assign rfl) ?_
    refine Jl.pv (PR.assign rfl) ?_
    refine Jl.pv (PR.assign rfl) ?_
    refine Jl.nil ?_
    refine Jq.thenN ?_
    refine Jc.ret ?_
    refine Jq.thenR ?_
    rw [hno (by rw [hcf, if_neg (by omega)])]
    refine Jq.nilRow 5 1 ?_
    refine Jq.nilRow 5 1 ?_
    exact Jq.fin ((none, 0), (none, 0)) (.inl rfl) rfl (RetVs.tmp rfl (RetVs.tmp rfl (RetVs.tmp rfl RetVs.nil))) rfl (by repeat (first | exact Take.nil | apply Take.cons (by repeat (first | exact Del.here | apply Del.there)))) (by repeat (first | exact trivial | refine And.intro (by repeat (first | exact Mem.here | apply Mem.there)) ?_))
  · try replace g19 := of_decide_eq_false g19
    refine Jl.on rfl rfl ?_
    refine Jl.pv (PR.move rfl) ?_
    refine Jl.on rfl rfl ?_
    refine Jl.pv (PR.gtr _ rfl rfl rfl) ?_
    refine Jl.pv (PR.pickF rfl rfl) ?_
    refine Jl.pv (PR.move rfl) ?_
    refine Jl.bsplit (fun g23 => ?_) (fun g23 => ?_)
    · try replace g23 := of_decide_eq_true g23
      refine Jl.offS rfl rfl rfl ?_
      refine Jl.offS rfl rfl rfl ?_
      refine Jl.offS rfl rfl rfl ?_
      refine Jl.offS rfl rfl rfl ?_
      refine Jl.offS rfl rfl rfl ?_
      refine Jl.pv (PR.pickT rfl rfl) ?_
      refine Jl.nil ?_
      refine Jq.thenN ?_
      refine Jc.condT rfl ?_
      refine Jc.seq ?_
      refine Jc.region ?_
      refine Jl.pv (PR.assign rfl) ?_
      refine Jl.pv (PR.assign rfl) ?_
      refine Jl.pv (PR.assign rfl) ?_
      refine Jl.nil ?_
      refine Jq.thenN ?_
      refine Jc.ret ?_
      refine Jq.thenR ?_
      rw [hno (by rw [hcf, if_neg (by omega)])]
      refine Jq.nilRow 5 1 ?_
      refine Jq.nilRow 5 1 ?_
      exact Jq.fin ((none, 0), (none, 0)) (.inl rfl) rfl (RetVs.tmp rfl (RetVs.tmp rfl (RetVs.tmp rfl RetVs.nil))) rfl (by repeat (first | exact Take.nil | apply Take.cons (by repeat (first | exact Del.here | apply Del.there)))) (by repeat (first | exact trivial | refine And.intro (by repeat (first | exact Mem.here | apply Mem.there)) ?_))
    · try replace g23 := of_decide_eq_false g23
      refine Jl.on rfl rfl ?_
      refine Jl.pv (PR.move rfl) ?_
      refine Jl.on rfl rfl ?_
      refine Jl.pv (PR.len rfl tsl22) ?_
      refine Jl.on rfl rfl ?_
      refine Jl.pv (PR.move rfl) ?_
      refine Jl.on rfl rfl ?_
      refine Jl.pv (PR.add ((n + 4 : Nat) : Int) rfl rfl (by rw [w64 (by omega) (by omega)]; rfl)) ?_
      refine Jl.on rfl rfl ?_
      refine Jl.pv (PR.lss _ rfl rfl rfl) ?_
      refine Jl.pv (PR.pickF rfl rfl) ?_
      refine Jl.nil ?_
      refine Jq.thenN ?_
      refine Jc.cond rfl (fun h0 => ?_) (fun h0 => ?_)
      · try replace h0 := of_decide_eq_true h0
        refine Jc.seq ?_
        refine Jc.region ?_
        refine Jl.pv (PR.assign rfl) ?_
        refine Jl.pv (PR.assign rfl) ?_
        refine Jl.pv (PR.assign rfl) ?_
        refine Jl.nil ?_
        refine Jq.thenN ?_
        refine Jc.ret ?_
        refine Jq.thenR ?_
        rw [hno (by rw [hcf, if_neg (by omega)])]
        refine Jq.nilRow 5 1 ?_
        refine Jq.nilRow 5 1 ?_
        exact Jq.fin ((none, 0), (none, 0)) (.inl rfl) rfl (RetVs.tmp rfl (RetVs.tmp rfl (RetVs.tmp rfl RetVs.nil))) rfl (by repeat (first | exact Take.nil | apply Take.cons (by repeat (first | exact Del.here | apply Del.there)))) (by repeat (first | exact trivial | refine And.intro (by repeat (first | exact Mem.here | apply Mem.there)) ?_))
      · try replace h0 := of_decide_eq_false h0
        obtain rfl : e0 = 0 := by omega
        have hn4 : n + 4 ≤ r0.length := by omega
        have hrt := ref_take ht hn4
        obtain ⟨u, hu⟩ : ∃ u, b.length - r0.length + n + 4 = u := ⟨_, rfl⟩
        rw [hu] at hrt
        have hpl : (r0.take n).length = n := by simp; omega
        refine Jc.skip ?_
        refine Jq.thenN ?_
        refine Jc.seq ?_
        refine Jc.region ?_
        refine Jl.pv (PR.move rfl) ?_
        refine Jl.pv (PR.move rfl) ?_
        refine Jl.slice 0 n n (u8s (r0.take n)) rfl tsl22 rfl rfl (by repeat (first | exact Mem.here | apply Mem.there)) (by omega) (by omega) hc13 rfl (sl_take r0 n) ?_
        intro A33 c33 hc33
        clear hc33
        refine Jl.call (rfput_at (p := r0.take n) hpl (by omega)) en42 (by rfl) (by repeat (first | exact Take.nil | apply Take.cons (by repeat (first | exact Del.here | apply Del.there)))) (by repeat (first | exact trivial | refine And.intro (by repeat (first | exact Mem.here | apply Mem.there)) ?_)) ?_
        rintro ⟨A34, c34⟩
        refine Jl.sealR (by repeat (first | exact Del.here | apply Del.there)) ?_
        refine Jl.pv (PR.move rfl) ?_
        refine Jl.pv (PR.extract rfl (by rfl)) ?_
        refine Jl.pv (PR.extract rfl (by rfl)) ?_
        refine Jl.pv (PR.assign rfl) ?_
        refine Jl.pv (PR.assign rfl) ?_
        refine Jl.nil ?_
        refine Jq.thenN ?_
        refine Jc.seq ?_
        refine Jc.region ?_
        refine Jl.pv (PR.move rfl) ?_
        refine Jl.pv (PR.len rfl tsl22) ?_
        refine Jl.pv (PR.move rfl) ?_
        refine Jl.pv (PR.len rfl tsl22) ?_
        refine Jl.pv (PR.sub ((b.length - r0.length : Nat) : Int) rfl rfl (by rw [w64 (by omega) (by omega)]; omega)) ?_
        refine Jl.pv (PR.move rfl) ?_
        refine Jl.pv (PR.add ((b.length - r0.length + n : Nat) : Int) rfl rfl (by rw [w64 (by omega) (by omega)]; omega)) ?_
        refine Jl.pv (PR.add ((u : Nat) : Int) rfl rfl (by rw [w64 (by omega) (by omega)]; omega)) ?_
        refine Jl.pv (PR.assign rfl) ?_
        refine Jl.nil ?_
        refine Jq.thenN ?_
        refine Jc.seq ?_
        refine Jc.seq ?_
        refine Jc.drawn [0, 1, 0, 0, 12, 28, 63] ([(0, false), (1, false), (2, false), (3, false), (4, false), (5, false), (6, false)], []) [] tmx (by kernel_rfl) ?_
        refine Dh.JH.nil ?_
        refine Dh.JB.pv rfl trivial (fun _ => PR.move rfl) ?_
        refine Dh.JB.pv rfl trivial (fun _ => PR.str rfl Tryd.underlying22 Tryd.underlying5 Tryd.underlying9 (by repeat (first | exact Mem.here | apply Mem.there)) rfl) ?_
        refine Dh.JB.pv rfl trivial (fun _ => PR.move rfl) ?_
        refine Dh.JB.pv rfl trivial (fun _ => PR.move rfl) ?_
        refine Dh.JB.slice 0 u u (u8s (b.take u)) rfl trivial rfl tsl22 rfl rfl (by repeat (first | exact Mem.here | apply Mem.there)) (by omega) (by omega) hc rfl (sl_take b u) ?_
        intro A49 c49 hc49
        clear hc49
        refine Dh.JB.pv rfl trivial (fun _ => PR.str rfl Tryd.underlying22 Tryd.underlying5 Tryd.underlying9 (by repeat (first | exact Mem.here | apply Mem.there)) (by simp; omega)) ?_
        refine Dh.JB.pv rfl trivial (fun _ => PR.sneq _ rfl rfl rfl) ?_
        refine Dh.JB.nil ?_
        refine Dh.JL.nil ?_
        refine Jq.thenN ?_
        refine Jc.cond rfl (fun h1 => ?_) (fun h1 => ?_)
        · try replace h1 := of_decide_eq_true h1
          refine Jc.seq ?_
          refine Jc.region ?_
          refine Jl.pv (PR.assign rfl) ?_
          refine Jl.pv (PR.assign rfl) ?_
          refine Jl.pv (PR.assign rfl) ?_
          refine Jl.nil ?_
          refine Jq.thenN ?_
          refine Jc.ret ?_
          refine Jq.thenR ?_
          rw [hno (by rw [hcf, if_neg (fun h => by have := hrt.1.2 h.2.2.2; simp [this] at h1)])]
          refine Jq.nilRow 5 1 ?_
          refine Jq.nilRow 5 1 ?_
          exact Jq.fin ((none, 0), (none, 0)) (.inl rfl) rfl (RetVs.tmp rfl (RetVs.tmp rfl (RetVs.tmp rfl RetVs.nil))) rfl (by repeat (first | exact Take.nil | apply Take.cons (by repeat (first | exact Del.here | apply Del.there)))) (by repeat (first | exact trivial | refine And.intro (by repeat (first | exact Mem.here | apply Mem.there)) ?_))
        · try replace h1 := of_decide_eq_false h1
          have hcs := hye _ _ (by rw [hcf, if_pos ⟨rfl, by omega, hn4, hrt.1.1 (by simpa using h1)⟩])
          have hdl : (r0.drop (n + 4)).length = b.length - u := by rw [← hrt.2.1]; simp
          refine Jc.skip ?_
          refine Jq.thenN ?_
          refine Jc.seq ?_
          refine Jc.drawn [0, 0, 0, 6, 15, 0, 0, 0, 192, 511, 1023, 2047, 4095] ([(10, false), (11, false), (12, false)], []) [⟨[(0, true), (1, false), (2, false), (3, false), (5, true), (6, false), (7, false), (8, false)], [0], 4⟩, ⟨[], [5], 9⟩] tmx (by kernel_rfl) ?_
          refine Dh.JH.cons ?_
          refine Dh.JB.buildSlice rfl trivial (by rfl) tsl22 tzr22_0 (by rfl) (by rfl) ?_
          refine Dh.JB.pv rfl trivial (fun _ => PR.move rfl) ?_
          refine Dh.JB.pv rfl trivial (fun _ => PR.move rfl) ?_
          refine Dh.JB.slice 0 n n (u8s (r0.take n)) rfl trivial rfl tsl22 rfl rfl (by repeat (first | exact Mem.here | apply Mem.there)) (by omega) (by omega) hc13 rfl (sl_take r0 n) ?_
          intro A55 c55 hc55
          clear hc55
          refine Dh.JB.buildSlice rfl trivial (by rfl) tsl22 tzr22_0 (by rfl) (by rfl) ?_
          refine Dh.JB.pv rfl trivial (fun _ => PR.move rfl) ?_
          refine Dh.JB.pv rfl trivial (fun _ => PR.move rfl) ?_
          refine Dh.JB.slice u b.length (b.length - u) (u8s (b.drop u)) rfl trivial rfl tsl22 rfl rfl (by repeat (first | exact Mem.here | apply Mem.there)) (by omega) (Nat.le_refl _) hc rfl (sl_end b u) ?_
          intro A60 c60 hc60
          clear hc60
          refine Dh.JB.nil ?_
          refine Dh.JL.sl rfl (by repeat (first | exact Dh.es_here | apply Dh.es_there)) (fun b52 => ?_)
          refine Dh.JL.nil ?_
          refine Dh.JE.mk rfl (fun _ h => by cases h) (fun C8_4 => ?_)
          refine Jl.toRow 1 0 (by repeat (first | exact Swap.here | apply Swap.there)) (by rfl) (by rfl) ?_
          refine Jl.append (r0.take n).length (u8s (r0.take n)) rfl rfl rfl tsl22 tze5 (by rfl) (by decide) tby5 (fun _ _ => (by repeat (first | exact Swap.here | apply Swap.there))) (by repeat (first | exact Mem.here | apply Mem.there)) (by omega) rfl (by simp [u8s]; omega) (u8s_one _) (by omega) (by decide) ?_
          intro A56 c56
          refine Jl.nil ?_
          refine Dh.Jq.segV (by repeat (first | exact Dh.FExt.refl | apply Dh.FExt.cons | apply Dh.FExt.app)) ?_ (by repeat (first | exact Dh.KeepL.nil | apply Dh.KeepL.anc (by rfl) | apply Dh.KeepL.keep (by repeat (first | exact Take.nil | apply Take.cons (by repeat (first | exact Del.here | apply Del.there))))))
          refine Dh.JH.cons ?_
          refine Dh.JB.nil ?_
          refine Dh.JL.sl rfl (by repeat (first | exact Dh.es_here | apply Dh.es_there)) (fun b57 => ?_)
          refine Dh.JL.nil ?_
          refine Dh.JE.mk rfl (fun _ h => by cases h) (fun C8_9 => ?_)
          refine Jl.toRow 1 0 (by repeat (first | exact Swap.here | apply Swap.there)) (by rfl) (by rfl) ?_
          refine Jl.append (b.drop u).length (u8s (b.drop u)) rfl rfl rfl tsl22 tze5 (by rfl) (by decide) tby5 (fun _ _ => (by repeat (first | exact Swap.here | apply Swap.there))) (by repeat (first | exact Mem.here | apply Mem.there)) (by simp) rfl (by simp [u8s]) (u8s_one _) (by simp; omega) (by decide) ?_
          intro A61 c61
          refine Jl.nil ?_
          refine Dh.Jq.segV (by repeat (first | exact Dh.FExt.refl | apply Dh.FExt.cons | apply Dh.FExt.app)) ?_ (by repeat (first | exact Dh.KeepL.nil | apply Dh.KeepL.anc (by rfl) | apply Dh.KeepL.keep (by repeat (first | exact Take.nil | apply Take.cons (by repeat (first | exact Del.here | apply Del.there))))))
          refine Dh.JH.nil ?_
          refine Dh.JB.pv rfl trivial (fun _ => PR.assign rfl) ?_
          refine Dh.JB.pv rfl trivial (fun _ => PR.assign rfl) ?_
          refine Dh.JB.pv rfl trivial (fun _ => PR.assign rfl) ?_
          refine Dh.JB.nil ?_
          refine Dh.JL.nil ?_
          refine Jq.thenN ?_
          refine Jc.ret ?_
          rw [hcs, ← hrt.2.1]
          exact Jq.fin ((A56, c56), (A61, c61)) (.inl rfl) rfl (RetVs.tmp rfl (RetVs.tmp rfl (RetVs.tmp rfl RetVs.nil))) rfl (by repeat (first | exact Take.nil | apply Take.cons (by repeat (first | exact Del.here | apply Del.there)))) (by repeat (first | exact trivial | refine And.intro (by repeat (first | exact Mem.here | apply Mem.there)) ?_))
end Go.Proofs.YtcohgnagffibcaaDoor
