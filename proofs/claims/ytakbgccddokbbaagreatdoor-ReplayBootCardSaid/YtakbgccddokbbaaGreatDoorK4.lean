import Derived.Lib.Overlaps
import Derived.Lib.AppendZerosOnto
import Derived.KernelRfl
import Derived.Test.YtakbgccddokbbaaGreatDoorK3
set_option linter.unusedVariables false
namespace Go.Proofs.YtakbgccddokbbaaGreatDoor
def fsS (s : Nat) (c : UInt8) : Nat := (31 * s + c.toNat + 7) % 4294967296
def sumN (b : List UInt8) : Nat := b.foldl fsS 1
theorem fsS_lt (s : Nat) (c : UInt8) : fsS s c < 4294967296 := Nat.mod_lt _ (by omega)
theorem sumN_snoc (b : List UInt8) (c : UInt8) : sumN (b ++ [c]) = fsS (sumN b) c := by simp [sumN]
theorem sumN_lt (b : List UInt8) : sumN b < 4294967296 := by
 rcases List.eq_nil_or_concat b with rfl | ⟨l, c, rfl⟩
 · decide
 · rw [List.concat_eq_append, sumN_snoc]; exact fsS_lt _ _
theorem sumN_take (b : List UInt8) (k : Nat) (h : k < b.length) : sumN (b.take (k + 1)) = fsS (sumN (b.take k)) b[k] := by
 rw [List.take_succ_eq_append_getElem h, sumN_snoc]
def sumB (s : Nat) : List UInt8 := [UInt8.ofNat s, UInt8.ofNat (s / 256), UInt8.ofNat (s / 65536), UInt8.ofNat (s / 16777216)]
def frameB (p : List UInt8) : List UInt8 := putB p.length ++ p ++ sumB (sumN p)
def putFN (p : List UInt8) : List UInt8 := if p.length ≤ 4000 then frameB p else []
def putFR (p : List UInt8) : Int := if p.length ≤ 4000 then 0 else 2
def cutF (b : List UInt8) : Option (List UInt8 × List UInt8) :=
 if (takeN b).2.2 = 0 ∧ (takeN b).1 ≤ 4000 ∧ (takeN b).1 + 4 ≤ (takeN b).2.1.length ∧ ((takeN b).2.1.drop (takeN b).1).take 4 = sumB (sumN ((takeN b).2.1.take (takeN b).1)) then
  some ((takeN b).2.1.take (takeN b).1, (takeN b).2.1.drop ((takeN b).1 + 4)) else none
theorem cutF_len {b p r : List UInt8} (h : cutF b = some (p, r)) : p.length + r.length + 4 ≤ b.length ∧ p.length ≤ 4000 := by
 unfold cutF at h
 split at h
 · rename_i hc
   simp only [Option.some.injEq, Prod.mk.injEq] at h
   obtain ⟨rfl, rfl⟩ := h
   have := takeN_len b
   simp only [List.length_take, List.length_drop]
   omega
 · cases h
def framesF : Nat → List UInt8 → List (List UInt8 × List UInt8)
  | 0, _ => []
  | f + 1, b => match cutF b with
    | none => []
    | some (p, r) => (p, r) :: framesF f r
theorem framesF_fuel : ∀ f g b, b.length ≤ f → b.length ≤ g → framesF f b = framesF g b
  | 0, 0, _, _, _ => rfl
  | 0, g + 1, b, h, _ => by
    have hb : b = [] := List.eq_nil_of_length_eq_zero (by omega)
    subst hb
    have : cutF [] = none := by decide
    simp [framesF, this]
  | f + 1, 0, b, _, h => by
    have hb : b = [] := List.eq_nil_of_length_eq_zero (by omega)
    subst hb
    have : cutF [] = none := by decide
    simp [framesF, this]
  | f + 1, g + 1, b, hf, hg => by
    unfold framesF
    cases hc : cutF b with
    | none => rfl
    | some pr =>
      obtain ⟨p, r⟩ := pr
      have := (cutF_len hc).1
      simp only
      rw [framesF_fuel f g r (by omega) (by omega)]
def framesN (b : List UInt8) : List (List UInt8 × List UInt8) := framesF b.length b
theorem framesN_none {b : List UInt8} (h : cutF b = none) : framesN b = [] := by
 unfold framesN
 cases hb : b.length with
 | zero => rfl
 | succ f => simp [framesF, h]
theorem framesN_some {b p r : List UInt8} (h : cutF b = some (p, r)) : framesN b = (p, r) :: framesN r := by
 have hl := (cutF_len h).1
 unfold framesN
 cases hb : b.length with
 | zero => omega
 | succ f => simp only [framesF, h]; rw [framesF_fuel f r.length r (by omega) (Nat.le_refl _)]
structure FrI (b : List UInt8) (k : Nat) (r : List UInt8) : Prop where
 le : r.length ≤ b.length
 eq : (framesN b).drop k = framesN r
 kle : k ≤ (framesN b).length
theorem FrI.zero (b : List UInt8) : FrI b 0 b := ⟨Nat.le_refl _, rfl, Nat.zero_le _⟩
theorem FrI.stop {b r : List UInt8} {k : Nat} (h : FrI b k r) (hc : cutF r = none) : k = (framesN b).length := by
 have h1 := h.eq
 rw [framesN_none hc] at h1
 have := List.drop_eq_nil_iff.1 h1
 have := h.kle
 omega
theorem FrI.next {b r p r' : List UInt8} {k : Nat} (h : FrI b k r) (hc : cutF r = some (p, r')) : k < (framesN b).length ∧ (framesN b)[k]? = some (p, r') ∧ FrI b (k + 1) r' := by
 have h1 := h.eq
 rw [framesN_some hc] at h1
 have hg : (framesN b)[k]? = some (p, r') := by
  have := congrArg (·[0]?) h1
  simpa using this
 have hk := (List.getElem?_eq_some_iff.1 hg).1
 refine ⟨hk, hg, by have := (cutF_len hc).1; have := h.le; omega, ?_, hk⟩
 have := congrArg (List.drop 1) h1
 simpa [Nat.add_comm] using this
end Go.Proofs.YtakbgccddokbbaaGreatDoor
namespace Go.Proofs.YtakbgccddokbbaaGreatDoor
open Go.RowKit
attribute [local irreducible] Res.blk Res.row Fact.rd
theorem bclone_ct (A : Option Addr) (c : Nat) (l : List UInt8) (hn : l.length ≤ 10000000) :
    Ct Tryz.prog 126 [.slice A l.length c] [] [.rd A (u8s l)] (fun x : Option Addr × Nat => .slice x.1 l.length x.2) (fun x => [.row 5 1 (.slice x.1 l.length x.2) l.length (u8s l)]) (fun _ => []) := by
  cases A with
  | none =>
    refine Ct.of _ Tryz.func126 Tryz.ntmps126 rfl rfl (fun X W => ?_)
    refine Jc.pure (p := l = []) Mem.here (fun X W h => ?_) ?_
    · cases l with
      | nil => rfl
      | cons x l => exact absurd (Fact.rd_none h) (by simp [u8s])
    rintro rfl
    refine Jc.qs<|Jc.qr<|Jl.pv (PR.qa rfl)<|Jl.qn<|Jq.qt<|Jc.qs<|Jc.qs<|Jc.qr<|Jl.pv (PR.qm rfl) ?_
    refine Jl.pv (PR.eqlNil true rfl tsl25 rfl) ?_
    refine Jl.qn<|Jq.qt<|Jc.condT rfl<|Jc.qs<|Jc.qr<|Jl.pv (PR.qa rfl)<|Jl.qn<|Jq.qt<|Jc.ret<|Jq.thenR ?_
    refine Jq.nilRow 5 1 ?_
    exact Jq.fin (none, 0) (.inl rfl) rfl (RetVs.tmp rfl RetVs.nil) rfl zT zF
  | some a =>
    refine Ct.of _ Tryz.func126 Tryz.ntmps126 rfl rfl (fun X W => ?_)
    refine Jc.qs<|Jc.qr<|Jl.pv (PR.qa rfl)<|Jl.qn<|Jq.qt<|Jc.qs<|Jc.qs<|Jc.qr<|Jl.pv (PR.qm rfl) ?_
    refine Jl.pv (PR.eqlNil false rfl tsl25 rfl) ?_
    refine Jl.qn<|Jq.qt<|Jc.condF rfl<|Jc.skip<|Jq.qt<|Jc.qs<|Jc.qr ?_
    refine Jl.buildSlice (by rfl) tsl25 tzr25_0 (by rfl) (by rfl) ?_
    intro b5
    refine Jl.pv (PR.qm rfl) ?_
    refine Jl.toRow 1 0 zS (by rfl) (by rfl) ?_
    refine Jl.append l.length (u8s l) rfl rfl rfl tsl25 tze5 (by rfl) (by decide) tby5 (fun _ _ => zS) zM (by omega) rfl (by simp [u8s]) (u8s_one _) (by omega) (by decide) ?_
    intro A7 c7
    refine Jl.pv (PR.qa rfl)<|Jl.qn<|Jq.qt<|Jc.ret ?_
    exact Jq.fin (A7, c7) (.inl rfl) rfl (RetVs.tmp rfl RetVs.nil) rfl zT zF
theorem sum_mul (s : Nat) (hs : s < 4294967296) : IntKind.u32.wrap (31 * (s : Int)) = ((31 * s % 4294967296 : Nat) : Int) := by rw [IntKind.wrap_u32]; omega
theorem sum_add (s c : Nat) : IntKind.u32.wrap (((31 * s % 4294967296 : Nat) : Int) + (c : Int)) = (((31 * s + c) % 4294967296 : Nat) : Int) := by rw [IntKind.wrap_u32]; omega
theorem sum_add7 (s c : Nat) : IntKind.u32.wrap ((((31 * s + c) % 4294967296 : Nat) : Int) + 7) = (((31 * s + c + 7) % 4294967296 : Nat) : Int) := by rw [IntKind.wrap_u32]; omega
theorem sum1_ct (b : Nat) (s : Nat) (c : UInt8) (hs : s < 4294967296) : Ct Tryz.prog 134 [.int .u8 c.toNat, .pointer (some ⟨b, 0, none⟩)] [.blk b 129 [.int .u32 (s : Int)]] [] (fun _ : Unit => .tuple #[]) (fun _ => [.blk b 129 [.int .u32 (fsS s c : Nat)]]) (fun _ => []) := by
 have hc : c.toNat < 256 := UInt8.toNat_lt c
 refine Ct.of _ Tryz.func134 Tryz.ntmps134 rfl rfl (fun X W => ?_)
 refine Jc.qr ?_
 refine Jl.pv (PR.load1 rfl tsh129 zH (by rfl)) ?_
 refine Jl.pv (PR.mul ((31 * s % 4294967296 : Nat) : Int) rfl rfl (sum_mul s hs)) ?_
 refine Jl.pv (PR.qm rfl) ?_
 refine Jl.pv (PR.conv (c.toNat : Int) rfl Tryz.underlying5 Tryz.underlying129 (by rw [IntKind.wrap_u32]; omega)) ?_
 refine Jl.pv (PR.add (((31 * s + c.toNat) % 4294967296 : Nat) : Int) rfl rfl (sum_add s c.toNat)) ?_
 refine Jl.pv (PR.add ((fsS s c : Nat) : Int) rfl rfl (sum_add7 s c.toNat)) ?_
 refine Jl.store1 rfl tsh129 rfl (by rfl) zS (by rfl) ?_
 refine Jl.qn ?_
 exact Jq.fin () (.inr rfl) rfl RetVs.nil rfl zT zF
theorem sum_ct (A : Option Addr) (c : Nat) (l : List UInt8) (hn : l.length ≤ 1000000) : Ct Tryz.prog 113 [.slice A l.length c] [] [.rd A (u8s l)] (fun _ : Unit => .int .u32 (sumN l : Nat)) (fun _ => []) (fun _ => []) := by
 refine Ct.of _ Tryz.func113 Tryz.ntmps113 rfl rfl (fun X W => ?_)
 refine Jc.qs<|Jc.qr<|Jl.pv (PR.qa rfl)<|Jl.qn<|Jq.qt<|Jc.qs<|Jc.qr ?_
 refine Jl.alloc tze129 ?_
 intro b3
 refine Jl.store1 rfl tsh129 rfl (by rfl) zS (by rfl) ?_
 refine Jl.qn<|Jq.qt<|Jc.qs<|Jc.qr ?_
 refine Jl.pv (PR.makeFunc rfl rfl) ?_
 refine Jl.pv (PR.qa rfl)<|Jl.qn<|Jq.qt<|Jc.qs<|Jc.qs<|Jc.qr<|Jl.pv (PR.qm rfl) ?_
 refine Jl.pv (PR.len rfl tsl25) ?_
 refine Jl.pv (PR.qm rfl)<|Jl.qn<|Jq.qt ?_
 refine Jc.block ?_
 refine Jc.loop (σ := { k : Nat // k ≤ l.length }) (fun s => [(10, .int .i64 (s.1 : Int)), (9, .int .i64 (l.length : Int)), (8, .slice A l.length c), (3, .pointer (some ⟨b3, 0, none⟩)), (4, .func (.func 134) #[] #[.pointer (some ⟨b3, 0, none⟩)])]) (fun s => [.blk b3 129 [.int .u32 (sumN (l.take s.1) : Nat)]]) (fun _ => [.rd A (u8s l)]) (fun s => l.length - s.1) ⟨0, Nat.zero_le _⟩ (by exact ⟨rfl, rfl, rfl, rfl, rfl, trivial⟩) rfl (by exact ⟨Mem.here, trivial⟩) ?_
 rintro ⟨k, hk⟩
 show Jc _ _ _ _ _ _ [(10, Value.int .i64 (k : Int)), (9, Value.int .i64 (l.length : Int)), (8, .slice A l.length c), (3, .pointer (some ⟨b3, 0, none⟩)), (4, .func (.func 134) #[] #[.pointer (some ⟨b3, 0, none⟩)])] [.blk b3 129 [.int .u32 (sumN (l.take k) : Nat)]] [.rd A (u8s l)]
 refine Jc.qs<|Jc.qr ?_
 refine Jl.pv (PR.lss _ rfl rfl rfl) ?_
 refine Jl.qn<|Jq.qt<|Jc.qs ?_
 refine Jc.cond rfl (fun hlt => ?_) (fun hlt => ?_)
 · try replace hlt := zV hlt
   have hlt' : k < l.length := by omega
   refine Jc.skip<|Jq.qt<|Jc.qs ?_
   refine Jc.block ?_
   refine Jc.qs<|Jc.qr ?_
   refine Jl.pv (PR.idx1 k rfl rfl tsl25 zM (by simp [u8s]) rfl hlt') ?_
   refine Jl.pv (PR.loadR rfl tsh5 zM (getu hlt')) ?_
   refine Jl.pv (PR.qa rfl)<|Jl.qn<|Jq.qt<|Jc.qr<|Jl.pv (PR.qm rfl)<|Jl.pv (PR.qm rfl) ?_
   refine Jl.callv (sum1_ct b3 (sumN (l.take k)) l[k] (sumN_lt _)) en134 rfl (by rfl) (by rfl) zT zF ?_
   rintro ⟨⟩
   refine Jl.qn ?_
   refine Jq.blkN ?_
   refine Jq.qt<|Jc.qr ?_
   refine Jl.pv (PR.add ((k + 1 : Nat) : Int) rfl rfl (by rw [w64 (by omega) (by omega)]; rfl)) ?_
   refine Jl.pv (PR.qm rfl)<|Jl.qn ?_
   refine Jq.again ⟨k + 1, hlt'⟩ (by simp only; omega) (by exact ⟨rfl, rfl, rfl, rfl, rfl, trivial⟩) (by simp only [sumN_take l k hlt']; rfl) (by exact ⟨Mem.here, trivial⟩)
 try replace hlt := zW hlt
 obtain rfl : k = l.length := by omega
 rw [List.take_length]
 refine Jc.exit ?_
 refine Jq.thenX ?_
 refine Jq.thenX ?_
 refine Jq.blkX ?_
 refine Jq.qt<|Jc.qs<|Jc.qr ?_
 refine Jl.pv (PR.load1 rfl tsh129 zH (by rfl)) ?_
 refine Jl.pv (PR.qa rfl)<|Jl.qn<|Jq.qt<|Jc.ret ?_
 exact Jq.fin () (.inl rfl) rfl (RetVs.tmp rfl RetVs.nil) rfl zT zF
theorem sumB_at (s k : Nat) (hk : k < 4) : (sumB s)[k]? = some (UInt8.ofNat (s / 2 ^ (8 * k))) := by
 obtain rfl | rfl | rfl | rfl : k = 0 ∨ k = 1 ∨ k = 2 ∨ k = 3 := by omega
 all_goals simp [sumB]
theorem shr_sum (s k : Nat) (hk : k < 4) : Int.fdiv (s : Int) (2 ^ (min ((8 * k : Nat) : Int).toNat IntKind.u32.bits)) = ((s / 2 ^ (8 * k) : Nat) : Int) := by
 have e : min ((8 * k : Nat) : Int).toNat IntKind.u32.bits = 8 * k := by show min _ 32 = _; omega
 rw [e, Int.fdiv_eq_ediv_of_nonneg _ (Int.pow_nonneg (by decide))]
 norm_cast
theorem four_eq {a b : List UInt8} (h1 : a.length = 4) (h2 : b.length = 4) (h : ∀ j, j < 4 → a[j]? = b[j]?) : a = b := by
 apply List.ext_getElem?
 intro j
 by_cases hj : j < 4
 · exact h j hj
 · rw [List.getElem?_eq_none (by omega), List.getElem?_eq_none (by omega)]
def cutV (t : Option (List UInt8 × List UInt8)) (x : OA × OA) : Value := match t with
 | some (p, r) => .tuple #[.slice x.1.1 p.length x.1.2, .slice x.2.1 r.length x.2.2, .bool true]
 | none => .tuple #[.slice x.1.1 0 x.1.2, .slice x.2.1 0 x.2.2, .bool false]
def cutY (t : Option (List UInt8 × List UInt8)) (x : OA × OA) : List Fact := match t with
 | some (p, r) => [.rd x.1.1 (u8s p), .rd x.2.1 (u8s r)]
 | none => [.rd x.1.1 [], .rd x.2.1 []]
def cutC (t : Option (List UInt8 × List UInt8)) (x : OA × OA) : Prop := match t with
 | some (p, r) => p.length ≤ x.1.2 ∧ r.length ≤ x.2.2
 | none => 0 ≤ x.1.2 ∧ 0 ≤ x.2.2
theorem yg_nil (m : Nat) (A : Option Addr) (X : Nat → Prop) (W : World) : (Fact.yg m (.rd A [])).p X W := Fact.rd_nil A _ W
theorem cut_cty (A : Option Addr) (c : Nat) (b : List UInt8) (hn : b.length ≤ 1000000) (hc : b.length ≤ c) :
 CtY Tryz.prog 125 [.slice A b.length c] [] [.rd A (u8s b)] (cutV (cutF b)) (fun _ => []) (fun x => [.is (cutC (cutF b) x)]) (cutY (cutF b)) := by
 obtain ⟨n, r0, e0, ht⟩ : ∃ n r0 e0, takeN b = (n, r0, e0) := ⟨_, _, _, rfl⟩
 have htl : r0.length ≤ b.length := by have := takeN_len b; rw [ht] at this; exact this
 have hcf : cutF b = if e0 = 0 ∧ n ≤ 4000 ∧ n + 4 ≤ r0.length ∧ (r0.drop n).take 4 = sumB (sumN (r0.take n)) then some (r0.take n, r0.drop (n + 4)) else none := by rw [cutF, ht]
 have hct : Ct Tryz.prog 145 [.slice A b.length c] [] [.rd A (u8s b)] (fun x : OA => .tuple #[.int .i64 (n : Int), .slice x.1 r0.length x.2, .int .i64 (e0 : Int)]) (rowU r0) (fun _ => []) := take_at ht hn hc
 clear ht
 refine CtY.of _ Tryz.func125 Tryz.ntmps125 rfl rfl (fun X W => ?_)
 refine Jc.qs<|Jc.qr<|Jl.pv (PR.qa rfl)<|Jl.pv (PR.qa rfl)<|Jl.pv (PR.qa rfl)<|Jl.qn<|Jq.qt ?_
 refine Jc.scope (σ := { _u : Unit // cutF b = none }) (fun _ => []) (fun _ => []) (fun _ => []) (fun _ => 0) (l := 0) rfl ?_ ?_
 · rintro ⟨_, hcn⟩
   rw [hcn]
   refine Jc.qs<|Jc.qr<|Jl.pv (PR.qa rfl)<|Jl.pv (PR.qa rfl)<|Jl.pv (PR.qa rfl)<|Jl.qn<|Jq.qt<|Jc.ret ?_
   refine Jq.jmpR ?_
   refine Jq.fact0 (.yg W.heap.size (.rd none [])) (fun X' W' => yg_nil _ _ X' W') ?_
   refine Jq.fact0 (.is (cutC none ((none, 0), (none, 0)))) (fun _ _ => ⟨Nat.le_refl 0, Nat.le_refl 0⟩) ?_
   exact Jq.fin ((none, 0), (none, 0)) (.inl rfl) rfl (RetVs.tmp rfl (RetVs.tmp rfl (RetVs.tmp rfl RetVs.nil))) rfl zT zF
 intro hfirst0
 refine Jc.qs<|Jc.qr<|Jl.pv (PR.qm rfl) ?_
 refine Jl.call hct en145 (by rfl) zT zF ?_
 rintro ⟨A11, c11⟩
 refine Jl.sealY (fun _ h => h) zD (fun hc11 => ?_)
 refine Jl.pv (PR.qm rfl) ?_
 refine Jl.pv (PR.extract rfl (by rfl)) ?_
 refine Jl.pv (PR.extract rfl (by rfl)) ?_
 refine Jl.pv (PR.extract rfl (by rfl)) ?_
 refine Jl.pv (PR.qa rfl)<|Jl.pv (PR.qa rfl)<|Jl.pv (PR.qa rfl)<|Jl.qn<|Jq.qt<|Jc.qs<|Jc.qs<|Jc.qr<|Jl.pv (PR.qm rfl) ?_
 refine Jl.pv (PR.neq _ rfl rfl rfl) ?_
 refine Jl.pv (PR.qm rfl) ?_
 refine Jl.bsplit (fun g17 => ?_) (fun g17 => ?_)
 · try replace g17 := zV g17
   refine Jl.qo rfl rfl rfl<|Jl.qo rfl rfl rfl<|Jl.pv (PR.pickT rfl rfl)<|Jl.pv (PR.qm rfl)<|Jl.qo rfl rfl rfl<|Jl.qo rfl rfl rfl<|Jl.qo rfl rfl rfl<|Jl.qo rfl rfl rfl<|Jl.qo rfl rfl rfl<|Jl.pv (PR.pickT rfl rfl)<|Jl.qn<|Jq.qt<|Jc.condT rfl ?_
   refine Jc.goto ?_
   refine Jq.thenG ?_
   exact Jq.jmpA ⟨(), by rw [hcf, if_neg (by omega)]⟩ trivial rfl trivial
 try replace g17 := zW g17
 refine Jl.on rfl rfl<|Jl.pv (PR.qm rfl)<|Jl.on rfl rfl ?_
 refine Jl.pv (PR.gtr _ rfl rfl rfl) ?_
 refine Jl.pv (PR.pickF rfl rfl)<|Jl.pv (PR.qm rfl) ?_
 refine Jl.bsplit (fun g21 => ?_) (fun g21 => ?_)
 · try replace g21 := zV g21
   refine Jl.qo rfl rfl rfl<|Jl.qo rfl rfl rfl<|Jl.qo rfl rfl rfl<|Jl.qo rfl rfl rfl<|Jl.qo rfl rfl rfl<|Jl.pv (PR.pickT rfl rfl)<|Jl.qn<|Jq.qt<|Jc.condT rfl ?_
   refine Jc.goto ?_
   refine Jq.thenG ?_
   exact Jq.jmpA ⟨(), by rw [hcf, if_neg (by omega)]⟩ trivial rfl trivial
 try replace g21 := zW g21
 refine Jl.on rfl rfl<|Jl.pv (PR.qm rfl)<|Jl.on rfl rfl ?_
 refine Jl.pv (PR.len rfl tsl25) ?_
 refine Jl.on rfl rfl<|Jl.pv (PR.qm rfl)<|Jl.on rfl rfl ?_
 refine Jl.pv (PR.add ((n + 4 : Nat) : Int) rfl rfl (by rw [w64 (by omega) (by omega)]; rfl)) ?_
 refine Jl.on rfl rfl ?_
 refine Jl.pv (PR.lss _ rfl rfl rfl) ?_
 refine Jl.pv (PR.pickF rfl rfl)<|Jl.qn<|Jq.qt ?_
 refine Jc.cond rfl (fun h0 => ?_) (fun h0 => ?_)
 · try replace h0 := zV h0
   refine Jc.goto ?_
   refine Jq.thenG ?_
   exact Jq.jmpA ⟨(), by rw [hcf, if_neg (by omega)]⟩ trivial rfl trivial
 try replace h0 := zW h0
 have hn4 : n + 4 ≤ r0.length := by omega
 obtain ⟨ck, hck⟩ : ∃ ck, (r0.drop n).take 4 = ck := ⟨_, rfl⟩
 have hckl : ck.length = 4 := by rw [← hck]; simp; omega
 have hpl : (r0.take n).length = n := by simp; omega
 refine Jc.skip<|Jq.qt<|Jc.qs<|Jc.qr<|Jl.pv (PR.qm rfl)<|Jl.pv (PR.qm rfl) ?_
 refine Jl.sliceY 0 n n (u8s (r0.take n)) rfl tsl25 rfl rfl zM (by omega) (by omega) hc11 rfl (sl_take r0 n) ?_
 intro A30 c30 hc30
 skip
 refine Jl.pv (PR.qa rfl)<|Jl.qn<|Jq.qt<|Jc.qs<|Jc.qs<|Jc.qr<|Jl.pv (PR.qm rfl)<|Jl.pv (PR.qm rfl)<|Jl.pv (PR.qm rfl) ?_
 refine Jl.pv (PR.add ((n + 4 : Nat) : Int) rfl rfl (by rw [w64 (by omega) (by omega)]; rfl)) ?_
 refine Jl.slice n (n + 4) 4 (u8s ck) rfl tsl25 rfl rfl zM (by omega) hn4 hc11 (by omega) (by rw [← hck]; simp [u8s, List.map_drop, List.map_take]) ?_
 intro A35 c35 hc35
 clear hc35
 refine Jl.pv (PR.len rfl tsl25) ?_
 refine Jl.pv (PR.qm rfl)<|Jl.qn<|Jq.qt ?_
 refine Jc.block ?_
 refine Jc.loop (σ := { k : Nat // k ≤ 4 ∧ ∀ j, j < k → ck[j]? = (sumB (sumN (r0.take n)))[j]? }) (fun s => [(37, .int .i64 (s.1 : Int)), (36, .int .i64 4), (35, .slice A35 4 c35), (2, .slice A30 n c30), (3, .slice A11 r0.length c11), (5, .int .i64 (n : Int))]) (fun _ => []) (fun _ => [.rd A35 (u8s ck), .yg W.heap.size (.rd A30 (u8s (r0.take n))), .rd A30 (u8s (r0.take n)), .yg W.heap.size (.rd A11 (u8s r0))]) (fun s => 4 - s.1) ⟨0, by omega, fun j h => by omega⟩ (by exact ⟨rfl, rfl, rfl, rfl, rfl, rfl, trivial⟩) rfl (by exact ⟨zM, zM, zM, zM, trivial⟩) ?_
 rintro ⟨k, hk, hkj⟩
 show Jc _ _ _ _ _ _ [(37, Value.int .i64 (k : Int)), (36, .int .i64 4), (35, .slice A35 4 c35), (2, .slice A30 n c30), (3, .slice A11 r0.length c11), (5, .int .i64 (n : Int))] [] [.rd A35 (u8s ck), .yg W.heap.size (.rd A30 (u8s (r0.take n))), .rd A30 (u8s (r0.take n)), .yg W.heap.size (.rd A11 (u8s r0))]
 refine Jc.qs<|Jc.qr ?_
 refine Jl.pv (PR.lss _ rfl rfl rfl) ?_
 refine Jl.qn<|Jq.qt<|Jc.qs ?_
 refine Jc.cond rfl (fun hlt => ?_) (fun hlt => ?_)
 · try replace hlt := zV hlt
   have hlt' : k < 4 := by omega
   have hkc : k < ck.length := by omega
   refine Jc.skip<|Jq.qt<|Jc.qs ?_
   refine Jc.block ?_
   refine Jc.qs<|Jc.qr<|Jl.pv (PR.qm rfl) ?_
   refine Jl.pv (PR.idx1 k rfl rfl tsl25 zM (by simp [u8s, hckl]) rfl hlt') ?_
   refine Jl.pv (PR.loadR rfl tsh5 zM (getu hkc)) ?_
   refine Jl.pv (PR.qa rfl)<|Jl.pv (PR.qa rfl)<|Jl.qn<|Jq.qt<|Jc.qs<|Jc.qr<|Jl.pv (PR.qm rfl)<|Jl.pv (PR.qm rfl) ?_
   rw [show Value.slice A30 n c30 = Value.slice A30 (r0.take n).length c30 by rw [hpl]]
   refine Jl.call (sum_ct A30 c30 (r0.take n) (by omega)) en113 (by rfl) zT zF ?_
   rintro ⟨⟩
   refine Jl.pv (PR.qm rfl) ?_
   refine Jl.pv (PR.mul ((8 * k : Nat) : Int) rfl rfl (by rw [w64 (by omega) (by omega)]; rfl)) ?_
   refine Jl.pv (PR.shr ((sumN (r0.take n) / 2 ^ (8 * k) : Nat) : Int) rfl rfl (decide_eq_true (by omega)) (shr_sum _ k hlt')) ?_
   refine Jl.pv (PR.conv ((sumN (r0.take n) / 2 ^ (8 * k) % 256 : Nat) : Int) rfl Tryz.underlying129 Tryz.underlying5 (by rw [IntKind.wrap_u8]; rfl)) ?_
   refine Jl.pv (PR.neq _ rfl rfl rfl) ?_
   refine Jl.qn<|Jq.qt ?_
   refine Jc.cond rfl (fun hne => ?_) (fun hne => ?_)
   · try replace hne := zV hne
     refine Jc.goto ?_
     refine Jq.blkG ?_
     refine Jq.thenG ?_
     refine Jq.thenG ?_
     refine Jq.blkG ?_
     refine Jq.thenG ?_
     have hcn : cutF b = none := by
      rw [hcf]
      refine if_neg ?_
      rintro ⟨_, _, _, h4⟩
      have h5 := sumB_at (sumN (r0.take n)) k hlt'
      rw [← h4, hck, List.getElem?_eq_getElem hkc] at h5
      have h6 := congrArg UInt8.toNat (Option.some.inj h5)
      simp only [UInt8.toNat_ofNat'] at h6
      omega
     exact Jq.jmpA ⟨(), hcn⟩ trivial rfl trivial
   try replace hne := zW hne
   refine Jc.skip ?_
   refine Jq.blkN ?_
   refine Jq.qt<|Jc.qr ?_
   refine Jl.pv (PR.add ((k + 1 : Nat) : Int) rfl rfl (by rw [w64 (by omega) (by omega)]; rfl)) ?_
   refine Jl.pv (PR.qm rfl)<|Jl.qn ?_
   refine Jq.again ⟨k + 1, hlt', fun j hj => ?_⟩ (by simp only; omega) (by exact ⟨rfl, rfl, rfl, rfl, rfl, rfl, trivial⟩) rfl (by exact ⟨zM, zM, zM, zM, trivial⟩)
   rcases Nat.lt_or_ge j k with h1 | h1
   · exact hkj j h1
   · obtain rfl : j = k := by omega
     rw [sumB_at _ _ hlt', List.getElem?_eq_getElem hkc]
     exact congrArg some (UInt8.toNat_inj.1 (by simp only [UInt8.toNat_ofNat']; omega))
 try replace hlt := zW hlt
 obtain rfl : k = 4 := by omega
 have hcs : cutF b = some (r0.take n, r0.drop (n + 4)) := by rw [hcf, if_pos ⟨by omega, by omega, hn4, by rw [hck]; exact four_eq hckl rfl hkj⟩]
 rw [hcs]
 refine Jc.exit ?_
 refine Jq.thenX ?_
 refine Jq.thenX ?_
 refine Jq.blkX ?_
 refine Jq.qt<|Jc.qs<|Jc.qs ?_
 refine Jc.drawn [0, 0, 0, 4, 14, 1, 63, 127] ([(0, false), (1, false), (2, false), (3, false), (4, false), (5, false), (6, false), (7, false)], []) [] tmx (by kernel_rfl) ?_
 refine Dh.JH.nil ?_
 refine Dh.JB.pv rfl trivial (fun _ => PR.qm rfl)<|Dh.JB.pv rfl trivial (fun _ => PR.qm rfl)<|Dh.JB.pv rfl trivial (fun _ => PR.qm rfl) ?_
 refine Dh.JB.pv rfl trivial (fun _ => PR.add ((n + 4 : Nat) : Int) rfl rfl (by rw [w64 (by omega) (by omega)]; rfl)) ?_
 refine Dh.JB.sliceY (n + 4) r0.length (r0.length - (n + 4)) (u8s (r0.drop (n + 4))) rfl trivial rfl tsl25 rfl rfl zM hn4 (by omega) hc11 rfl (sl_end r0 (n + 4)) ?_
 intro A55 c55 hc55
 skip
 refine Dh.JB.pv rfl trivial (fun _ => PR.qa rfl) ?_
 refine Dh.JB.pv rfl trivial (fun _ => PR.qa rfl) ?_
 refine Dh.JB.pv rfl trivial (fun _ => PR.qa rfl) ?_
 refine Dh.JB.nil<|Dh.JL.nil<|Jq.qt<|Jc.ret<|Jq.thenR ?_
 refine Jq.jmpR ?_
 have hdl : (r0.drop (n + 4)).length = r0.length - (n + 4) := by simp
 have hcap : (r0.take n).length ≤ c30 ∧ (r0.drop (n + 4)).length ≤ c55 := by rw [hpl, hdl]; simp only at hc11; omega
 refine Jq.fact0 (.is (cutC (some (r0.take n, r0.drop (n + 4))) ((A30, c30), (A55, c55)))) (fun _ _ => hcap) ?_
 exact Jq.fin ((A30, c30), (A55, c55)) (.inl rfl) rfl (RetVs.tmp rfl (RetVs.tmp rfl (RetVs.tmp rfl RetVs.nil))) (by simp only [cutV, retval, hpl, hdl]) zT zF
end Go.Proofs.YtakbgccddokbbaaGreatDoor
namespace Go.Proofs.YtakbgccddokbbaaGreatDoor
theorem cutF_put {p : List UInt8} (hp : p.length ≤ 4000) (q : List UInt8) : cutF (frameB p ++ q) = some (p, q) := by
 have h1 : takeN (frameB p ++ q) = (p.length, p ++ sumB (sumN p) ++ q, 0) := by
  have := takeN_put (n := (p.length : Int)) (by simp [fineN]; omega) (p ++ sumB (sumN p) ++ q)
  simpa [frameB, List.append_assoc] using this
 have e1 : (p ++ (sumB (sumN p) ++ q)).take p.length = p := by simp
 have e2 : (p ++ (sumB (sumN p) ++ q)).drop p.length = sumB (sumN p) ++ q := by simp
 have e3 : (p ++ (sumB (sumN p) ++ q)).drop (p.length + 4) = q := by rw [← List.drop_drop, e2]; rfl
 unfold cutF
 rw [h1]
 simp only [List.append_assoc]
 rw [e1, e2, e3, if_pos]
 refine ⟨trivial, hp, ?_, rfl⟩
 simp [sumB]
theorem cutF_only {b p r : List UInt8} (h : cutF b = some (p, r)) : b = frameB p ++ r ∧ p.length ≤ 4000 := by
 have hl := cutF_len h
 refine ⟨?_, hl.2⟩
 unfold cutF at h
 split at h
 · rename_i hc
   obtain ⟨h0, h1, h2, h3⟩ := hc
   simp only [Option.some.injEq, Prod.mk.injEq] at h
   obtain ⟨rfl, rfl⟩ := h
   obtain ⟨n, t, e, ht⟩ : ∃ n t e, takeN b = (n, t, e) := ⟨_, _, _, rfl⟩
   rw [ht] at h0 h1 h2 h3 ⊢
   simp only at h0 h1 h2 h3 ⊢
   subst h0
   have hb := (takeN_only ht).1
   have hlen : (t.take n).length = n := by simp; omega
   rw [frameB, hlen, ← h3, ← hb]
   simp only [List.append_assoc]
   congr 1
   have : (t.drop n).take 4 ++ t.drop (n + 4) = t.drop n := by rw [← List.drop_drop, List.take_append_drop]
   rw [this, List.take_append_drop]
 · cases h
end Go.Proofs.YtakbgccddokbbaaGreatDoor
namespace Go.Proofs.YtakbgccddokbbaaGreatDoor
open Go.RowKit
attribute [local irreducible] Res.blk Res.row Fact.rd
def pF (b : List UInt8) : List UInt8 := ((cutF b).getD ([], [])).1
def rF (b : List UInt8) : List UInt8 := ((cutF b).getD ([], [])).2
theorem cut_u (A : Option Addr) (c : Nat) (b : List UInt8) (hn : b.length ≤ 1000000) (hc : b.length ≤ c) :
    CtY Tryz.prog 125 [.slice A b.length c] [] [.rd A (u8s b)] (fun x : OA × OA => .tuple #[.slice x.1.1 (pF b).length x.1.2, .slice x.2.1 (rF b).length x.2.2, .bool (cutF b).isSome]) (fun _ => [])
      (fun x => [.is ((pF b).length ≤ x.1.2 ∧ (rF b).length ≤ x.2.2)]) (fun x => [.rd x.1.1 (u8s (pF b)), .rd x.2.1 (u8s (rF b))]) := by
  have h := cut_cty A c b hn hc
  unfold pF rF
  cases hcf : cutF b with
  | none =>
    rw [hcf] at h
    exact h
  | some t =>
    rw [hcf] at h
    exact h
theorem pF_len (b : List UInt8) : (pF b).length + (rF b).length ≤ b.length := by
 unfold pF rF
 cases hcf : cutF b with
 | none => simp
 | some t => have := (cutF_len (p := t.1) (r := t.2) hcf).1; simp only [Option.getD_some]; omega
theorem fput_sum (s : Nat) : IntKind.u8.wrap ((s : Nat) : Int) = ((s % 256 : Nat) : Int) := by rw [IntKind.wrap_u8]; omega
theorem fput_shr (s q : Nat) (j : Nat) (hj : j = 8 ∨ j = 16 ∨ j = 24) (hq : q = s / 2 ^ j) : Int.fdiv (s : Int) (2 ^ (min ((j : Nat) : Int).toNat IntKind.u32.bits)) = (q : Int) := by
 have := shr_sum s (j / 8) (by omega)
 rw [show 8 * (j / 8) = j by omega] at this
 rw [this, hq]
theorem fput_ct (A : Option Addr) (c : Nat) (p : List UInt8) (hn : p.length ≤ 1000000) : Ct Tryz.prog 82 [.slice A p.length c] [] [.rd A (u8s p)] (fun x : OA => .tuple #[.slice x.1 (putFN p).length x.2, .int .i64 (putFR p)]) (rowU (putFN p)) (fun _ => []) := by
 by_cases hp : p.length ≤ 4000
 · have e1 : putFN p = frameB p := if_pos hp
   have e2 : putFR p = 0 := if_pos hp
   rw [e1, e2]
   have hpb := putB_len (p.length : Int)
   have hfl : (frameB p).length = (putB p.length).length + p.length + 4 := by simp [frameB, sumB]; omega
   refine Ct.of _ Tryz.func82 Tryz.ntmps82 rfl rfl (fun X W => ?_)
   refine Jc.qs<|Jc.qr<|Jl.pv (PR.qa rfl)<|Jl.pv (PR.qa rfl)<|Jl.qn<|Jq.qt<|Jc.qs<|Jc.qs<|Jc.qr<|Jl.pv (PR.qm rfl) ?_
   refine Jl.pv (PR.len rfl tsl25) ?_
   refine Jl.pv (PR.gtr false rfl rfl (by simp; omega)) ?_
   refine Jl.qn<|Jq.qt<|Jc.condF rfl<|Jc.skip<|Jq.qt<|Jc.qs<|Jc.qr<|Jl.pv (PR.qm rfl) ?_
   refine Jl.pv (PR.len rfl tsl25) ?_
   refine Jl.call (put_fine (a := p.length) (by simp [fineN]; omega)) en112 (by rfl) zT zF ?_
   rintro ⟨A13, c13⟩
   refine Jl.pv (PR.qm rfl) ?_
   refine Jl.pv (PR.extract rfl (by rfl)) ?_
   refine Jl.pv (PR.extract rfl (by rfl)) ?_
   refine Jl.pv (PR.qa rfl)<|Jl.pv (PR.qa rfl)<|Jl.qn<|Jq.qt<|Jc.qs<|Jc.qs<|Jc.qr<|Jl.pv (PR.qm rfl) ?_
   refine Jl.pv (PR.neq false rfl rfl rfl) ?_
   refine Jl.qn<|Jq.qt<|Jc.condF rfl<|Jc.skip<|Jq.qt<|Jc.qs<|Jc.qr<|Jl.pv (PR.qm rfl) ?_
   refine Jl.call (sum_ct A c p (by omega)) en113 (by rfl) zT zF ?_
   rintro ⟨⟩
   refine Jl.pv (PR.qa rfl)<|Jl.qn<|Jq.qt<|Jc.qs<|Jc.qr<|Jl.pv (PR.qm rfl)<|Jl.pv (PR.qm rfl) ?_
   refine Jl.append (putB p.length ++ p).length (u8s (putB p.length ++ p)) rfl rfl rfl tsl25 tze5 (by rfl) (by decide) tby5 (fun _ _ => zS) zM (by simp) (by simp [u8s]) (by simp [u8s]) (u8s_one _) (by omega) (by decide) ?_
   intro A23 c23
   refine Jl.pv (PR.qm rfl) ?_
   refine Jl.pv (PR.conv ((sumN p % 256 : Nat) : Int) rfl Tryz.underlying129 Tryz.underlying5 (fput_sum _)) ?_
   refine Jl.pv (PR.qm rfl) ?_
   refine Jl.pv (PR.shr ((sumN p / 256 : Nat) : Int) rfl rfl (by decide) (fput_shr _ _ 8 (by omega) rfl)) ?_
   refine Jl.pv (PR.conv ((sumN p / 256 % 256 : Nat) : Int) rfl Tryz.underlying129 Tryz.underlying5 (fput_sum _)) ?_
   refine Jl.pv (PR.qm rfl) ?_
   refine Jl.pv (PR.shr ((sumN p / 65536 : Nat) : Int) rfl rfl (by decide) (fput_shr _ _ 16 (by omega) rfl)) ?_
   refine Jl.pv (PR.conv ((sumN p / 65536 % 256 : Nat) : Int) rfl Tryz.underlying129 Tryz.underlying5 (fput_sum _)) ?_
   refine Jl.pv (PR.qm rfl) ?_
   refine Jl.pv (PR.shr ((sumN p / 16777216 : Nat) : Int) rfl rfl (by decide) (fput_shr _ _ 24 (by omega) rfl)) ?_
   refine Jl.pv (PR.conv ((sumN p / 16777216 % 256 : Nat) : Int) rfl Tryz.underlying129 Tryz.underlying5 (fput_sum _)) ?_
   refine Jl.buildSlice (by rfl) tsl25 tzr25_4 (by rfl) (by rfl) ?_
   intro b35
   refine Jl.seal zD ?_
   refine Jl.append (frameB p).length (u8s (frameB p)) rfl rfl rfl tsl25 tze5 (by rfl) (by decide) tby5 (fun _ _ => zS) zM (by rw [hfl]; simp) (by simp [u8s, frameB, sumB]) rfl (by simp [Value.oneCell']) (by simp; omega) (by decide) ?_
   intro A36 c36
   refine Jl.pv (PR.qa rfl)<|Jl.pv (PR.qa rfl)<|Jl.qn<|Jq.qt<|Jc.ret ?_
   exact Jq.fin (A36, c36) (.inl rfl) rfl (RetVs.tmp rfl (RetVs.tmp rfl RetVs.nil)) rfl zT zF
 · have e1 : putFN p = [] := if_neg hp
   have e2 : putFR p = 2 := if_neg hp
   rw [e1, e2]
   refine Ct.of _ Tryz.func82 Tryz.ntmps82 rfl rfl (fun X W => ?_)
   refine Jc.qs<|Jc.qr<|Jl.pv (PR.qa rfl)<|Jl.pv (PR.qa rfl)<|Jl.qn<|Jq.qt<|Jc.qs<|Jc.qs<|Jc.qr<|Jl.pv (PR.qm rfl) ?_
   refine Jl.pv (PR.len rfl tsl25) ?_
   refine Jl.pv (PR.gtr true rfl rfl (by simp; omega)) ?_
   refine Jl.qn<|Jq.qt<|Jc.condT rfl<|Jc.qs<|Jc.qr<|Jl.pv (PR.qa rfl)<|Jl.pv (PR.qa rfl)<|Jl.qn<|Jq.qt<|Jc.ret<|Jq.thenR ?_
   refine Jq.nilRow 5 1 ?_
   exact Jq.fin (none, 0) (.inl rfl) rfl (RetVs.tmp rfl (RetVs.tmp rfl RetVs.nil)) rfl zT zF
def takeF (b : List UInt8) : List UInt8 × List UInt8 × Int := match cutF b with
 | some (p, r) => (p, r, 0)
 | none => ([], [], 40)
def rows2 (p r : List UInt8) (x : OA × OA) : List Res := [.row 5 1 (.slice x.1.1 p.length x.1.2) p.length (u8s p), .row 5 1 (.slice x.2.1 r.length x.2.2) r.length (u8s r)]
theorem ftake_ct (A : Option Addr) (c : Nat) (b : List UInt8) (hn : b.length ≤ 1000000) (hc : b.length ≤ c) :
    Ct Tryz.prog 106 [.slice A b.length c] [] [.rd A (u8s b)] (fun x : OA × OA => .tuple #[.slice x.1.1 (takeF b).1.length x.1.2, .slice x.2.1 (takeF b).2.1.length x.2.2, .int .i64 (takeF b).2.2]) (rows2 (takeF b).1 (takeF b).2.1) (fun _ => []) := by
  have hpl := pF_len b
  cases hcf : cutF b with
  | none =>
    rw [show takeF b = ([], [], 40) by simp [takeF, hcf]]
    refine Ct.of _ Tryz.func106 Tryz.ntmps106 rfl rfl (fun X W => ?_)
    refine Jc.qs<|Jc.qr<|Jl.pv (PR.qa rfl)<|Jl.pv (PR.qa rfl)<|Jl.pv (PR.qa rfl)<|Jl.qn<|Jq.qt<|Jc.qs<|Jc.qr<|Jl.pv (PR.qm rfl) ?_
    refine Jl.call (cut_u A c b hn hc).ct en125 (by rfl) zT zF ?_
    rintro ⟨⟨A10, c10⟩, ⟨B10, d10⟩⟩
    refine Jl.pv (PR.qm rfl) ?_
    refine Jl.pv (PR.extract rfl (by rfl)) ?_
    refine Jl.pv (PR.extract rfl (by rfl)) ?_
    refine Jl.pv (PR.extract rfl (by rfl)) ?_
    refine Jl.pv (PR.qa rfl)<|Jl.pv (PR.qa rfl)<|Jl.pv (PR.qa rfl)<|Jl.qn<|Jq.qt<|Jc.qs<|Jc.qs<|Jc.qr<|Jl.pv (PR.qm rfl) ?_
    refine Jl.pv (PR.not rfl) ?_
    refine Jl.as (.bool true) (congrArg Value.bool (by rw [hcf]; rfl)) ?_
    refine Jl.qn<|Jq.qt<|Jc.condT rfl<|Jc.qs<|Jc.qr<|Jl.pv (PR.qa rfl)<|Jl.pv (PR.qa rfl)<|Jl.pv (PR.qa rfl)<|Jl.qn<|Jq.qt<|Jc.ret<|Jq.thenR ?_
    refine Jq.nilRow 5 1 ?_
    refine Jq.nilRow 5 1 ?_
    exact Jq.fin ((none, 0), (none, 0)) (.inl rfl) rfl (RetVs.tmp rfl (RetVs.tmp rfl (RetVs.tmp rfl RetVs.nil))) rfl zT zF
    -- hint not used: k15
  | some t =>
    rw [show takeF b = (pF b, rF b, 0) by simp [takeF, pF, rF, hcf]]
    refine Ct.of _ Tryz.func106 Tryz.ntmps106 rfl rfl (fun X W => ?_)
    refine Jc.qs<|Jc.qr<|Jl.pv (PR.qa rfl)<|Jl.pv (PR.qa rfl)<|Jl.pv (PR.qa rfl)<|Jl.qn<|Jq.qt<|Jc.qs<|Jc.qr<|Jl.pv (PR.qm rfl) ?_
    refine Jl.call (cut_u A c b hn hc).ct en125 (by rfl) zT zF ?_
    rintro ⟨⟨A10, c10⟩, ⟨B10, d10⟩⟩
    refine Jl.pv (PR.qm rfl) ?_
    refine Jl.pv (PR.extract rfl (by rfl)) ?_
    refine Jl.pv (PR.extract rfl (by rfl)) ?_
    refine Jl.pv (PR.extract rfl (by rfl)) ?_
    refine Jl.pv (PR.qa rfl)<|Jl.pv (PR.qa rfl)<|Jl.pv (PR.qa rfl)<|Jl.qn<|Jq.qt<|Jc.qs<|Jc.qs<|Jc.qr<|Jl.pv (PR.qm rfl) ?_
    refine Jl.pv (PR.not rfl) ?_
    refine Jl.as (.bool false) (congrArg Value.bool (by rw [hcf]; rfl)) ?_
    refine Jl.qn<|Jq.qt<|Jc.condF rfl<|Jc.skip<|Jq.qt<|Jc.qs<|Jc.qr<|Jl.pv (PR.qm rfl) ?_
    refine Jl.call (bclone_ct A10 c10 (pF b) (by omega)) en126 (by rfl) zT zF ?_
    rintro ⟨A17, c17⟩
    refine Jl.pv (PR.qm rfl) ?_
    refine Jl.call (bclone_ct B10 d10 (rF b) (by omega)) en126 (by rfl) zT zF ?_
    rintro ⟨A19, c19⟩
    refine Jl.pv (PR.qa rfl)<|Jl.pv (PR.qa rfl)<|Jl.pv (PR.qa rfl)<|Jl.qn<|Jq.qt<|Jc.ret ?_
    exact Jq.fin ((A17, c17), (A19, c19)) (.inl rfl) rfl (RetVs.tmp rfl (RetVs.tmp rfl (RetVs.tmp rfl RetVs.nil))) rfl zT zF
end Go.Proofs.YtakbgccddokbbaaGreatDoor
namespace Go.Proofs.YtakbgccddokbbaaGreatDoor
open Go.RowKit
attribute [local irreducible] Res.blk Res.row Fact.rd
theorem rsum_ct (A : Option Addr) (c : Nat) (l : List UInt8) (hn : l.length ≤ 1000000) : Ct Tryz.prog 80 [.slice A l.length c] [] [.rd A (u8s l)] (fun _ : Unit => .int .u32 (sumN l : Nat)) (fun _ => []) (fun _ => []) := by
 refine Ct.of _ Tryz.func80 Tryz.ntmps80 rfl rfl (fun X W => ?_)
 refine Jc.qs<|Jc.qr<|Jl.pv (PR.qa rfl)<|Jl.qn<|Jq.qt<|Jc.qs<|Jc.qr<|Jl.pv (PR.qa rfl)<|Jl.qn<|Jq.qt<|Jc.qs<|Jc.qs<|Jc.qr<|Jl.pv (PR.qa rfl)<|Jl.qn<|Jq.qt ?_
 refine Jc.block ?_
 refine Jc.loop (σ := { k : Nat // k ≤ l.length }) (fun s => [(0, .slice A l.length c), (3, .int .u32 (sumN (l.take s.1) : Nat)), (4, .int .i64 (s.1 : Int))]) (fun _ => []) (fun _ => [.rd A (u8s l)]) (fun s => l.length - s.1) ⟨0, Nat.zero_le _⟩ (by exact ⟨rfl, rfl, rfl, trivial⟩) rfl (by exact ⟨Mem.here, trivial⟩) ?_
 rintro ⟨k, hk⟩
 have hs := sumN_lt (l.take k)
 show Jc _ _ _ _ _ _ [(0, Value.slice A l.length c), (3, .int .u32 (sumN (l.take k) : Nat)), (4, .int .i64 (k : Int))] [] [.rd A (u8s l)]
 refine Jc.qs<|Jc.qs<|Jc.qr<|Jl.pv (PR.qm rfl)<|Jl.pv (PR.qm rfl) ?_
 refine Jl.pv (PR.len rfl tsl25) ?_
 refine Jl.pv (PR.lss _ rfl rfl rfl) ?_
 refine Jl.qn<|Jq.qt ?_
 refine Jc.cond rfl (fun hlt => ?_) (fun hlt => ?_)
 · try replace hlt := zV hlt
   have hlt' : k < l.length := by omega
   have hbb := l[k].toNat_lt
   refine Jc.skip<|Jq.qt<|Jc.qs ?_
   refine Jc.block ?_
   refine Jc.qr<|Jl.pv (PR.qm rfl) ?_
   refine Jl.pv (PR.mul ((31 * sumN (l.take k) % 4294967296 : Nat) : Int) rfl rfl (sum_mul _ hs)) ?_
   refine Jl.pv (PR.qm rfl)<|Jl.pv (PR.qm rfl) ?_
   refine Jl.pv (PR.idx1 k rfl rfl tsl25 zM (by simp [u8s]) rfl hlt') ?_
   refine Jl.pv (PR.loadR rfl tsh5 zM (getu hlt')) ?_
   refine Jl.pv (PR.conv (l[k].toNat : Int) rfl Tryz.underlying5 Tryz.underlying129 (by rw [IntKind.wrap_u32]; omega)) ?_
   refine Jl.pv (PR.add (((31 * sumN (l.take k) + l[k].toNat) % 4294967296 : Nat) : Int) rfl rfl (sum_add _ l[k].toNat)) ?_
   refine Jl.pv (PR.add ((fsS (sumN (l.take k)) l[k] : Nat) : Int) rfl rfl (sum_add7 _ l[k].toNat)) ?_
   refine Jl.pv (PR.qa rfl)<|Jl.qn ?_
   refine Jq.blkN ?_
   refine Jq.qt<|Jc.qr<|Jl.pv (PR.qm rfl) ?_
   refine Jl.pv (PR.add ((k + 1 : Nat) : Int) rfl rfl (by rw [w64 (by omega) (by omega)]; rfl)) ?_
   refine Jl.pv (PR.qa rfl)<|Jl.qn ?_
   refine Jq.again ⟨k + 1, hlt'⟩ (by simp only; omega) (by exact ⟨rfl, by simp only [sumN_take l k hlt']; rfl, rfl, trivial⟩) rfl (by exact ⟨Mem.here, trivial⟩)
 try replace hlt := zW hlt
 obtain rfl : k = l.length := by omega
 rw [List.take_length]
 refine Jc.exit ?_
 refine Jq.thenX ?_
 refine Jq.thenX ?_
 refine Jq.blkX ?_
 refine Jq.qt<|Jc.qs<|Jc.qr<|Jl.pv (PR.qm rfl)<|Jl.pv (PR.qa rfl)<|Jl.qn<|Jq.qt<|Jc.ret ?_
 exact Jq.fin () (.inl rfl) rfl (RetVs.tmp rfl RetVs.nil) rfl zT zF
end Go.Proofs.YtakbgccddokbbaaGreatDoor
namespace Go.Proofs.YtakbgccddokbbaaGreatDoor
open Go.RowKit
attribute [local irreducible] Res.blk Res.row Fact.rd
theorem rfput_ct (A : Option Addr) (c : Nat) (p : List UInt8) (hn : p.length ≤ 1000000) : Ct Tryz.prog 59 [.slice A p.length c] [] [.rd A (u8s p)] (fun x : OA => .tuple #[.slice x.1 (putFN p).length x.2, .int .i64 (putFR p)]) (rowU (putFN p)) (fun _ => []) := by
 by_cases hp : p.length ≤ 4000
 · have e1 : putFN p = frameB p := if_pos hp
   have e2 : putFR p = 0 := if_pos hp
   rw [e1, e2]
   have hpb := putB_len (p.length : Int)
   have hfl : (frameB p).length = (putB p.length).length + p.length + 4 := by simp [frameB, sumB]; omega
   refine Ct.of _ Tryz.func59 Tryz.ntmps59 rfl rfl (fun X W => ?_)
   refine Jc.qs<|Jc.qr<|Jl.pv (PR.qa rfl)<|Jl.pv (PR.qa rfl)<|Jl.qn<|Jq.qt<|Jc.qs<|Jc.qs<|Jc.qr<|Jl.pv (PR.qm rfl) ?_
   refine Jl.pv (PR.len rfl tsl25) ?_
   refine Jl.pv (PR.gtr false rfl rfl (by simp; omega)) ?_
   refine Jl.qn<|Jq.qt<|Jc.condF rfl<|Jc.skip<|Jq.qt<|Jc.qs<|Jc.qr<|Jl.pv (PR.qm rfl) ?_
   refine Jl.pv (PR.len rfl tsl25) ?_
   refine Jl.call (rput_fine (a := p.length) (by simp [fineN]; omega)) en79 (by rfl) zT zF ?_
   rintro ⟨A13, c13⟩
   refine Jl.pv (PR.qm rfl) ?_
   refine Jl.pv (PR.extract rfl (by rfl)) ?_
   refine Jl.pv (PR.extract rfl (by rfl)) ?_
   refine Jl.pv (PR.qa rfl)<|Jl.pv (PR.qa rfl)<|Jl.qn<|Jq.qt<|Jc.qs<|Jc.qs<|Jc.qr<|Jl.pv (PR.qm rfl) ?_
   refine Jl.pv (PR.neq false rfl rfl rfl) ?_
   refine Jl.qn<|Jq.qt<|Jc.condF rfl<|Jc.skip<|Jq.qt<|Jc.qs<|Jc.qr<|Jl.pv (PR.qm rfl)<|Jl.pv (PR.qm rfl) ?_
   refine Jl.append (putB p.length ++ p).length (u8s (putB p.length ++ p)) rfl rfl rfl tsl25 tze5 (by rfl) (by decide) tby5 (fun _ _ => zS) zM (by simp) (by simp [u8s]) (by simp [u8s]) (u8s_one _) (by omega) (by decide) ?_
   intro A21 c21
   refine Jl.pv (PR.qa rfl)<|Jl.qn<|Jq.qt<|Jc.qs<|Jc.qr<|Jl.pv (PR.qm rfl) ?_
   refine Jl.call (rsum_ct A c p (by omega)) en80 (by rfl) zT zF ?_
   rintro ⟨⟩
   refine Jl.pv (PR.qa rfl)<|Jl.qn<|Jq.qt<|Jc.qs<|Jc.qr<|Jl.pv (PR.qm rfl)<|Jl.pv (PR.qm rfl) ?_
   refine Jl.pv (PR.conv ((sumN p % 256 : Nat) : Int) rfl Tryz.underlying129 Tryz.underlying5 (fput_sum _)) ?_
   refine Jl.pv (PR.qm rfl) ?_
   refine Jl.pv (PR.shr ((sumN p / 256 : Nat) : Int) rfl rfl (by decide) (fput_shr _ _ 8 (by omega) rfl)) ?_
   refine Jl.pv (PR.conv ((sumN p / 256 % 256 : Nat) : Int) rfl Tryz.underlying129 Tryz.underlying5 (fput_sum _)) ?_
   refine Jl.pv (PR.qm rfl) ?_
   refine Jl.pv (PR.shr ((sumN p / 65536 : Nat) : Int) rfl rfl (by decide) (fput_shr _ _ 16 (by omega) rfl)) ?_
   refine Jl.pv (PR.conv ((sumN p / 65536 % 256 : Nat) : Int) rfl Tryz.underlying129 Tryz.underlying5 (fput_sum _)) ?_
   refine Jl.pv (PR.qm rfl) ?_
   refine Jl.pv (PR.shr ((sumN p / 16777216 : Nat) : Int) rfl rfl (by decide) (fput_shr _ _ 24 (by omega) rfl)) ?_
   refine Jl.pv (PR.conv ((sumN p / 16777216 % 256 : Nat) : Int) rfl Tryz.underlying129 Tryz.underlying5 (fput_sum _)) ?_
   refine Jl.buildSlice (by rfl) tsl25 tzr25_4 (by rfl) (by rfl) ?_
   intro b36
   refine Jl.seal zD ?_
   refine Jl.append (frameB p).length (u8s (frameB p)) rfl rfl rfl tsl25 tze5 (by rfl) (by decide) tby5 (fun _ _ => zS) zM (by rw [hfl]; simp) (by simp [u8s, frameB, sumB]) rfl (by simp [Value.oneCell']) (by simp; omega) (by decide) ?_
   intro A37 c37
   refine Jl.pv (PR.qa rfl)<|Jl.pv (PR.qa rfl)<|Jl.qn<|Jq.qt<|Jc.ret ?_
   exact Jq.fin (A37, c37) (.inl rfl) rfl (RetVs.tmp rfl (RetVs.tmp rfl RetVs.nil)) rfl zT zF
 · have e1 : putFN p = [] := if_neg hp
   have e2 : putFR p = 2 := if_neg hp
   rw [e1, e2]
   refine Ct.of _ Tryz.func59 Tryz.ntmps59 rfl rfl (fun X W => ?_)
   refine Jc.qs<|Jc.qr<|Jl.pv (PR.qa rfl)<|Jl.pv (PR.qa rfl)<|Jl.qn<|Jq.qt<|Jc.qs<|Jc.qs<|Jc.qr<|Jl.pv (PR.qm rfl) ?_
   refine Jl.pv (PR.len rfl tsl25) ?_
   refine Jl.pv (PR.gtr true rfl rfl (by simp; omega)) ?_
   refine Jl.qn<|Jq.qt<|Jc.condT rfl<|Jc.qs<|Jc.qr<|Jl.pv (PR.qa rfl)<|Jl.pv (PR.qa rfl)<|Jl.qn<|Jq.qt<|Jc.ret<|Jq.thenR ?_
   refine Jq.nilRow 5 1 ?_
   exact Jq.fin (none, 0) (.inl rfl) rfl (RetVs.tmp rfl (RetVs.tmp rfl RetVs.nil)) rfl zT zF
theorem rfput_at {A : Option Addr} {c n : Nat} {p : List UInt8} (hn : p.length = n) (h4 : n ≤ 4000) : Ct Tryz.prog 59 [.slice A n c] [] [.rd A (u8s p)] (fun x : OA => .tuple #[.slice x.1 (frameB p).length x.2, .int .i64 0]) (rowU (frameB p)) (fun _ => []) := by
 subst hn
 have h0 := rfput_ct A c p (by omega)
 rw [show putFN p = frameB p from if_pos h4, show putFR p = 0 from if_pos h4] at h0
 exact h0
end Go.Proofs.YtakbgccddokbbaaGreatDoor
namespace Go.Proofs.YtakbgccddokbbaaGreatDoor
open Go.RowKit
structure Dk where
 b : List UInt8
 s : Int
 r : Int
def Dk.room (d : Dk) : Int := min (max d.r 0) 65536
def Dk.own (d : Dk) : Dk := ⟨d.b.take d.room.toNat, min (max d.s 0) (d.b.take d.room.toNat).length, d.room⟩
theorem Dk.own_len (d : Dk) : d.own.b.length ≤ d.b.length := by simp [Dk.own]; omega
theorem Dk.own_fit (d : Dk) : (d.own.b.length : Int) ≤ d.own.r ∧ 0 ≤ d.own.s ∧ d.own.s ≤ d.own.b.length ∧ 0 ≤ d.own.r ∧ d.own.r ≤ 65536 := by
 simp [Dk.own, Dk.room]; omega
def Dk.ok (d : Dk) : Prop := (d.b.length : Int) ≤ d.r ∧ 0 ≤ d.s ∧ d.s ≤ d.b.length ∧ d.r ≤ 65536
theorem Dk.own_ok (d : Dk) : d.own.ok := by have := d.own_fit; exact ⟨this.1, this.2.1, this.2.2.1, this.2.2.2.2⟩
theorem Dk.ok_own {d : Dk} (h : d.ok) : d.own = d := by
 obtain ⟨b, s, r⟩ := d
 obtain ⟨h1, h2, h3, h4⟩ := h
 simp only at h1 h2 h3 h4
 have h0 : (min (max r 0) 65536) = r := by omega
 simp only [Dk.own, Dk.room, h0]
 rw [List.take_of_length_le (by omega)]
 congr 1
 omega
def Dk.sync (d : Dk) : Dk := ⟨d.own.b, d.own.b.length, d.own.r⟩
def Dk.left (d : Dk) (keep : Int) : Nat := (d.own.s + min (max keep 0) (d.own.b.length - d.own.s)).toNat
def Dk.crash (d : Dk) (keep : Int) : Dk := ⟨d.own.b.take (d.left keep), d.left keep, d.own.r⟩
theorem Dk.left_le (d : Dk) (keep : Int) : d.left keep ≤ d.own.b.length := by
 have := d.own_fit
 unfold Dk.left
 omega
theorem Dk.left_eq (d : Dk) (keep : Int) : (d.left keep : Int) = d.own.s + min (max keep 0) (d.own.b.length - d.own.s) := by
 have := d.own_fit
 unfold Dk.left
 omega
theorem Dk.crash_len (d : Dk) (keep : Int) : (d.crash keep).b.length = d.left keep := by
 have := d.left_le keep
 simp [Dk.crash]; omega
theorem Dk.sync_ok (d : Dk) : d.sync.ok := by have := d.own_fit; refine ⟨?_, ?_, ?_, ?_⟩ <;> simp only [Dk.sync] <;> omega
def Dk.fits (d : Dk) (b : List UInt8) : Prop := ((d.own.b ++ b).length : Int) ≤ d.own.r
instance (d : Dk) (b : List UInt8) : Decidable (d.fits b) := by unfold Dk.fits; infer_instance
def Dk.app (d : Dk) (b : List UInt8) : Dk := if d.fits b then ⟨d.own.b ++ b, d.own.s, d.own.r⟩ else d.own
def Dk.appE (d : Dk) (b : List UInt8) : Int := if d.fits b then 0 else 30
def Dk.swap (d : Dk) (b : List UInt8) : Dk := if (b.length : Int) ≤ d.own.r then ⟨b, b.length, d.own.r⟩ else d.own
def Dk.new (room : Int) : Dk := ⟨[], 0, min (max room 0) 65536⟩
theorem new_own (room : Int) : (⟨[], 0, room⟩ : Dk).own = Dk.new room := by
 unfold Dk.own Dk.new Dk.room
 simp
theorem Dk.app_ok (d : Dk) (b : List UInt8) : (d.app b).ok := by
 unfold Dk.app
 have := d.own_fit
 split
 · rename_i h
   unfold Dk.fits at h
   refine ⟨h, this.2.1, ?_, this.2.2.2.2⟩
   simp only [List.length_append]; omega
 · exact d.own_ok
abbrev OAd := Option Addr × Nat
def Dk.cs (d : Dk) (x : OAd) : List Value := [.slice x.1 d.b.length x.2, .int .i64 d.s, .int .i64 d.r]
def Dk.v (d : Dk) (x : OAd) : Value := .agg #[.slice x.1 d.b.length x.2, .int .i64 d.s, .int .i64 d.r]
def Dk.row (d : Dk) (x : OAd) : Res := .row 5 1 (.slice x.1 d.b.length x.2) d.b.length (u8s d.b)
abbrev Ps := List (OAd × List UInt8)
def psv (zs : Ps) : List Value := zs.map fun z => .slice z.1.1 z.2.length z.1.2
def Fact.ps (zs : Ps) : Fact := ⟨fun X W => ∀ z ∈ zs, (Fact.rd z.1.1 (u8s z.2)).p X W, fun X X' W W' h hf hx z hz => (Fact.rd z.1.1 (u8s z.2)).fr X X' W W' (h z hz) hf hx⟩
def solid (zs : Ps) : Ps := zs.filter fun z => decide (0 < z.2.length)
def flat (zs : Ps) : List UInt8 := zs.flatMap (·.2)
theorem solid_flat (zs : Ps) : flat (solid zs) = flat zs := by
  induction zs with
  | nil => rfl
  | cons z zs ih =>
    unfold solid flat at *
    by_cases h : 0 < z.2.length
    · rw [List.filter_cons_of_pos (by simpa using h)]
      simp only [List.flatMap_cons, ih]
    · rw [List.filter_cons_of_neg (by simpa using h), ih]
      have : z.2 = [] := List.eq_nil_of_length_eq_zero (by omega)
      simp [this]
theorem solid_mem {zs : Ps} {z : OAd × List UInt8} (h : z ∈ solid zs) : z ∈ zs ∧ 0 < z.2.length := by
 have := List.mem_filter.1 h
 exact ⟨this.1, by simpa using this.2⟩
theorem solid_len (zs : Ps) : (solid zs).length ≤ zs.length := List.length_filter_le ..
theorem solid_succ {zs : Ps} {k : Nat} (h : k < zs.length) : solid (zs.take (k + 1)) = solid (zs.take k) ++ (if 0 < zs[k].2.length then [zs[k]] else []) := by
 rw [List.take_succ_eq_append_getElem h]
 unfold solid
 rw [List.filter_append]
 congr 1
 by_cases h0 : 0 < zs[k].2.length <;> simp [h0]
theorem solid_at {zs : Ps} {k : Nat} (h : k < zs.length) (h0 : 0 < zs[k].2.length) : (solid (zs.take k)).length < (solid zs).length ∧ (solid zs)[(solid (zs.take k)).length]? = some zs[k] := by
 have e : solid zs = solid (zs.take k) ++ zs[k] :: solid (zs.drop (k + 1)) := by
  have : zs = zs.take k ++ zs[k] :: zs.drop (k + 1) := by simp
  conv => lhs; rw [this]
  unfold solid
  rw [List.filter_append, List.filter_cons_of_pos (by simpa using h0)]
 rw [e]
 exact ⟨by simp, by simp⟩
theorem flat_take {zs : Ps} {k : Nat} (h : k < zs.length) : flat (zs.take (k + 1)) = flat (zs.take k) ++ zs[k].2 := by
 rw [List.take_succ_eq_append_getElem h]; unfold flat; rw [List.flatMap_append]; simp
theorem flat_le (zs : Ps) (k : Nat) : (flat (zs.take k)).length ≤ (flat zs).length := by
 have : flat zs = flat (zs.take k) ++ flat (zs.drop k) := by unfold flat; rw [← List.flatMap_append, List.take_append_drop]
 rw [this, List.length_append]; omega
end Go.Proofs.YtakbgccddokbbaaGreatDoor
namespace Go.Proofs.YtakbgccddokbbaaGreatDoor
open Go.RowKit
theorem row_cut {e : TypeId} {c m k : Nat} {A : Option Addr} {xs : List Value} {W : World} (hk : k ≤ m) (h : (Res.row e 1 (.slice A m c) m xs).says W) : (Res.row e 1 (.slice A k c) k (xs.take k)).says W := by
 obtain ⟨h1, h2⟩ := h
 refine ⟨by simp at h1 ⊢; omega, ?_⟩
 rcases h2 with ⟨h3, h4⟩ | ⟨g, cap, cur, h3, hb, h5, h6, h7, h8, h9⟩
 · subst h4
   simp only [Value.slice.injEq] at h3
   obtain ⟨rfl, _, rfl⟩ := h3
   exact .inl ⟨by simp; omega, by omega⟩
 · simp only [Value.slice.injEq, true_and] at h3
   obtain ⟨rfl, rfl⟩ := h3
   refine .inr ⟨g, c, cur, rfl, hb, h5, by omega, h7, h8, ?_⟩
   rw [← h9, List.take_take, Nat.mul_one, Nat.mul_one, Nat.min_eq_left hk]
theorem row_cut_own {e : TypeId} {c m k : Nat} {A : Option Addr} {xs ys : List Value} : ∀ b, (Res.row e 1 (.slice A k c) k ys).own b → (Res.row e 1 (.slice A m c) m xs).own b := fun b h => by
 cases A with
 | none => exact h
 | some a => exact h
attribute [local irreducible] Res.blk Res.row Fact.rd
theorem sclone_ct (A : Option Addr) (c : Nat) (l : List UInt8) (hn : l.length ≤ 10000000) :
    Ct Tryz.prog 70 [.slice A l.length c] [] [.rd A (u8s l)] (fun x : OAd => .slice x.1 l.length x.2) (fun x => [.row 5 1 (.slice x.1 l.length x.2) l.length (u8s l)]) (fun _ => []) := by
  cases A with
  | none =>
    refine Ct.of _ Tryz.func70 Tryz.ntmps70 rfl rfl (fun X W => ?_)
    refine Jc.pure (p := l = []) Mem.here (fun X W h => ?_) ?_
    · cases l with
      | nil => rfl
      | cons x l => exact absurd (Fact.rd_none h) (by simp [u8s])
    rintro rfl
    refine Jc.qs<|Jc.qr<|Jl.pv (PR.qa rfl)<|Jl.qn<|Jq.qt<|Jc.qs<|Jc.qs<|Jc.qr<|Jl.pv (PR.qm rfl) ?_
    refine Jl.pv (PR.eqlNil true rfl tsl25 rfl) ?_
    refine Jl.qn<|Jq.qt<|Jc.condT rfl<|Jc.qs<|Jc.qr<|Jl.pv (PR.qa rfl)<|Jl.qn<|Jq.qt<|Jc.ret<|Jq.thenR ?_
    refine Jq.nilRow 5 1 ?_
    exact Jq.fin (none, 0) (.inl rfl) rfl (RetVs.tmp rfl RetVs.nil) rfl zT zF
  | some a =>
    refine Ct.of _ Tryz.func70 Tryz.ntmps70 rfl rfl (fun X W => ?_)
    refine Jc.qs<|Jc.qr<|Jl.pv (PR.qa rfl)<|Jl.qn<|Jq.qt<|Jc.qs<|Jc.qs<|Jc.qr<|Jl.pv (PR.qm rfl) ?_
    refine Jl.pv (PR.eqlNil false rfl tsl25 rfl) ?_
    refine Jl.qn<|Jq.qt<|Jc.condF rfl<|Jc.skip<|Jq.qt<|Jc.qs<|Jc.qr ?_
    refine Jl.buildSlice (by rfl) tsl25 tzr25_0 (by rfl) (by rfl) ?_
    intro b5
    refine Jl.pv (PR.qm rfl) ?_
    refine Jl.toRow 1 0 zS (by rfl) (by rfl) ?_
    refine Jl.append l.length (u8s l) rfl rfl rfl tsl25 tze5 (by rfl) (by decide) tby5 (fun _ _ => zS) zM (by omega) rfl (by simp [u8s]) (u8s_one _) (by omega) (by decide) ?_
    intro A7 c7
    refine Jl.pv (PR.qa rfl)<|Jl.qn<|Jq.qt<|Jc.ret ?_
    exact Jq.fin (A7, c7) (.inl rfl) rfl (RetVs.tmp rfl RetVs.nil) rfl zT zF
theorem within_ct (k top : Int) : Ct Tryz.prog 57 [.int .i64 k, .int .i64 top] [] [] (fun _ : Unit => .int .i64 (min (max k 0) top)) (fun _ => []) (fun _ => []) := by
 refine Ct.of _ Tryz.func57 Tryz.ntmps57 rfl rfl (fun X W => ?_)
 refine Jc.qs<|Jc.qr<|Jl.pv (PR.qa rfl)<|Jl.qn<|Jq.qt<|Jc.qs<|Jc.qr<|Jl.pv (PR.qm rfl) ?_
 refine Jl.pv (PR.max2 _ rfl rfl rfl) ?_
 refine Jl.pv (PR.qm rfl) ?_
 refine Jl.pv (PR.min2 _ rfl rfl rfl) ?_
 refine Jl.pv (PR.qa rfl)<|Jl.qn<|Jq.qt<|Jc.ret ?_
 exact Jq.fin () (.inl rfl) rfl (RetVs.tmp rfl RetVs.nil) rfl zT zF
theorem own_ct (A : Option Addr) (c : Nat) (d : Dk) (hn : d.b.length ≤ 500000) (hc : d.b.length ≤ c) :
 Ct Tryz.prog 47 [d.v (A, c)] [] [.rd A (u8s d.b)] d.own.v (fun x => [d.own.row x]) (fun _ => []) := by
 have hl : d.own.b.length ≤ d.b.length := by simp [Dk.own]; omega
 refine Ct.of _ Tryz.func47 Tryz.ntmps47 rfl rfl (fun X W => ?_)
 refine Jc.qs<|Jc.qr ?_
 refine Jl.box rfl (by rfl) ?_
 intro b1
 refine Jl.alloc tze27 ?_
 intro b2
 refine Jl.qn<|Jq.qt<|Jc.qs<|Jc.qr<|Jl.pv (PR.qf rfl tfl27_2) ?_
 refine Jl.pv (PR.load1 rfl tsh3 zH (by rfl)) ?_
 refine Jl.call (within_ct d.r 65536) en57 (by rfl) zT zF ?_
 rintro ⟨⟩
 refine Jl.pv (PR.qa rfl)<|Jl.qn<|Jq.qt<|Jc.qs<|Jc.qr<|Jl.pv (PR.qf rfl tfl27_0) ?_
 refine Jl.pv (PR.load1 rfl tsh25 zH (by rfl)) ?_
 refine Jl.pv (PR.qf rfl tfl27_0) ?_
 refine Jl.pv (PR.load1 rfl tsh25 zH (by rfl)) ?_
 refine Jl.pv (PR.len rfl tsl25) ?_
 refine Jl.pv (PR.qm rfl) ?_
 refine Jl.pv (PR.min2 d.own.b.length rfl rfl (by simp [Dk.own, Dk.room]; omega)) ?_
 refine Jl.slice 0 d.own.b.length d.own.b.length (u8s d.own.b) rfl tsl25 rfl rfl zM (by omega) hl hc rfl (by simp [Dk.own, u8s, List.map_take]) ?_
 intro A15 c15 hc15
 clear hc15
 refine Jl.call (sclone_ct A15 c15 d.own.b (by omega)) en70 (by rfl) zT zF ?_
 rintro ⟨A16, c16⟩
 refine Jl.pv (PR.qa rfl)<|Jl.qn<|Jq.qt<|Jc.qs<|Jc.qr<|Jl.pv (PR.qm rfl)<|Jl.pv (PR.qf rfl tfl27_1) ?_
 refine Jl.pv (PR.load1 rfl tsh3 zH (by rfl)) ?_
 refine Jl.pv (PR.qm rfl) ?_
 refine Jl.pv (PR.len rfl tsl25) ?_
 refine Jl.call (within_ct d.s d.own.b.length) en57 (by rfl) zT zF ?_
 rintro ⟨⟩
 refine Jl.pv (PR.qm rfl) ?_
 refine Jl.pv (PR.build (by rfl) tze27 tpl27_0_1_2 (by rfl)) ?_
 refine Jl.storeW rfl tsh27 rfl (by rfl) (by simp [Value.oneCell']) zS (by rfl) ?_
 refine Jl.qn<|Jq.qt<|Jc.ret ?_
 exact Jq.fin (A16, c16) (.inl rfl) rfl (RetVs.cellA rfl zH tsh27 (by rfl) RetVs.nil) rfl zT zF
theorem all_ct (b : Nat) (A : Option Addr) (n c : Nat) (s r : Int) : Ct Tryz.prog 49 [.pointer (some ⟨b, 0, none⟩)] [.blk b 27 [.slice A n c, .int .i64 s, .int .i64 r]] [] (fun _ : Unit => .tuple #[]) (fun _ => [.blk b 27 [.slice A n c, .int .i64 n, .int .i64 r]]) (fun _ => []) := by
 refine Ct.of _ Tryz.func49 Tryz.ntmps49 rfl rfl (fun X W => ?_)
 refine Jc.qr<|Jl.pv (PR.qm rfl)<|Jl.pv (PR.qm rfl)<|Jl.pv (PR.nilCheck rfl)<|Jl.pv (PR.qf rfl tfl27_0) ?_
 refine Jl.pv (PR.load1 rfl tsh25 zH (by rfl)) ?_
 refine Jl.pv (PR.len rfl tsl25) ?_
 refine Jl.pv (PR.nilCheck rfl)<|Jl.pv (PR.qf rfl tfl27_1) ?_
 refine Jl.store1 rfl tsh3 rfl (by rfl) zS (by rfl) ?_
 refine Jl.qn ?_
 exact Jq.fin () (.inr rfl) rfl RetVs.nil rfl zT zF
theorem change_ct (fn : Fn) (ys zs : Array Value) : Ct Tryz.prog 48 [.func fn ys zs] [] [] (fun b : Nat => .func (.func 71) #[] #[.pointer (some ⟨b, 0, none⟩)]) (fun b => [.blk b 91 [.func fn ys zs]]) (fun _ => []) := by
 refine Ct.of _ Tryz.func48 Tryz.ntmps48 rfl rfl (fun X W => ?_)
 refine Jc.qs<|Jc.qr ?_
 refine Jl.box rfl (by rfl) ?_
 intro b1
 refine Jl.pv (PR.qa rfl)<|Jl.qn<|Jq.qt<|Jc.qs<|Jc.qr ?_
 refine Jl.pv (PR.makeFunc rfl rfl) ?_
 refine Jl.pv (PR.qa rfl)<|Jl.qn<|Jq.qt<|Jc.ret ?_
 exact Jq.fin b1 (.inl rfl) rfl (RetVs.tmp rfl RetVs.nil) rfl zT zF
theorem cut_says (d : Dk) (keep : Int) (x : OAd) (W : World) (h : (d.own.row x).says W) : ((d.crash keep).row x).says W := by
 have h1 := d.left_le keep
 have h2 := d.crash_len keep
 have h3 := row_cut (k := d.left keep) h1 h
 unfold Dk.row
 rw [h2]
 have e : u8s (d.crash keep).b = (u8s d.own.b).take (d.left keep) := by simp [Dk.crash, u8s, List.map_take]
 rw [e]
 exact h3
theorem cut_owns (d : Dk) (keep : Int) (x : OAd) : ∀ b, ((d.crash keep).row x).own b → (d.own.row x).own b := row_cut_own
theorem crash_cs (d : Dk) (keep : Int) (x : OAd) : (d.crash keep).cs x = [.slice x.1 (d.left keep) x.2, .int .i64 (d.left keep : Nat), .int .i64 d.own.r] := by unfold Dk.cs; rw [d.crash_len]; rfl
theorem row_cap_dk {d : Dk} {x : OAd} {W : World} (h : (d.row x).says W) : d.b.length ≤ x.2 := row_cap h
theorem crash1_ct (b bk : Nat) (x : OAd) (d : Dk) (keep : Int) (hn : d.b.length ≤ 500000) : Ct Tryz.prog 56 [.pointer (some ⟨b, 0, none⟩), .pointer (some ⟨bk, 0, none⟩)] [.blk b 27 (d.own.cs x), d.own.row x, .blk bk 3 [.int .i64 keep]] [] (fun _ : Unit => .tuple #[])
 (fun _ => [.blk b 27 ((d.crash keep).cs x), (d.crash keep).row x]) (fun _ => []) := by
 have hl : d.own.b.length ≤ d.b.length := by simp [Dk.own]; omega
 have hle := d.left_le keep
 have heq := d.left_eq keep
 have hfit := d.own_fit
 refine Ct.of _ Tryz.func56 Tryz.ntmps56 rfl rfl (fun X W => ?_)
 refine Jc.pureR (p := d.own.b.length ≤ x.2) (fun W hs => row_cap_dk hs.2.2.1) fun hcap => ?_
 refine Jc.qs ?_
 refine Jc.drawn [0, 0, 2, 6, 14, 0, 32, 96, 224, 0, 0, 1024, 3072, 7168, 15360, 0, 32768, 98304, 229376, 523264, 1048064, 2097120, 4194302, 8388607, 16777215, 33554431] ([], []) [⟨[(0, false), (1, false), (2, false), (3, false), (4, false), (5, false), (6, false), (7, false), (8, false), (9, false), (10, false), (11, false), (12, false), (13, false), (14, false), (15, false), (16, false), (17, false), (18, false), (19, false)], [], 20⟩, ⟨[(21, false), (22, false), (23, false), (24, false)], [], 25⟩] tmx (by kernel_rfl) ?_
 refine Dh.JH.cons<|Dh.JB.pv rfl trivial (fun _ => PR.qm rfl)<|Dh.JB.pv rfl trivial (fun _ => PR.qm rfl) ?_
 refine Dh.JB.pv rfl trivial (fun _ => PR.nilCheck rfl) ?_
 refine Dh.JB.pv rfl trivial (fun _ => PR.qf rfl tfl27_0) ?_
 refine Dh.JB.rd [.blk _ _ _] rfl trivial zT (fun _ => PR.load1 rfl tsh25 Has.here (by rfl)) ?_
 refine Dh.JB.pv rfl trivial (fun _ => PR.qm rfl) ?_
 refine Dh.JB.pv rfl trivial (fun _ => PR.nilCheck rfl) ?_
 refine Dh.JB.pv rfl trivial (fun _ => PR.qf rfl tfl27_1) ?_
 refine Dh.JB.rd [.blk _ _ _] rfl trivial zT (fun _ => PR.load1 rfl tsh3 Has.here (by rfl)) ?_
 refine Dh.JB.rd [.blk _ _ _] rfl trivial zT (fun _ => PR.load1 rfl tsh3 Has.here (by rfl)) ?_
 refine Dh.JB.pv rfl trivial (fun _ => PR.qm rfl) ?_
 refine Dh.JB.pv rfl trivial (fun _ => PR.nilCheck rfl) ?_
 refine Dh.JB.pv rfl trivial (fun _ => PR.qf rfl tfl27_0) ?_
 refine Dh.JB.rd [.blk _ _ _] rfl trivial zT (fun _ => PR.load1 rfl tsh25 Has.here (by rfl)) ?_
 refine Dh.JB.pv rfl trivial (fun _ => PR.len rfl tsl25) ?_
 refine Dh.JB.pv rfl trivial (fun _ => PR.qm rfl) ?_
 refine Dh.JB.pv rfl trivial (fun _ => PR.nilCheck rfl) ?_
 refine Dh.JB.pv rfl trivial (fun _ => PR.qf rfl tfl27_1) ?_
 refine Dh.JB.rd [.blk _ _ _] rfl trivial zT (fun _ => PR.load1 rfl tsh3 Has.here (by rfl)) ?_
 refine Dh.JB.pv rfl trivial (fun _ => PR.sub ((d.own.b.length : Int) - d.own.s) rfl rfl (w64 (by omega) (by omega))) ?_
 refine Dh.JB.nil<|Dh.JL.nil ?_
 refine Dh.JE.mk rfl (fun _ h => by cases h) (fun C0_20 => ?_)
 refine Jl.call (within_ct keep ((d.own.b.length : Int) - d.own.s)) en57 (by rfl) zT zF ?_
 rintro ⟨⟩
 refine Jl.qn ?_
 refine Dh.Jq.segV zX ?_ zK
 refine Dh.JH.cons ?_
 refine Dh.JB.pv rfl trivial (fun _ => PR.add ((d.left keep : Nat) : Int) rfl rfl (by rw [heq, w64 (by omega) (by omega)])) ?_
 refine Dh.JB.pv rfl trivial (fun _ => PR.slice0 (d.left keep) rfl tsl25 rfl hle hcap) ?_
 refine Dh.JB.pv rfl trivial (fun _ => PR.nilCheck rfl) ?_
 refine Dh.JB.pv rfl trivial (fun _ => PR.qf rfl tfl27_0)<|Dh.JB.nil<|Dh.JL.nil ?_
 refine Dh.JE.mk rfl (fun _ h => by cases h) (fun C0_25 => ?_)
 refine Jl.store1 rfl tsh25 rfl (by rfl) zS (by rfl) ?_
 refine Jl.qn ?_
 refine Dh.Jq.segN zX ?_ zK
 refine Dh.JH.nil ?_
 refine Dh.JB.nil<|Dh.JL.nil<|Jq.qt<|Jc.qr<|Jl.pv (PR.qm rfl) ?_
 refine Jl.call (all_ct b x.1 (d.left keep) x.2 d.own.s d.own.r) en49 (by rfl) zT zF ?_
 rintro ⟨⟩
 refine Jl.rsay (q := d.own.row x) (q' := (d.crash keep).row x) zS (cut_says d keep x) (cut_owns d keep x) ?_
 refine Jl.rsay (q := .blk b 27 [.slice x.1 (d.left keep) x.2, .int .i64 (d.left keep : Nat), .int .i64 d.own.r]) (q' := .blk b 27 ((d.crash keep).cs x)) zS (fun W h => by rw [crash_cs]; exact h) (fun _ h => by rw [crash_cs] at h; exact h) ?_
 refine Jl.qn ?_
 exact Jq.fin () (.inr rfl) rfl RetVs.nil rfl zT zF
theorem changeS_ct (A : Option Addr) (c bg : Nat) (d : Dk) (hn : d.b.length ≤ 500000) (hc : d.b.length ≤ c) :
 Ct Tryz.prog 71 [d.v (A, c), .pointer (some ⟨bg, 0, none⟩)] [.blk bg 91 [.func (.func 49) #[] #[]]] [.rd A (u8s d.b)] d.sync.v (fun x => [d.sync.row x]) (fun _ => []) := by
 refine Ct.of _ Tryz.func71 Tryz.ntmps71 rfl rfl (fun X W => ?_)
 refine Jc.qs<|Jc.qr ?_
 refine Jl.box rfl (by rfl) ?_
 intro b2
 refine Jl.alloc tze27 ?_
 intro b3
 refine Jl.qn<|Jq.qt<|Jc.qs<|Jc.qr ?_
 refine Jl.pv (PR.loadW rfl tsh27 zH (by rfl)) ?_
 refine Jl.call (own_ct A c d hn hc) en47 (by rfl) zT zF ?_
 rintro ⟨A5, c5⟩
 refine Jl.storeW rfl tsh27 rfl (by rfl) (by simp [Value.oneCell']) zS (by rfl) ?_
 refine Jl.qn<|Jq.qt<|Jc.qs<|Jc.qr ?_
 refine Jl.pv (PR.load1 rfl tsh91 zH (by rfl)) ?_
 refine Jl.callv (all_ct b2 A5 d.own.b.length c5 d.own.s d.own.r) en49 rfl (by rfl) (by rfl) zT zF ?_
 rintro ⟨⟩
 refine Jl.qn<|Jq.qt<|Jc.qs<|Jc.qr ?_
 refine Jl.pv (PR.loadW rfl tsh27 zH (by rfl)) ?_
 refine Jl.storeW rfl tsh27 rfl (by rfl) (by simp [Value.oneCell']) zS (by rfl) ?_
 refine Jl.qn<|Jq.qt<|Jc.ret ?_
 exact Jq.fin (A5, c5) (.inl rfl) rfl (RetVs.cellA rfl zH tsh27 (by rfl) RetVs.nil) rfl zT zF
theorem changeC_ct (A : Option Addr) (c bg bk : Nat) (d : Dk) (keep : Int) (hn : d.b.length ≤ 500000) (hc : d.b.length ≤ c) :
 Ct Tryz.prog 71 [d.v (A, c), .pointer (some ⟨bg, 0, none⟩)] [.blk bg 91 [.func (.func 56) #[] #[.pointer (some ⟨bk, 0, none⟩)]], .blk bk 3 [.int .i64 keep]] [.rd A (u8s d.b)] (d.crash keep).v (fun x => [(d.crash keep).row x]) (fun _ => []) := by
 refine Ct.of _ Tryz.func71 Tryz.ntmps71 rfl rfl (fun X W => ?_)
 refine Jc.qs<|Jc.qr ?_
 refine Jl.box rfl (by rfl) ?_
 intro b2
 refine Jl.alloc tze27 ?_
 intro b3
 refine Jl.qn<|Jq.qt<|Jc.qs<|Jc.qr ?_
 refine Jl.pv (PR.loadW rfl tsh27 zH (by rfl)) ?_
 refine Jl.call (own_ct A c d hn hc) en47 (by rfl) zT zF ?_
 rintro ⟨A5, c5⟩
 refine Jl.storeW rfl tsh27 rfl (by rfl) (by simp [Value.oneCell']) zS (by rfl) ?_
 refine Jl.qn<|Jq.qt<|Jc.qs<|Jc.qr ?_
 refine Jl.pv (PR.load1 rfl tsh91 zH (by rfl)) ?_
 refine Jl.callv (crash1_ct b2 bk (A5, c5) d keep hn) en56 rfl (by rfl) (by rfl) zT zF ?_
 rintro ⟨⟩
 refine Jl.rsay (q := .blk b2 27 ((d.crash keep).cs (A5, c5))) (q' := .blk b2 27 [.slice A5 (d.crash keep).b.length c5, .int .i64 (d.crash keep).s, .int .i64 (d.crash keep).r]) zS (fun _ h => h) (fun _ h => h) ?_
 refine Jl.qn<|Jq.qt<|Jc.qs<|Jc.qr ?_
 refine Jl.pv (PR.loadW rfl tsh27 zH (by rfl)) ?_
 refine Jl.storeW rfl tsh27 rfl (by rfl) (by simp [Value.oneCell']) zS (by rfl) ?_
 refine Jl.qn<|Jq.qt<|Jc.ret ?_
 exact Jq.fin (A5, c5) (.inl rfl) rfl (RetVs.cellA rfl zH tsh27 (by rfl) RetVs.nil) rfl zT zF
theorem sync_ct (A : Option Addr) (c : Nat) (d : Dk) (hn : d.b.length ≤ 500000) (hc : d.b.length ≤ c) :
 Ct Tryz.prog 27 [d.v (A, c)] [] [.rd A (u8s d.b)] d.sync.v (fun x => [d.sync.row x]) (fun _ => []) := by
 refine Ct.of _ Tryz.func27 Tryz.ntmps27 rfl rfl (fun X W => ?_)
 refine Jc.qs<|Jc.qr ?_
 refine Jl.box rfl (by rfl) ?_
 intro b1
 refine Jl.alloc tze27 ?_
 intro b2
 refine Jl.qn<|Jq.qt<|Jc.qs ?_
 refine Jc.drawn [0, 0, 3, 7] ([], []) [⟨[(1, false)], [], 0⟩, ⟨[], [], 2⟩, ⟨[], [], 3⟩] tmx (by kernel_rfl) ?_
 refine Dh.JH.cons ?_
 refine Dh.JB.rd [.blk _ _ _] rfl trivial zT (fun _ => PR.loadW rfl tsh27 Has.here (by rfl)) ?_
 refine Dh.JB.nil<|Dh.JL.nil ?_
 refine Dh.JE.mk rfl (fun _ h => by cases h) (fun C1_0 => ?_)
 refine Jl.call (change_ct (.func 49) #[] #[]) en48 (by rfl) zT zF ?_
 rintro b3
 refine Jl.qn ?_
 refine Dh.Jq.segV zX ?_ zK
 refine Dh.JH.cons<|Dh.JB.nil<|Dh.JL.nil ?_
 refine Dh.JE.mk rfl (fun _ h => by cases h) (fun C1_2 => ?_)
 refine Jl.callv (changeS_ct A c b3 d hn hc) en71 rfl (by rfl) (by rfl) zT zF ?_
 rintro ⟨A5, c5⟩
 refine Jl.qn ?_
 refine Dh.Jq.segV zX ?_ zK
 refine Dh.JH.cons<|Dh.JB.nil<|Dh.JL.nil ?_
 refine Dh.JE.mk rfl (fun _ h => by cases h) (fun C1_3 => ?_)
 refine Jl.storeW rfl tsh27 rfl (by rfl) (by simp [Value.oneCell']) zS (by rfl) ?_
 refine Jl.qn ?_
 refine Dh.Jq.segN zX ?_ zK
 refine Dh.JH.nil ?_
 refine Dh.JB.nil<|Dh.JL.nil<|Jq.qt<|Jc.ret ?_
 exact Jq.fin (A5, c5) (.inl rfl) rfl (RetVs.cellA rfl zH tsh27 (by rfl) RetVs.nil) rfl zT zF
theorem crash_ct (A : Option Addr) (c : Nat) (d : Dk) (keep : Int) (hn : d.b.length ≤ 500000) (hc : d.b.length ≤ c) :
 Ct Tryz.prog 35 [d.v (A, c), .int .i64 keep] [] [.rd A (u8s d.b)] (d.crash keep).v (fun x => [(d.crash keep).row x]) (fun _ => []) := by
 refine Ct.of _ Tryz.func35 Tryz.ntmps35 rfl rfl (fun X W => ?_)
 refine Jc.qs<|Jc.qr ?_
 refine Jl.box rfl (by rfl) ?_
 intro b2
 refine Jl.box rfl (by rfl) ?_
 intro b3
 refine Jl.alloc tze27 ?_
 intro b4
 refine Jl.qn<|Jq.qt<|Jc.qs ?_
 refine Jc.drawn [0, 1, 0, 7, 15] ([], []) [⟨[(0, false), (2, false)], [], 1⟩, ⟨[], [], 3⟩, ⟨[], [], 4⟩] tmx (by kernel_rfl) ?_
 refine Dh.JH.cons ?_
 refine Dh.JB.pv rfl trivial (fun _ => PR.makeFunc rfl rfl) ?_
 refine Dh.JB.rd [.blk _ _ _] rfl trivial zT (fun _ => PR.loadW rfl tsh27 Has.here (by rfl)) ?_
 refine Dh.JB.nil<|Dh.JL.nil ?_
 refine Dh.JE.mk rfl (fun _ h => by cases h) (fun C1_1 => ?_)
 refine Jl.call (change_ct (.func 56) #[] #[.pointer (some ⟨b3, 0, none⟩)]) en48 (by rfl) zT zF ?_
 rintro b6
 refine Jl.qn ?_
 refine Dh.Jq.segV zX ?_ zK
 refine Dh.JH.cons<|Dh.JB.nil<|Dh.JL.nil ?_
 refine Dh.JE.mk rfl (fun _ h => by cases h) (fun C1_3 => ?_)
 refine Jl.callv (changeC_ct A c b6 b3 d keep hn hc) en71 rfl (by rfl) (by rfl) zT zF ?_
 rintro ⟨A8, c8⟩
 refine Jl.qn ?_
 refine Dh.Jq.segV zX ?_ zK
 refine Dh.JH.cons<|Dh.JB.nil<|Dh.JL.nil ?_
 refine Dh.JE.mk rfl (fun _ h => by cases h) (fun C1_4 => ?_)
 refine Jl.storeW rfl tsh27 rfl (by rfl) (by simp [Value.oneCell']) zS (by rfl) ?_
 refine Jl.qn ?_
 refine Dh.Jq.segN zX ?_ zK
 refine Dh.JH.nil ?_
 refine Dh.JB.nil<|Dh.JL.nil<|Jq.qt<|Jc.ret ?_
 exact Jq.fin (A8, c8) (.inl rfl) rfl (RetVs.cellA rfl zH tsh27 (by rfl) RetVs.nil) rfl zT zF
end Go.Proofs.YtakbgccddokbbaaGreatDoor
namespace Go.Proofs.YtakbgccddokbbaaGreatDoor
open Go.RowKit
attribute [local irreducible] Res.blk Res.row Fact.rd
theorem getps {zs : Ps} {k : Nat} (h : k < zs.length) : (psv zs)[k]? = some (.slice zs[k].1.1 zs[k].2.length zs[k].1.2) := by simp [psv, h]
def pvals (zs : Ps) (k : Nat) : List Value := match (solid zs)[k]? with
 | some z => [.slice z.1.1 z.2.length z.1.2]
 | none => [.slice none 0 0]
theorem parts1_it (L : Option Addr) (cL b0 : Nat) (zs : Ps) (hn : zs.length ≤ 1000000) : It Tryz.prog 135 [.pointer (some ⟨b0, 0, none⟩)] [.blk b0 146 [.slice L zs.length cL]] [.rd L (psv zs)] (solid zs).length (pvals zs) := by
 refine It.of _ Tryz.func135 Tryz.ntmps135 rfl rfl (by rfl) (by simp only [List.mem_singleton]; rintro φ rfl; exact Fact.rd_old _ _) (fun W l cl clx hy => ?_)
 refine Jc.qs<|Jc.qr ?_
 refine Jl.pv (PR.load1 rfl tsh146 zH (by rfl)) ?_
 refine Jl.pv (PR.len rfl tsl146) ?_
 refine Jl.pv (PR.qm rfl)<|Jl.qn<|Jq.qt ?_
 refine Jc.block ?_
 refine Jc.loop (σ := { k : Nat // k ≤ zs.length }) (fun s => [(7, .int .i64 (s.1 : Int)), (6, .int .i64 (zs.length : Int)), (5, .slice L zs.length cL), (0, .func (.yield l) #[] #[])]) (fun _ => [.blk b0 146 [.slice L zs.length cL]]) (fun s => [cl (solid (zs.take s.1)).length, .rd L (psv zs)]) (fun s => zs.length - s.1) ⟨0, Nat.zero_le _⟩ (by exact ⟨rfl, rfl, rfl, rfl, trivial⟩) rfl (by exact ⟨zM, zM, trivial⟩) ?_
 rintro ⟨k, hk⟩
 show Jc _ _ _ _ _ _ [(7, Value.int .i64 (k : Int)), (6, .int .i64 (zs.length : Int)), (5, .slice L zs.length cL), (0, .func (.yield l) #[] #[])] [.blk b0 146 [.slice L zs.length cL]] [cl (solid (zs.take k)).length, .rd L (psv zs)]
 refine Jc.qs<|Jc.qr ?_
 refine Jl.pv (PR.lss _ rfl rfl rfl) ?_
 refine Jl.qn<|Jq.qt<|Jc.qs ?_
 refine Jc.cond rfl (fun hlt => ?_) (fun hlt => ?_)
 · try replace hlt := zV hlt
   have hlt' : k < zs.length := by omega
   have hsc := solid_succ hlt'
   refine Jc.skip<|Jq.qt<|Jc.qs ?_
   refine Jc.block ?_
   refine Jc.qs<|Jc.qr ?_
   refine Jl.pv (PR.idx1 k rfl rfl tsl146 zM (by simp [psv]) rfl hlt') ?_
   refine Jl.pv (PR.loadR rfl tsh25 zM (getps hlt')) ?_
   refine Jl.pv (PR.qa rfl)<|Jl.qn<|Jq.qt<|Jc.qs<|Jc.qr<|Jl.pv (PR.qm rfl) ?_
   refine Jl.pv (PR.len rfl tsl25) ?_
   refine Jl.pv (PR.gtr _ rfl rfl rfl) ?_
   refine Jl.pv (PR.qm rfl) ?_
   refine Jl.bsplit (fun g14 => ?_) (fun g14 => ?_)
   · try replace g14 := zV g14
     obtain ⟨hs1, hs2⟩ := solid_at hlt' (by omega)
     rw [if_pos (by omega)] at hsc
     refine Jl.on rfl rfl<|Jl.pv (PR.qm rfl)<|Jl.on rfl rfl<|Jl.pv (PR.qm rfl)<|Jl.on rfl rfl ?_
     refine hy _ _ _ _ _ _ _ _ _ _ _ _ _ _ ((solid (zs.take k)).length) hs1 rfl (by show some [_] = some (pvals _ _); simp only [pvals, hs2]) zM rfl ?_ ?_
     · refine Jl.on rfl rfl ?_
       refine Jl.pv (PR.not rfl) ?_
       refine Jl.pv (PR.pickT rfl rfl)<|Jl.qn<|Jq.qt<|Jc.condF rfl<|Jc.skip ?_
       refine Jq.blkN ?_
       refine Jq.qt<|Jc.qr ?_
       refine Jl.pv (PR.add ((k + 1 : Nat) : Int) rfl rfl (by rw [w64 (by omega) (by omega)]; rfl)) ?_
       refine Jl.pv (PR.qm rfl)<|Jl.qn ?_
       refine Jq.again ⟨k + 1, hlt'⟩ (by simp only; omega) (by exact ⟨rfl, rfl, rfl, rfl, trivial⟩) rfl (by rw [hsc, List.length_append]; exact ⟨zM, zM, trivial⟩)
     refine Jl.on rfl rfl ?_
     refine Jl.pv (PR.not rfl) ?_
     refine Jl.pv (PR.pickT rfl rfl)<|Jl.qn<|Jq.qt<|Jc.condT rfl<|Jc.ret ?_
     refine Jq.blkR ?_
     refine Jq.thenR<|Jq.thenR ?_
     refine Jq.blkR ?_
     exact Jq.itStop (.inl rfl) hs1 zM
   try replace g14 := zW g14
   refine Jl.qo rfl rfl rfl<|Jl.qo rfl rfl rfl<|Jl.qo rfl rfl rfl<|Jl.qo rfl rfl rfl<|Jl.pv (PR.pickF rfl rfl)<|Jl.qn<|Jq.qt<|Jc.condF rfl<|Jc.skip ?_
   refine Jq.blkN ?_
   refine Jq.qt<|Jc.qr ?_
   refine Jl.pv (PR.add ((k + 1 : Nat) : Int) rfl rfl (by rw [w64 (by omega) (by omega)]; rfl)) ?_
   refine Jl.pv (PR.qm rfl)<|Jl.qn ?_
   refine Jq.again ⟨k + 1, hlt'⟩ (by simp only; omega) (by exact ⟨rfl, rfl, rfl, rfl, trivial⟩) rfl (by rw [hsc, if_neg (by omega), List.append_nil]; exact ⟨zM, zM, trivial⟩)
 try replace hlt := zW hlt
 refine Jc.exit ?_
 refine Jq.thenX ?_
 refine Jq.thenX ?_
 refine Jq.blkX ?_
 rw [show zs.take k = zs from List.take_of_length_le (by omega)]; exact Jq.itDone (.inr rfl) zM
theorem parts_ct (L : Option Addr) (n cL : Nat) : Ct Tryz.prog 114 [.slice L n cL] [] [] (fun b : Nat => .func (.func 135) #[] #[.pointer (some ⟨b, 0, none⟩)]) (fun b => [.blk b 146 [.slice L n cL]]) (fun _ => []) := by
 refine Ct.of _ Tryz.func114 Tryz.ntmps114 rfl rfl (fun X W => ?_)
 refine Jc.qs<|Jc.qr ?_
 refine Jl.box rfl (by rfl) ?_
 intro b1
 refine Jl.pv (PR.qa rfl)<|Jl.qn<|Jq.qt<|Jc.qs<|Jc.qr ?_
 refine Jl.pv (PR.makeFunc rfl rfl) ?_
 refine Jl.pv (PR.qa rfl)<|Jl.qn<|Jq.qt<|Jc.ret ?_
 exact Jq.fin b1 (.inl rfl) rfl (RetVs.tmp rfl RetVs.nil) rfl zT zF
def pre (zs : Ps) (k : Nat) : List UInt8 := flat ((solid zs).take k)
theorem pre_all (zs : Ps) : pre zs (solid zs).length = flat zs := by rw [pre, List.take_length, solid_flat]
theorem pre_len (zs : Ps) (k : Nat) : (pre zs k).length ≤ (flat zs).length := by rw [← solid_flat]; exact flat_le _ _
theorem pre_succ {zs : Ps} {k : Nat} {z : OAd × List UInt8} (h : (solid zs)[k]? = some z) : pre zs (k + 1) = pre zs k ++ z.2 := by
 obtain ⟨hk, rfl⟩ := List.getElem?_eq_some_iff.1 h
 exact flat_take hk
def errK (zs : Ps) (r : Int) (k : Nat) : Int := if ((pre zs k).length : Int) ≤ r then 0 else 30
theorem put_fit (A L : Option Addr) (c cL : Nat) (d : Dk) (safe : Int) (zs : Ps) (hr : 0 ≤ d.r) (hn : zs.length ≤ 1000) (hf : (flat zs).length ≤ 1000000) (hfit : ((flat zs).length : Int) ≤ d.r) :
 Ct Tryz.prog 83 [d.v (A, c), .int .i64 safe, .slice L zs.length cL] [] [.rd L (psv zs), .ps zs] (fun x : OAd => .tuple #[.agg #[.slice x.1 (flat zs).length x.2, .int .i64 safe, .int .i64 d.r], .int .i64 0]) (fun x => [.row 5 1 (.slice x.1 (flat zs).length x.2) (flat zs).length (u8s (flat zs))]) (fun _ => []) := by
 have hsl := solid_len zs
 refine Ct.of _ Tryz.func83 Tryz.ntmps83 rfl rfl (fun X W => ?_)
 refine Jc.qs<|Jc.qr ?_
 refine Jl.box rfl (by rfl) ?_
 intro b3
 refine Jl.alloc tze27 ?_
 intro b6
 refine Jl.alloc tze39 ?_
 intro b7
 refine Jl.qn<|Jq.qt ?_
 refine Jc.scopeN (σ := { _u : Unit // ¬ ((flat zs).length : Int) ≤ d.r } × Nat × OAd) (fun s => (31, [s.2.1])) (fun _ => [(3, .pointer (some ⟨b3, 0, none⟩)), (6, .pointer (some ⟨b6, 0, none⟩)), (7, .pointer (some ⟨b7, 0, none⟩))]) (fun s => [.mark s.2.1, .row 5 1 (.slice s.2.2.1 (flat zs).length s.2.2.2) (flat zs).length (u8s (flat zs)), .blk b7 39 [.int .i64 30], .blk b6 27 [.slice s.2.2.1 (flat zs).length s.2.2.2, .int .i64 safe, .int .i64 d.r], .blk b3 27 [.slice A d.b.length c, .int .i64 d.s, .int .i64 d.r]]) (fun _ => []) (fun _ => 0) (l := 0) rfl ?_ ?_
 · rintro ⟨⟨_, hno⟩, D0, A', c'⟩
   exact absurd hfit hno
 intro hfirst0
 refine Jc.qs<|Jc.qr<|Jl.pv (PR.qm rfl)<|Jl.pv (PR.qf rfl tfl27_2) ?_
 refine Jl.pv (PR.load1 rfl tsh3 zH (by rfl)) ?_
 refine Jl.pv (PR.build (by rfl) tze27 tpl27_1_2 (by rfl)) ?_
 refine Jl.storeW rfl tsh27 rfl (by rfl) (by simp [Value.oneCell']) zS (by rfl) ?_
 refine Jl.qn<|Jq.qt<|Jc.qs<|Jc.qs<|Jc.qr<|Jl.pv (PR.qm rfl) ?_
 refine Jl.call (parts_ct L zs.length cL) en114 (by rfl) zT zF ?_
 rintro b14
 refine Jl.qn<|Jq.qt ?_
 refine Jc.block ?_
 refine Jc.nilRow 5 1 ?_
 refine Jc.range (σ := (k : Nat) × OAd) (τ := Empty) (Inv := fun k s => s.1 = k) (Rs := fun s => [.row 5 1 (.slice s.2.1 (pre zs s.1).length s.2.2) (pre zs s.1).length (u8s (pre zs s.1)), .blk b7 39 [.int .i64 (errK zs d.r s.1)], .blk b6 27 [.slice s.2.1 (pre zs s.1).length s.2.2, .int .i64 safe, .int .i64 d.r], .blk b3 27 [.slice A d.b.length c, .int .i64 d.s, .int .i64 d.r]]) (Φs := fun _ => [.ps zs]) (InvX := fun _ _ _ => False) (RsX := fun _ => []) (ΦsX := fun _ => []) (vals := pvals zs) rfl en135 (parts1_it L cL b14 zs (by omega)) zT zF (fun k => by unfold pvals; split <;> rfl) rfl ⟨0, none, 0⟩ rfl (by simp [pre, flat, errK, hr, u8s]) (by exact ⟨zM, trivial⟩) ?_ ?_ ?_
 · rintro k ⟨j, A', c'⟩ hk hj l C1
   obtain rfl : k = j := hj.symm
   obtain ⟨z, hz⟩ : ∃ z, (solid zs)[k]? = some z := ⟨_, List.getElem?_eq_getElem hk⟩
   have hzm : z ∈ zs := (solid_mem (List.mem_of_getElem? hz)).1
   have hps := pre_succ hz
   have hpl := pre_len zs (k + 1)
   have hpll : (pre zs (k + 1)).length = (pre zs k).length + z.2.length := by rw [hps, List.length_append]
   rw [show pvals zs k = [.slice z.1.1 z.2.length z.1.2] by simp [pvals, hz]]
   show Jc _ _ _ _ _ _ (psetL [15] [.slice z.1.1 z.2.length z.1.2] _) [.row 5 1 (.slice A' (pre zs k).length c') (pre zs k).length (u8s (pre zs k)), .blk b7 39 [.int .i64 (errK zs d.r k)], .blk b6 27 [.slice A' (pre zs k).length c', .int .i64 safe, .int .i64 d.r], .blk b3 27 [.slice A d.b.length c, .int .i64 d.s, .int .i64 d.r]] [.ps zs]
   refine Jc.fact (.rd z.1.1 (u8s z.2)) (φ := .ps zs) zM (fun X W h => h z hzm) ?_
   refine Jc.qr<|Jl.pv (PR.qa rfl)<|Jl.qn ?_
   refine Jq.assigned (fun C2 => ?_)
   refine Jc.block ?_
   refine Jc.qs<|Jc.qr<|Jl.pv (PR.qf rfl tfl27_0) ?_
   refine Jl.pv (PR.load1 rfl tsh25 zH (by rfl)) ?_
   refine Jl.pv (PR.qm rfl) ?_
   refine Jl.append (pre zs (k + 1)).length (u8s (pre zs (k + 1))) rfl rfl rfl tsl25 tze5 (by rfl) (by decide) tby5 (fun _ _ => zS) zM (by omega) (by rw [hps]; simp [u8s]) (by simp [u8s]) (u8s_one _) (by omega) (by decide) ?_
   intro A19 c19
   refine Jl.pv (PR.qf rfl tfl27_0) ?_
   refine Jl.store1 rfl tsh25 rfl (by rfl) zS (by rfl) ?_
   refine Jl.qn<|Jq.qt<|Jc.qs<|Jc.qr<|Jl.pv (PR.qf rfl tfl27_0) ?_
   refine Jl.pv (PR.load1 rfl tsh25 zH (by rfl)) ?_
   refine Jl.pv (PR.len rfl tsl25) ?_
   refine Jl.pv (PR.qf rfl tfl27_2) ?_
   refine Jl.pv (PR.load1 rfl tsh3 zH (by rfl)) ?_
   refine Jl.pv (PR.gtr _ rfl rfl rfl) ?_
   refine Jl.qn<|Jq.qt ?_
   refine Jc.cond rfl (fun hgt => ?_) (fun hgt => ?_)
   · try replace hgt := zV hgt
     have he1 : errK zs d.r (k + 1) = 30 := if_neg (by omega)
     refine Jc.qr ?_
     refine Jl.store1 rfl tsh39 rfl (by rfl) zS (by rfl) ?_
     refine Jl.qn ?_
     refine Jq.blkN ?_
     exact Jq.next ⟨k + 1, A19, c19⟩ rfl (by simp only [he1]) (by exact ⟨zM, trivial⟩)
   try replace hgt := zW hgt
   have he1 : errK zs d.r (k + 1) = errK zs d.r k := by rw [errK, errK, if_pos (by omega), if_pos (by omega)]
   refine Jc.skip ?_
   refine Jq.blkN ?_
   exact Jq.next ⟨k + 1, A19, c19⟩ rfl (by simp only [he1]) (by exact ⟨zM, trivial⟩)
 · rintro ⟨j, A', c'⟩ D0 hj
   obtain rfl : j = (solid zs).length := hj
   have hek : errK zs d.r (solid zs).length = 0 := by rw [errK, pre_all, if_pos hfit]
   show Jq _ _ _ .normal _ [.mark D0, .row 5 1 (.slice A' (pre zs (solid zs).length).length c') (pre zs (solid zs).length).length (u8s (pre zs (solid zs).length)), .blk b7 39 [.int .i64 (errK zs d.r (solid zs).length)], .blk b6 27 [.slice A' (pre zs (solid zs).length).length c', .int .i64 safe, .int .i64 d.r], .blk b3 27 [.slice A d.b.length c, .int .i64 d.s, .int .i64 d.r]] [.ps zs]
   rw [pre_all, hek]
   refine Jq.blkN ?_
   refine Jq.qt<|Jc.qs<|Jc.qs<|Jc.qr ?_
   refine Jl.pv (PR.load1 rfl tsh39 zH (by rfl)) ?_
   refine Jl.pv (PR.neq false rfl rfl rfl) ?_
   refine Jl.qn<|Jq.qt<|Jc.condF rfl<|Jc.skip<|Jq.qt<|Jc.qs<|Jc.qs<|Jc.qr ?_
   refine Jl.pv (PR.loadW rfl tsh27 zH (by rfl)) ?_
   refine Jl.storeW rfl tsh27 rfl (by rfl) (by simp [Value.oneCell']) zS (by rfl) ?_
   refine Jl.store1 rfl tsh39 rfl (by rfl) zS (by rfl) ?_
   refine Jl.qn<|Jq.qt<|Jc.ret<|Jq.thenR ?_
   refine Jq.jmpR ?_
   exact Jq.finM (Ds := [D0]) (A', c') (.inl rfl) rfl zT (RetVs.cellA rfl zH tsh27 (by rfl) (RetVs.cell1 rfl zH tsh39 (by rfl) RetVs.nil)) rfl zT zF
 exact fun _ _ t => t.elim
theorem put_full (A L : Option Addr) (c cL : Nat) (d : Dk) (safe : Int) (zs : Ps) (hr : 0 ≤ d.r) (hn : zs.length ≤ 1000) (hf : (flat zs).length ≤ 1000000) (hfit : ¬ ((flat zs).length : Int) ≤ d.r) :
 Ct Tryz.prog 83 [d.v (A, c), .int .i64 safe, .slice L zs.length cL] [] [.rd L (psv zs), .ps zs] (fun _ : Unit => .tuple #[d.v (A, c), .int .i64 30]) (fun _ => []) (fun _ => []) := by
 have hsl := solid_len zs
 refine Ct.of _ Tryz.func83 Tryz.ntmps83 rfl rfl (fun X W => ?_)
 refine Jc.qs<|Jc.qr ?_
 refine Jl.box rfl (by rfl) ?_
 intro b3
 refine Jl.alloc tze27 ?_
 intro b6
 refine Jl.alloc tze39 ?_
 intro b7
 refine Jl.qn<|Jq.qt ?_
 refine Jc.scopeN (σ := { _u : Unit // ¬ ((flat zs).length : Int) ≤ d.r } × Nat × OAd) (fun s => (31, [s.2.1])) (fun _ => [(3, .pointer (some ⟨b3, 0, none⟩)), (6, .pointer (some ⟨b6, 0, none⟩)), (7, .pointer (some ⟨b7, 0, none⟩))]) (fun s => [.mark s.2.1, .row 5 1 (.slice s.2.2.1 (flat zs).length s.2.2.2) (flat zs).length (u8s (flat zs)), .blk b7 39 [.int .i64 30], .blk b6 27 [.slice s.2.2.1 (flat zs).length s.2.2.2, .int .i64 safe, .int .i64 d.r], .blk b3 27 [.slice A d.b.length c, .int .i64 d.s, .int .i64 d.r]]) (fun _ => []) (fun _ => 0) (l := 0) rfl ?_ ?_
 · rintro ⟨⟨_, hno⟩, D0, A', c'⟩
   refine Jc.qs<|Jc.qr ?_
   refine Jl.pv (PR.loadW rfl tsh27 zH (by rfl)) ?_
   refine Jl.storeW rfl tsh27 rfl (by rfl) (by simp [Value.oneCell']) zS (by rfl) ?_
   refine Jl.store1 rfl tsh39 rfl (by rfl) zS (by rfl) ?_
   refine Jl.qn<|Jq.qt<|Jc.ret ?_
   refine Jq.jmpR ?_
   exact Jq.finM (Ds := [D0]) () (.inl rfl) rfl zT (RetVs.cellA rfl zH tsh27 (by rfl) (RetVs.cell1 rfl zH tsh39 (by rfl) RetVs.nil)) rfl zT zF
 intro hfirst0
 refine Jc.qs<|Jc.qr<|Jl.pv (PR.qm rfl)<|Jl.pv (PR.qf rfl tfl27_2) ?_
 refine Jl.pv (PR.load1 rfl tsh3 zH (by rfl)) ?_
 refine Jl.pv (PR.build (by rfl) tze27 tpl27_1_2 (by rfl)) ?_
 refine Jl.storeW rfl tsh27 rfl (by rfl) (by simp [Value.oneCell']) zS (by rfl) ?_
 refine Jl.qn<|Jq.qt<|Jc.qs<|Jc.qs<|Jc.qr<|Jl.pv (PR.qm rfl) ?_
 refine Jl.call (parts_ct L zs.length cL) en114 (by rfl) zT zF ?_
 rintro b14
 refine Jl.qn<|Jq.qt ?_
 refine Jc.block ?_
 refine Jc.nilRow 5 1 ?_
 refine Jc.range (σ := (k : Nat) × OAd) (τ := Empty) (Inv := fun k s => s.1 = k) (Rs := fun s => [.row 5 1 (.slice s.2.1 (pre zs s.1).length s.2.2) (pre zs s.1).length (u8s (pre zs s.1)), .blk b7 39 [.int .i64 (errK zs d.r s.1)], .blk b6 27 [.slice s.2.1 (pre zs s.1).length s.2.2, .int .i64 safe, .int .i64 d.r], .blk b3 27 [.slice A d.b.length c, .int .i64 d.s, .int .i64 d.r]]) (Φs := fun _ => [.ps zs]) (InvX := fun _ _ _ => False) (RsX := fun _ => []) (ΦsX := fun _ => []) (vals := pvals zs) rfl en135 (parts1_it L cL b14 zs (by omega)) zT zF (fun k => by unfold pvals; split <;> rfl) rfl ⟨0, none, 0⟩ rfl (by simp [pre, flat, errK, hr, u8s]) (by exact ⟨zM, trivial⟩) ?_ ?_ ?_
 · rintro k ⟨j, A', c'⟩ hk hj l C1
   obtain rfl : k = j := hj.symm
   obtain ⟨z, hz⟩ : ∃ z, (solid zs)[k]? = some z := ⟨_, List.getElem?_eq_getElem hk⟩
   have hzm : z ∈ zs := (solid_mem (List.mem_of_getElem? hz)).1
   have hps := pre_succ hz
   have hpl := pre_len zs (k + 1)
   have hpll : (pre zs (k + 1)).length = (pre zs k).length + z.2.length := by rw [hps, List.length_append]
   rw [show pvals zs k = [.slice z.1.1 z.2.length z.1.2] by simp [pvals, hz]]
   show Jc _ _ _ _ _ _ (psetL [15] [.slice z.1.1 z.2.length z.1.2] _) [.row 5 1 (.slice A' (pre zs k).length c') (pre zs k).length (u8s (pre zs k)), .blk b7 39 [.int .i64 (errK zs d.r k)], .blk b6 27 [.slice A' (pre zs k).length c', .int .i64 safe, .int .i64 d.r], .blk b3 27 [.slice A d.b.length c, .int .i64 d.s, .int .i64 d.r]] [.ps zs]
   refine Jc.fact (.rd z.1.1 (u8s z.2)) (φ := .ps zs) zM (fun X W h => h z hzm) ?_
   refine Jc.qr<|Jl.pv (PR.qa rfl)<|Jl.qn ?_
   refine Jq.assigned (fun C2 => ?_)
   refine Jc.block ?_
   refine Jc.qs<|Jc.qr<|Jl.pv (PR.qf rfl tfl27_0) ?_
   refine Jl.pv (PR.load1 rfl tsh25 zH (by rfl)) ?_
   refine Jl.pv (PR.qm rfl) ?_
   refine Jl.append (pre zs (k + 1)).length (u8s (pre zs (k + 1))) rfl rfl rfl tsl25 tze5 (by rfl) (by decide) tby5 (fun _ _ => zS) zM (by omega) (by rw [hps]; simp [u8s]) (by simp [u8s]) (u8s_one _) (by omega) (by decide) ?_
   intro A19 c19
   refine Jl.pv (PR.qf rfl tfl27_0) ?_
   refine Jl.store1 rfl tsh25 rfl (by rfl) zS (by rfl) ?_
   refine Jl.qn<|Jq.qt<|Jc.qs<|Jc.qr<|Jl.pv (PR.qf rfl tfl27_0) ?_
   refine Jl.pv (PR.load1 rfl tsh25 zH (by rfl)) ?_
   refine Jl.pv (PR.len rfl tsl25) ?_
   refine Jl.pv (PR.qf rfl tfl27_2) ?_
   refine Jl.pv (PR.load1 rfl tsh3 zH (by rfl)) ?_
   refine Jl.pv (PR.gtr _ rfl rfl rfl) ?_
   refine Jl.qn<|Jq.qt ?_
   refine Jc.cond rfl (fun hgt => ?_) (fun hgt => ?_)
   · try replace hgt := zV hgt
     have he1 : errK zs d.r (k + 1) = 30 := if_neg (by omega)
     refine Jc.qr ?_
     refine Jl.store1 rfl tsh39 rfl (by rfl) zS (by rfl) ?_
     refine Jl.qn ?_
     refine Jq.blkN ?_
     exact Jq.next ⟨k + 1, A19, c19⟩ rfl (by simp only [he1]) (by exact ⟨zM, trivial⟩)
   try replace hgt := zW hgt
   have he1 : errK zs d.r (k + 1) = errK zs d.r k := by rw [errK, errK, if_pos (by omega), if_pos (by omega)]
   refine Jc.skip ?_
   refine Jq.blkN ?_
   exact Jq.next ⟨k + 1, A19, c19⟩ rfl (by simp only [he1]) (by exact ⟨zM, trivial⟩)
 · rintro ⟨j, A', c'⟩ D0 hj
   obtain rfl : j = (solid zs).length := hj
   have hek : errK zs d.r (solid zs).length = 30 := by rw [errK, pre_all, if_neg hfit]
   show Jq _ _ _ .normal _ [.mark D0, .row 5 1 (.slice A' (pre zs (solid zs).length).length c') (pre zs (solid zs).length).length (u8s (pre zs (solid zs).length)), .blk b7 39 [.int .i64 (errK zs d.r (solid zs).length)], .blk b6 27 [.slice A' (pre zs (solid zs).length).length c', .int .i64 safe, .int .i64 d.r], .blk b3 27 [.slice A d.b.length c, .int .i64 d.s, .int .i64 d.r]] [.ps zs]
   rw [pre_all, hek]
   refine Jq.blkN ?_
   refine Jq.qt<|Jc.qs<|Jc.qs<|Jc.qr ?_
   refine Jl.pv (PR.load1 rfl tsh39 zH (by rfl)) ?_
   refine Jl.pv (PR.neq true rfl rfl rfl) ?_
   refine Jl.qn<|Jq.qt<|Jc.condT rfl ?_
   refine Jc.goto ?_
   refine Jq.thenG ?_
   exact Jq.jmpAN (⟨(), hfit⟩, D0, (A', c')) rfl (by exact ⟨rfl, rfl, rfl, trivial⟩) rfl trivial
 exact fun _ _ t => t.elim
end Go.Proofs.YtakbgccddokbbaaGreatDoor
namespace Go.Proofs.YtakbgccddokbbaaGreatDoor
open Go.RowKit
attribute [local irreducible] Res.blk Res.row Fact.rd
theorem Ct.pre_of {P : Program} {f : FuncId} {args : List Value} {Rin : List Res} {pre pre' : List Fact} {α : Type} {res : α → Value} {Rout : α → List Res} {post : α → List Fact} (h : Ct P f args Rin pre res Rout post) (k : ∀ X W, (∀ φ ∈ pre', φ.p X W) → ∀ φ ∈ pre, φ.p X W) : Ct P f args Rin pre' res Rout post :=
 fun X W hX hs hp => h X W hX hs (k _ W hp)
theorem ps_of {zs : Ps} {L : Option Addr} : ∀ X W, (∀ φ ∈ (Fact.rd L (psv zs) :: zs.map fun z => Fact.rd z.1.1 (u8s z.2)), φ.p X W) → ∀ φ ∈ [Fact.rd L (psv zs), .ps zs], φ.p X W := fun X W h φ hφ => by
 rcases List.mem_cons.1 hφ with rfl | hφ
 · exact h _ (List.mem_cons_self ..)
 · obtain rfl : φ = _ := by simpa using hφ
   intro z hz
   exact h _ (List.mem_cons_of_mem _ (List.mem_map.2 ⟨z, hz, rfl⟩))
theorem flat2 (x y : OAd) (a b : List UInt8) : flat [(x, a), (y, b)] = a ++ b := by simp [flat]
theorem append_ct (A B : Option Addr) (c c' : Nat) (d : Dk) (b : List UInt8) (hn : d.b.length ≤ 500000) (hc : d.b.length ≤ c) (hb : b.length ≤ 100000) :
 Ct Tryz.prog 69 [d.v (A, c), .slice B b.length c'] [] [.rd A (u8s d.b), .rd B (u8s b)] (fun x => .tuple #[(d.app b).v x, .int .i64 (d.appE b)]) (fun x => [(d.app b).row x]) (fun _ => []) := by
 have hl : d.own.b.length ≤ d.b.length := by simp [Dk.own]; omega
 have hfo := d.own_fit
 by_cases hfit : d.fits b
 · have e1 : d.app b = ⟨d.own.b ++ b, d.own.s, d.own.r⟩ := if_pos hfit
   have e2 : d.appE b = 0 := if_pos hfit
   rw [e1, e2]
   refine Ct.of _ Tryz.func69 Tryz.ntmps69 rfl rfl (fun X W => ?_)
   refine Jc.qs<|Jc.qr ?_
   refine Jl.box rfl (by rfl) ?_
   intro b2
   refine Jl.alloc tze27 ?_
   intro b4
   refine Jl.pv (PR.qa rfl)<|Jl.qn<|Jq.qt<|Jc.qs<|Jc.qr ?_
   refine Jl.pv (PR.loadW rfl tsh27 zH (by rfl)) ?_
   refine Jl.call (own_ct A c d hn hc) en47 (by rfl) zT zF ?_
   rintro ⟨A7, c7⟩
   refine Jl.storeW rfl tsh27 rfl (by rfl) (by simp [Value.oneCell']) zS (by rfl) ?_
   refine Jl.qn<|Jq.qt<|Jc.qs<|Jc.qr ?_
   refine Jl.pv (PR.loadW rfl tsh27 zH (by rfl)) ?_
   refine Jl.pv (PR.qf rfl tfl27_1) ?_
   refine Jl.pv (PR.load1 rfl tsh3 zH (by rfl)) ?_
   refine Jl.pv (PR.qf rfl tfl27_0) ?_
   refine Jl.pv (PR.load1 rfl tsh25 zH (by rfl)) ?_
   refine Jl.pv (PR.qm rfl) ?_
   refine Jl.buildSlice (by rfl) tsl146 tzr146_2 (by rfl) (by rfl) ?_
   intro b14
   have hct := (put_fit A7 (some ⟨b14, 0, none⟩) c7 2 d.own d.own.s [((A7, c7), d.own.b), ((B, c'), b)] (by omega) (by simp) (by rw [flat2]; simp; omega) (by rw [flat2]; exact hfit)).pre_of ps_of
   rw [flat2] at hct
   refine Jl.calll (fs := []) (cs := []) hct en83 rfl (by rfl) (by rfl) zT (ls := [.blk b14 25 [.slice A7 d.own.b.length c7, .slice B b.length c'], d.own.row (A7, c7)]) zT zL zF ?_
   rintro ⟨A15, c15⟩
   refine Jl.pv (PR.extract rfl (by rfl)) ?_
   refine Jl.pv (PR.extract rfl (by rfl)) ?_
   refine Jl.storeW rfl tsh27 rfl (by rfl) (by simp [Value.oneCell']) zS (by rfl) ?_
   refine Jl.pv (PR.qa rfl)<|Jl.qn<|Jq.qt<|Jc.ret ?_
   exact Jq.fin (A15, c15) (.inl rfl) rfl (RetVs.cellA rfl zH tsh27 (by rfl) (RetVs.tmp rfl RetVs.nil)) rfl zT zF
 · have e1 : d.app b = d.own := if_neg hfit
   have e2 : d.appE b = 30 := if_neg hfit
   rw [e1, e2]
   refine Ct.of _ Tryz.func69 Tryz.ntmps69 rfl rfl (fun X W => ?_)
   refine Jc.qs<|Jc.qr ?_
   refine Jl.box rfl (by rfl) ?_
   intro b2
   refine Jl.alloc tze27 ?_
   intro b4
   refine Jl.pv (PR.qa rfl)<|Jl.qn<|Jq.qt<|Jc.qs<|Jc.qr ?_
   refine Jl.pv (PR.loadW rfl tsh27 zH (by rfl)) ?_
   refine Jl.call (own_ct A c d hn hc) en47 (by rfl) zT zF ?_
   rintro ⟨A7, c7⟩
   refine Jl.storeW rfl tsh27 rfl (by rfl) (by simp [Value.oneCell']) zS (by rfl) ?_
   refine Jl.qn<|Jq.qt<|Jc.qs<|Jc.qr ?_
   refine Jl.pv (PR.loadW rfl tsh27 zH (by rfl)) ?_
   refine Jl.pv (PR.qf rfl tfl27_1) ?_
   refine Jl.pv (PR.load1 rfl tsh3 zH (by rfl)) ?_
   refine Jl.pv (PR.qf rfl tfl27_0) ?_
   refine Jl.pv (PR.load1 rfl tsh25 zH (by rfl)) ?_
   refine Jl.pv (PR.qm rfl) ?_
   refine Jl.buildSlice (by rfl) tsl146 tzr146_2 (by rfl) (by rfl) ?_
   intro b14
   have hct := (put_full A7 (some ⟨b14, 0, none⟩) c7 2 d.own d.own.s [((A7, c7), d.own.b), ((B, c'), b)] (by omega) (by simp) (by rw [flat2]; simp; omega) (by rw [flat2]; exact hfit)).pre_of ps_of
   refine Jl.calll (fs := []) (cs := []) hct en83 rfl (by rfl) (by rfl) zT (ls := [.blk b14 25 [.slice A7 d.own.b.length c7, .slice B b.length c'], d.own.row (A7, c7)]) zT zL zF ?_
   rintro ⟨⟩
   refine Jl.pv (PR.extract rfl (by rfl)) ?_
   refine Jl.pv (PR.extract rfl (by rfl)) ?_
   refine Jl.storeW rfl tsh27 rfl (by rfl) (by simp [Value.oneCell']) zS (by rfl) ?_
   refine Jl.pv (PR.qa rfl)<|Jl.qn<|Jq.qt<|Jc.ret ?_
   exact Jq.fin (A7, c7) (.inl rfl) rfl (RetVs.cellA rfl zH tsh27 (by rfl) (RetVs.tmp rfl RetVs.nil)) rfl zT zF
end Go.Proofs.YtakbgccddokbbaaGreatDoor
namespace Go.Proofs.YtakbgccddokbbaaGreatDoor
open Go.RowKit
attribute [local irreducible] Res.blk Res.row Fact.rd
theorem rown_ct (A : Option Addr) (c : Nat) (d : Dk) (hn : d.b.length ≤ 500000) (hc : d.b.length ≤ c) :
 Ct Tryz.prog 25 [d.v (A, c)] [] [.rd A (u8s d.b)] d.own.v (fun x => [d.own.row x]) (fun _ => []) := by
 have hl : d.own.b.length ≤ d.b.length := by simp [Dk.own]; omega
 refine Ct.of _ Tryz.func25 Tryz.ntmps25 rfl rfl (fun X W => ?_)
 refine Jc.qs<|Jc.qr ?_
 refine Jl.box rfl (by rfl) ?_
 intro b1
 refine Jl.alloc tze27 ?_
 intro b2
 refine Jl.qn<|Jq.qt<|Jc.qs<|Jc.qr<|Jl.pv (PR.qf rfl tfl27_2) ?_
 refine Jl.pv (PR.load1 rfl tsh3 zH (by rfl)) ?_
 refine Jl.pv (PR.max2 _ rfl rfl rfl) ?_
 refine Jl.pv (PR.min2 d.room rfl rfl rfl) ?_
 refine Jl.pv (PR.qa rfl)<|Jl.qn<|Jq.qt<|Jc.qs<|Jc.qr ?_
 refine Jl.buildSlice (by rfl) tsl25 tzr25_0 (by rfl) (by rfl) ?_
 intro b9
 refine Jl.pv (PR.qf rfl tfl27_0) ?_
 refine Jl.pv (PR.load1 rfl tsh25 zH (by rfl)) ?_
 refine Jl.pv (PR.qf rfl tfl27_0) ?_
 refine Jl.pv (PR.load1 rfl tsh25 zH (by rfl)) ?_
 refine Jl.pv (PR.len rfl tsl25) ?_
 refine Jl.pv (PR.qm rfl) ?_
 refine Jl.pv (PR.min2 d.own.b.length rfl rfl (by simp [Dk.own, Dk.room]; omega)) ?_
 refine Jl.slice 0 d.own.b.length d.own.b.length (u8s d.own.b) rfl tsl25 rfl rfl zM (by omega) hl hc rfl (by simp [Dk.own, u8s, List.map_take]) ?_
 intro A17 c17 hc17
 clear hc17
 refine Jl.toRow 1 0 zS (by rfl) (by rfl) ?_
 refine Jl.append d.own.b.length (u8s d.own.b) rfl rfl rfl tsl25 tze5 (by rfl) (by decide) tby5 (fun _ _ => zS) zM (by omega) rfl (by simp [u8s]) (u8s_one _) (by omega) (by decide) ?_
 intro A18 c18
 refine Jl.pv (PR.qa rfl)<|Jl.qn<|Jq.qt<|Jc.qs<|Jc.qr<|Jl.pv (PR.qm rfl)<|Jl.pv (PR.qf rfl tfl27_1) ?_
 refine Jl.pv (PR.load1 rfl tsh3 zH (by rfl)) ?_
 refine Jl.pv (PR.max2 _ rfl rfl rfl) ?_
 refine Jl.pv (PR.qm rfl) ?_
 refine Jl.pv (PR.len rfl tsl25) ?_
 refine Jl.pv (PR.min2 d.own.s rfl rfl rfl) ?_
 refine Jl.pv (PR.qm rfl) ?_
 refine Jl.pv (PR.build (by rfl) tze27 tpl27_0_1_2 (by rfl)) ?_
 refine Jl.storeW rfl tsh27 rfl (by rfl) (by simp [Value.oneCell']) zS (by rfl) ?_
 refine Jl.qn<|Jq.qt<|Jc.ret ?_
 exact Jq.fin (A18, c18) (.inl rfl) rfl (RetVs.cellA rfl zH tsh27 (by rfl) RetVs.nil) rfl zT zF
theorem rnew_ct (room : Int) : Ct Tryz.prog 10 [.int .i64 room] [] [] (Dk.new room).v (fun x => [(Dk.new room).row x]) (fun _ => []) := by
 rw [← new_own]
 refine Ct.of _ Tryz.func10 Tryz.ntmps10 rfl rfl (fun X W => ?_)
 refine Jc.qs<|Jc.qr ?_
 refine Jl.alloc tze27 ?_
 intro b2
 refine Jl.qn<|Jq.qt<|Jc.qs<|Jc.qr<|Jl.pv (PR.qm rfl) ?_
 refine Jl.pv (PR.build (by rfl) tze27 tpl27_2 (by rfl)) ?_
 refine Jl.fact0 (.rd none (u8s (⟨[], 0, room⟩ : Dk).b)) (fun X W => Fact.rd_nil none X W) ?_
 refine Jl.call (rown_ct none 0 ⟨[], 0, room⟩ (by simp) (by simp)) en25 (by rfl) zT zF ?_
 rintro ⟨A5, c5⟩
 refine Jl.storeW rfl tsh27 rfl (by rfl) (by simp [Value.oneCell']) zS (by rfl) ?_
 refine Jl.qn<|Jq.qt<|Jc.ret ?_
 exact Jq.fin (A5, c5) (.inl rfl) rfl (RetVs.cellA rfl zH tsh27 (by rfl) RetVs.nil) rfl zT zF
theorem rfree_ct (A : Option Addr) (c : Nat) (d : Dk) (hn : d.b.length ≤ 500000) (hc : d.b.length ≤ c) : Ct Tryz.prog 19 [d.v (A, c)] [] [.rd A (u8s d.b)] (fun _ : Unit => .int .i64 (d.own.r - d.own.b.length)) (fun _ => []) (fun _ => []) := by
 have hl : d.own.b.length ≤ d.b.length := by simp [Dk.own]; omega
 have hr : 0 ≤ d.own.r ∧ d.own.r ≤ 65536 := by have := d.own_fit; omega
 refine Ct.of _ Tryz.func19 Tryz.ntmps19 rfl rfl (fun X W => ?_)
 refine Jc.qs<|Jc.qr ?_
 refine Jl.box rfl (by rfl) ?_
 intro b1
 refine Jl.pv (PR.qa rfl)<|Jl.qn<|Jq.qt<|Jc.qs<|Jc.qr ?_
 refine Jl.pv (PR.loadW rfl tsh27 zH (by rfl)) ?_
 refine Jl.call (rown_ct A c d hn hc) en25 (by rfl) zT zF ?_
 rintro ⟨A4, c4⟩
 refine Jl.storeW rfl tsh27 rfl (by rfl) (by simp [Value.oneCell']) zS (by rfl) ?_
 refine Jl.qn<|Jq.qt<|Jc.qs<|Jc.qr<|Jl.pv (PR.qf rfl tfl27_2) ?_
 refine Jl.pv (PR.load1 rfl tsh3 zH (by rfl)) ?_
 refine Jl.pv (PR.qf rfl tfl27_0) ?_
 refine Jl.pv (PR.load1 rfl tsh25 zH (by rfl)) ?_
 refine Jl.pv (PR.len rfl tsl25) ?_
 refine Jl.pv (PR.sub (d.own.r - d.own.b.length) rfl rfl (w64 (by omega) (by omega))) ?_
 refine Jl.pv (PR.qa rfl)<|Jl.qn<|Jq.qt<|Jc.ret ?_
 exact Jq.fin () (.inl rfl) rfl (RetVs.tmp rfl RetVs.nil) rfl zT zF
theorem rsame_ct (A B : Option Addr) (c c' : Nat) (d d' : Dk) (hn : d.b.length ≤ 500000) (hn' : d'.b.length ≤ 500000) (hc : d.b.length ≤ c) (hc' : d'.b.length ≤ c') :
 Ct Tryz.prog 18 [d.v (A, c), d'.v (B, c')] [] [.rd A (u8s d.b), .rd B (u8s d'.b)] (fun _ : Unit => .bool (decide (d.own.b = d'.own.b ∧ d.own.s = d'.own.s ∧ d.own.r = d'.own.r))) (fun _ => []) (fun _ => []) := by
 refine Ct.of _ Tryz.func18 Tryz.ntmps18 rfl rfl (fun X W => ?_)
 refine Jc.qs<|Jc.qr ?_
 refine Jl.box rfl (by rfl) ?_
 intro b2
 refine Jl.box rfl (by rfl) ?_
 intro b3
 refine Jl.pv (PR.qa rfl)<|Jl.qn<|Jq.qt<|Jc.qs ?_
 refine Jc.drawn [0, 1, 0, 7, 15, 31] ([], []) [⟨[(0, false), (2, false)], [], 1⟩, ⟨[], [], 3⟩, ⟨[], [], 4⟩, ⟨[], [], 5⟩] tmx (by kernel_rfl) ?_
 refine Dh.JH.cons ?_
 refine Dh.JB.rd [.blk _ _ _] rfl trivial zT (fun _ => PR.loadW rfl tsh27 Has.here (by rfl)) ?_
 refine Dh.JB.rd [.blk _ _ _] rfl trivial zT (fun _ => PR.loadW rfl tsh27 Has.here (by rfl)) ?_
 refine Dh.JB.nil<|Dh.JL.nil ?_
 refine Dh.JE.mk rfl (fun _ h => by cases h) (fun C1_1 => ?_)
 refine Jl.call (rown_ct A c d hn hc) en25 (by rfl) zT zF ?_
 rintro ⟨A6, c6⟩
 refine Jl.qn ?_
 refine Dh.Jq.segV zX ?_ zK
 refine Dh.JH.cons<|Dh.JB.nil<|Dh.JL.nil ?_
 refine Dh.JE.mk rfl (fun _ h => by cases h) (fun C1_3 => ?_)
 refine Jl.call (rown_ct B c' d' hn' hc') en25 (by rfl) zT zF ?_
 rintro ⟨A8, c8⟩
 refine Jl.qn ?_
 refine Dh.Jq.segV zX ?_ zK
 refine Dh.JH.cons<|Dh.JB.nil<|Dh.JL.nil ?_
 refine Dh.JE.mk rfl (fun _ h => by cases h) (fun C1_4 => ?_)
 refine Jl.storeW rfl tsh27 rfl (by rfl) (by simp [Value.oneCell']) zS (by rfl) ?_
 refine Jl.qn ?_
 refine Dh.Jq.segN zX ?_ zK
 refine Dh.JH.cons<|Dh.JB.nil<|Dh.JL.nil ?_
 refine Dh.JE.mk rfl (fun _ h => by cases h) (fun C1_5 => ?_)
 refine Jl.storeW rfl tsh27 rfl (by rfl) (by simp [Value.oneCell']) zS (by rfl) ?_
 refine Jl.qn ?_
 refine Dh.Jq.segN zX ?_ zK
 refine Dh.JH.nil ?_
 refine Dh.JB.nil<|Dh.JL.nil<|Jq.qt<|Jc.qs<|Jc.qr ?_
 refine Jl.sealR zD ?_
 refine Jl.sealR zD ?_
 refine Jl.pv (PR.qf rfl tfl27_0) ?_
 refine Jl.pv (PR.load1 rfl tsh25 zH (by rfl)) ?_
 refine Jl.pv (PR.str rfl Tryz.underlying25 Tryz.underlying5 Tryz.underlying9 zM rfl) ?_
 refine Jl.pv (PR.qf rfl tfl27_0) ?_
 refine Jl.pv (PR.load1 rfl tsh25 zH (by rfl)) ?_
 refine Jl.pv (PR.str rfl Tryz.underlying25 Tryz.underlying5 Tryz.underlying9 zM rfl) ?_
 refine Jl.pv (PR.seql _ rfl rfl rfl) ?_
 refine Jl.pv (PR.qm rfl) ?_
 refine Jl.bsplit (fun g16 => ?_) (fun g16 => ?_)
 · try replace g16 := zV g16
   replace g16 : d.own.b = d'.own.b := by simpa using g16
   refine Jl.on rfl rfl<|Jl.pv (PR.qf rfl tfl27_1)<|Jl.on rfl rfl ?_
   refine Jl.pv (PR.load1 rfl tsh3 zH (by rfl)) ?_
   refine Jl.on rfl rfl<|Jl.pv (PR.qf rfl tfl27_1)<|Jl.on rfl rfl ?_
   refine Jl.pv (PR.load1 rfl tsh3 zH (by rfl)) ?_
   refine Jl.on rfl rfl ?_
   refine Jl.pv (PR.eql _ rfl rfl rfl) ?_
   refine Jl.pv (PR.pickT rfl rfl)<|Jl.pv (PR.qm rfl) ?_
   refine Jl.bsplit (fun g23 => ?_) (fun g23 => ?_)
   · try replace g23 := zV g23
     refine Jl.on rfl rfl<|Jl.pv (PR.qf rfl tfl27_2)<|Jl.on rfl rfl ?_
     refine Jl.pv (PR.load1 rfl tsh3 zH (by rfl)) ?_
     refine Jl.on rfl rfl<|Jl.pv (PR.qf rfl tfl27_2)<|Jl.on rfl rfl ?_
     refine Jl.pv (PR.load1 rfl tsh3 zH (by rfl)) ?_
     refine Jl.on rfl rfl ?_
     refine Jl.pv (PR.eql _ rfl rfl rfl) ?_
     refine Jl.pv (PR.pickT rfl rfl)<|Jl.pv (PR.qa rfl)<|Jl.qn<|Jq.qt<|Jc.ret ?_
     exact Jq.fin () (.inl rfl) rfl (RetVs.tmp rfl RetVs.nil) (by simp [retval, g23, g16]) zT zF
   try replace g23 := zW g23
   refine Jl.qo rfl rfl rfl<|Jl.qo rfl rfl rfl<|Jl.qo rfl rfl rfl<|Jl.qo rfl rfl rfl<|Jl.qo rfl rfl rfl<|Jl.pv (PR.pickF rfl rfl)<|Jl.pv (PR.qa rfl)<|Jl.qn<|Jq.qt<|Jc.ret ?_
   exact Jq.fin () (.inl rfl) rfl (RetVs.tmp rfl RetVs.nil) (by simp [retval, g23]) zT zF
 try replace g16 := zW g16
 refine Jl.qo rfl rfl rfl<|Jl.qo rfl rfl rfl<|Jl.qo rfl rfl rfl<|Jl.qo rfl rfl rfl<|Jl.qo rfl rfl rfl<|Jl.pv (PR.pickF rfl rfl)<|Jl.pv (PR.qm rfl)<|Jl.qo rfl rfl rfl<|Jl.qo rfl rfl rfl<|Jl.qo rfl rfl rfl<|Jl.qo rfl rfl rfl<|Jl.qo rfl rfl rfl<|Jl.pv (PR.pickF rfl rfl)<|Jl.pv (PR.qa rfl)<|Jl.qn<|Jq.qt<|Jc.ret ?_
 have h16 : ¬ d.own.b = d'.own.b := by simpa using g16
 exact Jq.fin () (.inl rfl) rfl (RetVs.tmp rfl RetVs.nil) (by simp [retval, h16]) zT zF
end Go.Proofs.YtakbgccddokbbaaGreatDoor
namespace Go.Proofs.YtakbgccddokbbaaGreatDoor
open Go.RowKit
abbrev RwT := TypeId × Nat × (Option Addr × Nat) × Nat × List Value
def RwT.res (r : RwT) : Res := .row r.1 r.2.1 (.slice r.2.2.1.1 r.2.2.2.1 r.2.2.1.2) r.2.2.2.1 r.2.2.2.2
theorem del_of_mem {q : Res} : ∀ {l : List Res}, q ∈ l → ∃ R', Del q l R'
  | x :: l, h => by
    rcases List.mem_cons.1 h with rfl | h
    · exact ⟨_, Del.here⟩
    · obtain ⟨R', h⟩ := del_of_mem h
      exact ⟨_, Del.there h⟩
theorem Ct.young {P : Program} {f : FuncId} {args : List Value} {pre : List Fact} {α : Type} {res : α → Value} {Rout : α → List Res} {post : α → List Fact} (rw : α → List RwT) (h : Ct P f args [] pre res Rout post) (hr : ∀ x, Rout x = (rw x).map RwT.res) (q : α → Prop) (hq : ∀ x, (∀ r ∈ rw x, r.2.2.2.1 ≤ r.2.2.1.2) → q x) :
 CtY P f args [] pre res (fun _ => []) (fun x => [.is (q x)]) (fun x => (rw x).map fun r => .rd r.2.2.1.1 r.2.2.2.2) := fun X W hX hs hp => by
 refine Calls.mono (h X W hX hs hp) ?_
 rintro e W' ⟨x, h1, h2, h3, h4, _⟩
 have key : ∀ r ∈ rw x, (RwT.res r).says W' ∧ ∀ b, (RwT.res r).own b → W.heap.size ≤ b := fun r hr' => by
  obtain ⟨R', hd⟩ := del_of_mem (l := Rout x) (q := RwT.res r) (by rw [hr]; exact List.mem_map.2 ⟨r, hr', rfl⟩)
  exact ⟨(hd.sep h3).1, fun b hb => (h4 b ((hd.own b).2 (.inl hb))).resolve_left fun h => h⟩
 refine ⟨x, h1, h2, trivial, fun b hb => hb.elim, fun φ hφ => ?_, fun φ hφ => ?_⟩
 · rw [List.mem_singleton.1 hφ]
   show q x
   refine hq x fun w hw => ?_
   exact row_cap (A := w.2.2.1.1) (cap := w.2.2.1.2) (m := w.2.2.2.1) (xs := w.2.2.2.2) (s := w.2.1) (e := w.1) (key w hw).1
 · obtain ⟨w, hw⟩ := List.mem_map.1 hφ
   have h6 := key w hw.1
   rw [← hw.2]
   refine rd_of_row h6.1 fun b hb hX' => ?_
   have := h6.2 b hb
   rcases hX' with hX' | hX'
   · omega
   · exact hX'.elim
theorem Mem.app {φ : Fact} {l : List Fact} (h : Mem φ l) : ∀ k : List Fact, Mem φ (k ++ l)
 | [] => h
 | _ :: k => Mem.there (Mem.app h k)
theorem Jl.fact2' {P : Program} {r : Option Nat} {C : Cx} {n : Nat × List Nat} {ops : Array Oper} {Q : Exit → Act → World → Prop} {rest : List Oper} {env : List (Nat × Value)} {R : List Res} {Φ : List Fact} {φ ψ : Fact} (χ : Fact) (hm : Mem φ Φ) (hm2 : Mem ψ Φ) (h : ∀ X W, φ.p X W → ψ.p X W → χ.p X W) (k : Jl P r C n ops Q rest env R (χ :: Φ)) : Jl P r C n ops Q rest env R Φ := fun a W h1 h2 => k a W h1 (h2.add (h _ _ (h2.fact hm) (h2.fact hm2)))
end Go.Proofs.YtakbgccddokbbaaGreatDoor
namespace Go.Proofs.YtakbgccddokbbaaGreatDoor
open Go.RowKit
def recB (r : Rc) : List UInt8 := frameB r.bytes
def recsB (l : List Rc) : List UInt8 := l.flatMap recB
theorem recsB_app (l m : List Rc) : recsB (l ++ m) = recsB l ++ recsB m := List.flatMap_append
theorem recB_len (r : Rc) : (recB r).length ≤ 1014 := by
 have h1 := bytes_le (r := r)
 have h2 := putB_len (r.bytes.length : Int)
 simp [recB, frameB, sumB]; omega
theorem recsB_len : ∀ l : List Rc, (recsB l).length ≤ 1014 * l.length
  | [] => by simp [recsB]
  | r :: l => by
    have := recsB_len l
    have h2 := recB_len r
    simp only [recsB, List.flatMap_cons, List.length_append, List.length_cons] at this ⊢
    omega
def cutR (b : List UInt8) : Option (Rc × List UInt8) := match cutF b with
 | none => none
 | some (p, r) => if rcE p = 0 then some (rcOf p, r) else none
theorem cutR_put {r : Rc} (h : r.ok = true) (q : List UInt8) : cutR (recB r ++ q) = some (r, q) := by
 have h1 := bytes_le (r := r)
 rw [cutR, recB, cutF_put (by omega)]
 simp only
 rw [(rcOf_bytes h).2, (rcOf_bytes h).1]; rfl
theorem cutR_only {b q : List UInt8} {r : Rc} (h : cutR b = some (r, q)) : b = recB r ++ q ∧ r.ok = true := by
  unfold cutR at h
  cases hc : cutF b with
  | none => rw [hc] at h; cases h
  | some t =>
    obtain ⟨p, s⟩ := t
    rw [hc] at h
    simp only at h
    split at h
    · rename_i he
      simp only [Option.some.injEq, Prod.mk.injEq] at h
      obtain ⟨h1, h2⟩ := h
      subst h1 h2
      obtain ⟨e1, e2⟩ := rc_only he
      exact ⟨by rw [recB, e2]; exact (cutF_only hc).1, e1⟩
    · cases h
theorem cutR_len {b q : List UInt8} {r : Rc} (h : cutR b = some (r, q)) : q.length + 4 ≤ b.length := by
  unfold cutR at h
  cases hc : cutF b with
  | none => rw [hc] at h; cases h
  | some t =>
    obtain ⟨p, s⟩ := t
    rw [hc] at h
    simp only at h
    split at h
    · simp only [Option.some.injEq, Prod.mk.injEq] at h
      obtain ⟨_, h2⟩ := h
      subst h2
      have := (cutF_len hc).1
      omega
    · cases h
def scanF : Nat → List UInt8 → List (Rc × List UInt8)
  | 0, _ => []
  | f + 1, b => match cutR b with
    | none => []
    | some (p, r) => (p, r) :: scanF f r
theorem cutR_nil : cutR [] = none := by decide
theorem scanF_fuel : ∀ f g b, b.length ≤ f → b.length ≤ g → scanF f b = scanF g b
  | 0, 0, _, _, _ => rfl
  | 0, g + 1, b, h, _ => by
    have hb : b = [] := List.eq_nil_of_length_eq_zero (by omega)
    subst hb
    simp [scanF, cutR_nil]
  | f + 1, 0, b, _, h => by
    have hb : b = [] := List.eq_nil_of_length_eq_zero (by omega)
    subst hb
    simp [scanF, cutR_nil]
  | f + 1, g + 1, b, hf, hg => by
    unfold scanF
    cases hc : cutR b with
    | none => rfl
    | some pr =>
      obtain ⟨p, r⟩ := pr
      have := cutR_len hc
      simp only
      rw [scanF_fuel f g r (by omega) (by omega)]
def scanN (b : List UInt8) : List (Rc × List UInt8) := scanF b.length b
theorem scanN_none {b : List UInt8} (h : cutR b = none) : scanN b = [] := by
 unfold scanN
 cases hb : b.length with
 | zero => rfl
 | succ f => simp [scanF, h]
theorem scanN_some {b r : List UInt8} {p : Rc} (h : cutR b = some (p, r)) : scanN b = (p, r) :: scanN r := by
 have hl := cutR_len h
 unfold scanN
 cases hb : b.length with
 | zero => omega
 | succ f => simp only [scanF, h]; rw [scanF_fuel f r.length r (by omega) (Nat.le_refl _)]
structure ScI (b : List UInt8) (k : Nat) (r : List UInt8) : Prop where
 le : r.length ≤ b.length
 eq : (scanN b).drop k = scanN r
 kle : k ≤ (scanN b).length
 suf : b.drop (b.length - r.length) = r
theorem ScI.zero (b : List UInt8) : ScI b 0 b := ⟨Nat.le_refl _, rfl, Nat.zero_le _, by simp⟩
theorem ScI.stop {b r : List UInt8} {k : Nat} (h : ScI b k r) (hc : cutR r = none) : k = (scanN b).length := by
 have h1 := h.eq
 rw [scanN_none hc] at h1
 have := List.drop_eq_nil_iff.1 h1
 have := h.kle
 omega
theorem ScI.next {b r r' : List UInt8} {p : Rc} {k : Nat} (h : ScI b k r) (hc : cutR r = some (p, r')) : k < (scanN b).length ∧ (scanN b)[k]? = some (p, r') ∧ ScI b (k + 1) r' := by
 have h1 := h.eq
 rw [scanN_some hc] at h1
 have hg : (scanN b)[k]? = some (p, r') := by
  have := congrArg (·[0]?) h1
  simpa using this
 have hk := (List.getElem?_eq_some_iff.1 hg).1
 have h4 := cutR_len hc
 have h5 := h.le
 refine ⟨hk, hg, by omega, ?_, hk, ?_⟩
 · have := congrArg (List.drop 1) h1
   simpa [Nat.add_comm] using this
 · have e := (cutR_only hc).1
   have h6 := h.suf
   have h7 : r.drop (r.length - r'.length) = r' := by
    have : r.length - r'.length = (recB p).length := by rw [e]; simp
    rw [this]; conv => lhs; rw [e]
    exact List.drop_left
   have h9 : b.drop ((b.length - r.length) + (r.length - r'.length)) = r' := by rw [← List.drop_drop, h6]; exact h7
   rw [show b.length - r'.length = (b.length - r.length) + (r.length - r'.length) by omega]
   exact h9
def scanAt (b : List UInt8) (k : Nat) : Rc × List UInt8 := ((scanN b)[k]?).getD (Rc.zero, [])
theorem scanAt_eq {b r : List UInt8} {p : Rc} {k : Nat} (h : (scanN b)[k]? = some (p, r)) : scanAt b k = (p, r) := by simp [scanAt, h]
def logN (b : List UInt8) : List Rc := (scanN b).map (·.1)
def usedL (b : List UInt8) (k : Nat) : Nat := if k = 0 then 0 else b.length - (scanAt b (k - 1)).2.length
def logU (b : List UInt8) : Nat := usedL b (scanN b).length
theorem logN_none {b : List UInt8} (h : cutR b = none) : logN b = [] ∧ logU b = 0 := by
 rw [logN, logU, scanN_none h]; exact ⟨rfl, rfl⟩
theorem scanN_le : ∀ (f : Nat) (b : List UInt8), b.length ≤ f → 4 * (scanN b).length ≤ b.length := by
  intro f
  induction f with
  | zero =>
    intro b hb
    have : b = [] := List.eq_nil_of_length_eq_zero (by omega)
    subst this
    rw [scanN_none cutR_nil]; simp
  | succ f ih =>
    intro b hb
    cases hc : cutR b with
    | none => rw [scanN_none hc]; simp
    | some t =>
      obtain ⟨p, r⟩ := t
      have := cutR_len hc
      rw [scanN_some hc, List.length_cons]
      have := ih r (by omega)
      omega
theorem scanN_len (b : List UInt8) : 4 * (scanN b).length ≤ b.length := scanN_le _ _ (Nat.le_refl _)
theorem log_split : ∀ (f : Nat) (b : List UInt8), b.length ≤ f → ∃ t, b = recsB (logN b) ++ t ∧ cutR t = none ∧ (∀ r ∈ logN b, r.ok = true) ∧ logU b = (recsB (logN b)).length := by
  intro f
  induction f with
  | zero =>
    intro b hb
    have : b = [] := List.eq_nil_of_length_eq_zero (by omega)
    subst this
    obtain ⟨h1, h2⟩ := logN_none cutR_nil
    exact ⟨[], by rw [h1]; rfl, cutR_nil, by rw [h1]; simp, by rw [h1, h2]; rfl⟩
  | succ f ih =>
    intro b hb
    cases hc : cutR b with
    | none =>
      obtain ⟨h1, h2⟩ := logN_none hc
      exact ⟨b, by rw [h1]; rfl, hc, by rw [h1]; simp, by rw [h1, h2]; rfl⟩
    | some t =>
      obtain ⟨p, r⟩ := t
      have hl := cutR_len hc
      obtain ⟨e1, e2⟩ := cutR_only hc
      obtain ⟨t, q1, q2, q3, q4⟩ := ih r (by omega)
      have hn : logN b = p :: logN r := by rw [logN, scanN_some hc]; rfl
      refine ⟨t, ?_, q2, ?_, ?_⟩
      · rw [hn]
        conv => lhs; rw [e1, q1]
        simp [recsB]
      · rw [hn]; intro x hx
        rcases List.mem_cons.1 hx with rfl | hx
        · exact e2
        · exact q3 x hx
      · have h5 : b.length = (recB p).length + r.length := by conv => lhs; rw [e1]; simp
        have h6 : logU b = (recB p).length + logU r := by
          rw [logU, logU, scanN_some hc, List.length_cons, usedL, if_neg (by omega), Nat.add_sub_cancel]
          cases hs : scanN r with
          | nil =>
            have : scanAt b 0 = (p, r) := by simp [scanAt, scanN_some hc]
            rw [List.length_nil, this, usedL, if_pos rfl]; simp only; omega
          | cons x xs =>
            have h7 : scanAt b (x :: xs).length = scanAt r ((x :: xs).length - 1) := by
              simp [scanAt, scanN_some hc, hs]
            rw [h7, usedL, if_neg (by simp)]
            have h8 : (scanAt r ((x :: xs).length - 1)).2.length ≤ r.length := by
              have := ScI_len r _ (show (x :: xs).length - 1 < (scanN r).length by rw [hs]; simp)
              exact this
            omega
        rw [h6, q4, hn]
        simp [recsB]
where
  ScI_len (b : List UInt8) (k : Nat) (h : k < (scanN b).length) : (scanAt b k).2.length ≤ b.length := by
    have key : ∀ f b, ∀ z ∈ scanF f b, z.2.length ≤ b.length := by
      intro f
      induction f with
      | zero => intro b z hz; simp [scanF] at hz
      | succ f ih =>
        intro b z hz
        unfold scanF at hz
        cases hc : cutR b with
        | none => rw [hc] at hz; simp at hz
        | some pr =>
          obtain ⟨p, r⟩ := pr
          rw [hc] at hz
          have h1 := cutR_len hc
          rcases List.mem_cons.1 hz with rfl | hz
          · simp only; omega
          · have := ih r z hz; omega
    have : scanAt b k = (scanN b)[k] := by simp [scanAt, h]
    rw [this]
    exact key _ _ _ (List.getElem_mem h)
theorem scanAt_len {b : List UInt8} {k : Nat} (h : k < (scanN b).length) : (scanAt b k).2.length ≤ b.length := log_split.ScI_len b k h
theorem log_ok (b : List UInt8) : ∀ r ∈ logN b, r.ok = true := by
 obtain ⟨_, _, _, h, _⟩ := log_split _ b (Nat.le_refl _); exact h
theorem log_take (b : List UInt8) : b.take (logU b) = recsB (logN b) := by
 obtain ⟨t, h1, _, _, h4⟩ := log_split _ b (Nat.le_refl _)
 have e : (recsB (logN b) ++ t).take (recsB (logN b)).length = recsB (logN b) := List.take_left
 rw [← h1] at e
 rw [h4]; exact e
theorem logU_le (b : List UInt8) : logU b ≤ b.length := by
 obtain ⟨t, h1, _, _, h4⟩ := log_split _ b (Nat.le_refl _)
 rw [h4]; conv => rhs; rw [h1]
 simp
theorem log_put : ∀ {l : List Rc}, (∀ r ∈ l, r.ok = true) → ∀ q, logN (recsB l ++ q) = l ++ logN q
  | [], _, q => rfl
  | r :: l, h, q => by
    have e : recsB (r :: l) ++ q = recB r ++ (recsB l ++ q) := by simp [recsB]
    rw [e, logN, scanN_some (cutR_put (h r List.mem_cons_self) _), List.map_cons]
    have := log_put (l := l) (fun x hx => h x (List.mem_cons_of_mem _ hx)) q
    rw [logN] at this
    rw [this]; rfl
theorem log_put0 {l : List Rc} (h : ∀ r ∈ l, r.ok = true) : logN (recsB l) = l := by
 have := log_put h []
 rw [List.append_nil, (logN_none cutR_nil).1, List.append_nil] at this
 exact this
theorem usedL_succ (b : List UInt8) (k : Nat) : usedL b (k + 1) = b.length - (scanAt b k).2.length := by simp [usedL]
theorem logN_take {b r : List UInt8} {p : Rc} {k : Nat} (h : scanAt b k = (p, r)) (hk : k < (scanN b).length) : (logN b).take (k + 1) = (logN b).take k ++ [p] := by
 have hl : k < (logN b).length := by simpa [logN] using hk
 rw [List.take_succ_eq_append_getElem hl]
 congr 1
 simp [logN]
 have : scanAt b k = (scanN b)[k] := by simp [scanAt, hk]
 rw [← this, h]
end Go.Proofs.YtakbgccddokbbaaGreatDoor
namespace Go.Proofs.YtakbgccddokbbaaGreatDoor
open Go.RowKit
attribute [local irreducible] Res.blk Res.row Fact.rd
theorem Fact.many_old (m : Nat → AdC) : (Fact.many m).Old := fun X X' W W' h h1 h2 h3 => ⟨Fact.rd_old _ _ X X' W W' h.1 h1 h2 h3, fun i a b => Fact.rd_old _ _ X X' W W' (h.2 i a b) h1 h2 h3⟩
theorem ftake_y (A : Option Addr) (c : Nat) (b : List UInt8) (hn : b.length ≤ 1000000) (hc : b.length ≤ c) :
 CtY Tryz.prog 106 [.slice A b.length c] [] [.rd A (u8s b)] (fun x : OA × OA => .tuple #[.slice x.1.1 (takeF b).1.length x.1.2, .slice x.2.1 (takeF b).2.1.length x.2.2, .int .i64 (takeF b).2.2]) (fun _ => [])
  (fun x => [.is ((takeF b).1.length ≤ x.1.2 ∧ (takeF b).2.1.length ≤ x.2.2)]) (fun x => [.rd x.1.1 (u8s (takeF b).1), .rd x.2.1 (u8s (takeF b).2.1)]) :=
 Ct.young (fun x => [(5, 1, x.1, (takeF b).1.length, u8s (takeF b).1), (5, 1, x.2, (takeF b).2.1.length, u8s (takeF b).2.1)]) (ftake_ct A c b hn hc) (fun _ => rfl) _ (fun x h => ⟨h _ (List.mem_cons_self ..), h _ (List.mem_cons_of_mem _ (List.mem_cons_self ..))⟩)
theorem rtake_y (A : Option Addr) (cA : Nat) (b : List UInt8) (m : Nat → AdC) (hn : b.length ≤ 1000000) (hc : b.length ≤ cA) :
 CtY Tryz.prog 107 [.slice A b.length cA] [] [.rd A (u8s b), .many m] (fun x : AdC => .tuple #[(rcOf b).v x, .int .i64 (rcE b)]) (fun _ => [])
  (fun x => [.is ((rcOf b).l.length ≤ x.2)]) (fun x => [.rd x.1 (i64s (rcOf b).l)]) :=
 Ct.young (fun x => [(3, 1, x, (rcOf b).l.length, i64s (rcOf b).l)]) (take1_ct A cA b m hn hc) (fun _ => rfl) _ (fun x h => h _ (List.mem_cons_self ..))
theorem takeF_no {b : List UInt8} (h : (takeF b).2.2 ≠ 0) : cutF b = none := by
 cases hc : cutF b with
 | none => rfl
 | some t => obtain ⟨p, r⟩ := t; rw [takeF, hc] at h; exact absurd rfl h
theorem takeF_yes {b : List UInt8} (h : (takeF b).2.2 = 0) : cutF b = some ((takeF b).1, (takeF b).2.1) := by
 cases hc : cutF b with
 | none => rw [takeF, hc] at h; cases h
 | some t => obtain ⟨p, r⟩ := t; rw [takeF, hc]
def svals (b : List UInt8) (k : Nat) (y : AdC) : List Value := [.int .i64 ((b.length : Int) - ((scanAt b k).2.length : Nat)), (scanAt b k).1.v y]
def sposts (b : List UInt8) (k : Nat) (y : AdC) : List Fact := [.rd y.1 (i64s (scanAt b k).1.l), .is ((scanAt b k).1.l.length ≤ y.2)]
theorem sposts_in {b : List UInt8} {k : Nat} {r : Rc} {q : List UInt8} {A : Option Addr} {c : Nat} {G H : Fact} {Φ1 Φ2 : List Fact} (h : scanAt b k = (r, q)) : ∀ φ ∈ sposts b k (A, c), φ ∈ [G, H, .rd A (i64s r.l), .is (r.l.length ≤ c)] ++ Φ1 ++ Φ2 := by
 intro φ hφ
 simp only [sposts, h, List.mem_cons, List.not_mem_nil, or_false] at hφ
 rcases hφ with rfl | rfl <;> simp
structure SS (b : List UInt8) where
 k : Nat
 r : List UInt8
 A : Option Addr
 c : Nat
 m : Nat
 Φk : List Fact
 hI : ScI b k r
 hc : r.length ≤ c
theorem scanned1_it (A : Option Addr) (c : Nat) (b : List UInt8) (mm : Nat → AdC) (hn : b.length ≤ 1000000) (hc : b.length ≤ c) (b0 : Nat) :
 ItY Tryz.prog 105 [.pointer (some ⟨b0, 0, none⟩)] [.blk b0 25 [.slice A b.length c]] [.rd A (u8s b), .many mm] (scanN b).length (svals b) (sposts b) := by
 refine ItY.of _ Tryz.func105 Tryz.ntmps105 rfl rfl (by rfl) (by simp only [List.mem_cons, List.not_mem_nil, or_false]; rintro φ (rfl | rfl); exact Fact.rd_old _ _; exact Fact.many_old _) (fun W l cl clx hy => ?_)
 refine Jc.scope (σ := SS b) (fun s => [(0, .func (.yield l) #[] #[]), (1, .pointer (some ⟨b0, 0, none⟩)), (3, .slice s.A s.r.length s.c)]) (fun s => [.blk b0 25 [.slice A b.length c]]) (fun s => [cl s.k s.m s.Φk, .sz s.m, .rd s.A (u8s s.r), .many mm]) (fun s => s.r.length) (l := 0) rfl ?_ ?_
 · rintro ⟨k, r, Ar, cr, m, Φk, hI, hcr⟩
   show Jc _ _ _ _ _ _ [(0, Value.func (.yield l) #[] #[]), (1, .pointer (some ⟨b0, 0, none⟩)), (3, .slice Ar r.length cr)] [.blk b0 25 [.slice A b.length c]] [cl k m Φk, .sz m, .rd Ar (u8s r), .many mm]
   replace hcr : r.length ≤ cr := hcr
   have hrl := hI.le
   refine Jc.qs<|Jc.qr<|Jl.pv (PR.qm rfl) ?_
   refine Jl.call ((ftake_y Ar cr r (by omega) hcr).at m) en106 (by rfl) zT zF ?_
   rintro ⟨⟨A11, c11⟩, ⟨B11, d11⟩⟩
   refine Jl.pure (p := (takeF r).1.length ≤ c11 ∧ (takeF r).2.1.length ≤ d11) zM (fun _ _ h => h) fun hcap => ?_
   refine Jl.pv (PR.qm rfl) ?_
   refine Jl.pv (PR.extract rfl (by rfl)) ?_
   refine Jl.pv (PR.extract rfl (by rfl)) ?_
   refine Jl.pv (PR.extract rfl (by rfl)) ?_
   refine Jl.pv (PR.qa rfl)<|Jl.pv (PR.qa rfl)<|Jl.pv (PR.qa rfl)<|Jl.qn<|Jq.qt<|Jc.qs<|Jc.qs<|Jc.qr<|Jl.pv (PR.qm rfl) ?_
   refine Jl.pv (PR.neq _ rfl rfl rfl) ?_
   refine Jl.qn<|Jq.qt ?_
   refine Jc.cond rfl (fun h0 => ?_) (fun h0 => ?_)
   · try replace h0 := zV h0
     refine Jc.ret<|Jq.thenR ?_
     refine Jq.jmpR ?_
     rw [hI.stop (by rw [cutR, takeF_no (by simpa using h0)])]; exact Jq.itDoneY (.inl rfl) zM
   try replace h0 := zW h0
   have hcf := takeF_yes (b := r) (by simpa using h0)
   have hfl := cutF_len hcf
   refine Jc.skip<|Jq.qt<|Jc.qs<|Jc.qr<|Jl.pv (PR.qm rfl) ?_
   refine Jl.call ((rtake_y A11 c11 (takeF r).1 mm (by omega) hcap.1).at m) en107 (by rfl) zT zF ?_
   rintro ⟨A19, c19⟩
   refine Jl.pure (φ := .is ((rcOf (takeF r).1).l.length ≤ c19)) (p := (rcOf (takeF r).1).l.length ≤ c19) zM (fun _ _ h => h) fun hc19 => ?_
   refine Jl.fact0 (.yg m (.is ((rcOf (takeF r).1).l.length ≤ c19))) (fun X W => hc19) ?_
   refine Jl.pv (PR.qm rfl) ?_
   refine Jl.pv (PR.extract rfl (by rfl)) ?_
   refine Jl.pv (PR.extract rfl (by rfl)) ?_
   refine Jl.alloc tze54 ?_
   intro b7
   refine Jl.storeW rfl tsh54 rfl (by rfl) (by first | exact rc_one _ _ | simp [Value.oneCell']) zS (by rfl) ?_
   refine Jl.pv (PR.qa rfl)<|Jl.qn<|Jq.qt<|Jc.qs<|Jc.qs<|Jc.qr<|Jl.pv (PR.qm rfl) ?_
   refine Jl.pv (PR.neq _ rfl rfl rfl) ?_
   refine Jl.pv (PR.qm rfl) ?_
   refine Jl.bsplit (fun g24 => ?_) (fun g24 => ?_)
   · try replace g24 := zV g24
     refine Jl.qo rfl rfl rfl<|Jl.qo rfl rfl rfl<|Jl.qo rfl rfl rfl<|Jl.qo rfl rfl rfl<|Jl.qo rfl rfl rfl<|Jl.qo rfl rfl rfl<|Jl.qo rfl rfl rfl<|Jl.qo rfl rfl rfl<|Jl.qo rfl rfl rfl<|Jl.pv (PR.pickT rfl rfl)<|Jl.qn<|Jq.qt<|Jc.condT rfl<|Jc.ret<|Jq.thenR ?_
     refine Jq.jmpR ?_
     rw [hI.stop (by rw [cutR, hcf]; simp only; rw [if_neg (by simpa using g24)])]; exact Jq.itDoneY (.inl rfl) zM
   try replace g24 := zW g24
   have he : rcE (takeF r).1 = 0 := by simpa using g24
   have hcr2 : cutR r = some (rcOf (takeF r).1, (takeF r).2.1) := by rw [cutR, hcf]; simp only; rw [if_pos he]
   obtain ⟨hkN, hfk, hI'⟩ := hI.next hcr2
   have hfa : scanAt b k = (rcOf (takeF r).1, (takeF r).2.1) := scanAt_eq hfk
   refine Jl.on rfl rfl<|Jl.pv (PR.qm rfl)<|Jl.on rfl rfl ?_
   refine Jl.pv (PR.load1 rfl tsh25 zH (by rfl)) ?_
   refine Jl.on rfl rfl ?_
   refine Jl.pv (PR.len rfl tsl25) ?_
   refine Jl.on rfl rfl<|Jl.pv (PR.qm rfl)<|Jl.on rfl rfl ?_
   refine Jl.pv (PR.len rfl tsl25) ?_
   refine Jl.on rfl rfl ?_
   refine Jl.pv (PR.sub ((b.length : Int) - ((takeF r).2.1.length : Nat)) rfl rfl (w64 (by omega) (by omega))) ?_
   refine Jl.on rfl rfl ?_
   refine Jl.pv (PR.loadW rfl tsh54 zH (by rfl)) ?_
   refine Jl.on rfl rfl ?_
   refine hy _ _ _ _ _ _ _ _ _ _ _ _ _ _ k m (A19, c19) Φk [.rd A11 (u8s (takeF r).1), .rd B11 (u8s (takeF r).2.1), .rd A19 (i64s (rcOf (takeF r).1).l), .is ((rcOf (takeF r).1).l.length ≤ c19)] hkN rfl (by show some [_, _] = some (svals b k (A19, c19)); simp only [svals, hfa]; rfl) zM zF (sposts_in hfa) rfl (fun m32 => ?_) ?_
   · refine Jl.on rfl rfl ?_
     refine Jl.pv (PR.not rfl) ?_
     refine Jl.pv (PR.pickF rfl rfl)<|Jl.qn<|Jq.qt<|Jc.condF rfl<|Jc.skip<|Jq.qt<|Jc.qs<|Jc.qr<|Jl.pv (PR.qm rfl)<|Jl.pv (PR.qa rfl)<|Jl.qn<|Jq.qt ?_
     refine Jc.goto ?_
     refine Jq.lessR (rs := [.blk b0 25 [.slice A b.length c]]) zT ?_
     exact Jq.jmpB ⟨k + 1, (takeF r).2.1, B11, d11, m32, [.rd A11 (u8s (takeF r).1), .rd B11 (u8s (takeF r).2.1), .rd A19 (i64s (rcOf (takeF r).1).l), .is ((rcOf (takeF r).1).l.length ≤ c19)] ++ Φk, hI', hcap.2⟩ (by simp only; omega) (by exact ⟨rfl, rfl, rfl, trivial⟩) rfl (by exact ⟨zM, zM, zM, Mem.there (Mem.there (Mem.app (Mem.there Mem.here) _)), trivial⟩)
   refine Jl.on rfl rfl ?_
   refine Jl.pv (PR.not rfl) ?_
   refine Jl.pv (PR.pickF rfl rfl)<|Jl.qn<|Jq.qt<|Jc.condT rfl<|Jc.ret<|Jq.thenR ?_
   refine Jq.jmpR ?_
   exact Jq.itStopY (k := k) (.inl rfl) hkN zM
 intro hfirst0
 refine Jc.qs<|Jc.qr ?_
 refine Jl.pv (PR.load1 rfl tsh25 zH (by rfl)) ?_
 refine Jl.pv (PR.qa rfl)<|Jl.qn<|Jq.qt<|Jc.qs ?_
 refine Jc.label ?_
 refine Jq.qt ?_
 exact Jc.at_ hfirst0 ⟨0, b, A, c, W.heap.size, [], ScI.zero b, hc⟩ (by exact ⟨rfl, rfl, rfl, trivial⟩) rfl (by exact ⟨Mem.here, zM, zM, zM, trivial⟩)
theorem scanned_ct (A : Option Addr) (c n : Nat) : Ct Tryz.prog 77 [.slice A n c] [] [] (fun b : Nat => .func (.func 105) #[] #[.pointer (some ⟨b, 0, none⟩)]) (fun b => [.blk b 25 [.slice A n c]]) (fun _ => []) := by
 refine Ct.of _ Tryz.func77 Tryz.ntmps77 rfl rfl (fun X W => ?_)
 refine Jc.qs<|Jc.qr ?_
 refine Jl.box rfl (by rfl) ?_
 intro b1
 refine Jl.pv (PR.qa rfl)<|Jl.qn<|Jq.qt<|Jc.qs<|Jc.qr ?_
 refine Jl.pv (PR.makeFunc rfl rfl) ?_
 refine Jl.pv (PR.qa rfl)<|Jl.qn<|Jq.qt<|Jc.ret ?_
 exact Jq.fin b1 (.inl rfl) rfl (RetVs.tmp rfl RetVs.nil) rfl zT zF
end Go.Proofs.YtakbgccddokbbaaGreatDoor
namespace Go.Proofs.YtakbgccddokbbaaGreatDoor
open Go.RowKit
attribute [local irreducible] Res.blk Res.row Fact.rd
theorem rcs_snoc {zs : Rcs} {y : AdC} {p : Rc} {X : Nat → Prop} {W : World} (h : (Fact.rcs zs).p X W) (k : (Fact.rd y.1 (i64s p.l)).p X W) : (Fact.rcs (zs ++ [(y, p)])).p X W := fun z hz => by
 rcases List.mem_append.1 hz with hz | hz
 · exact h z hz
 · obtain rfl : z = (y, p) := by simpa using hz
   exact k
def rcsN (zs : Rcs) : List Rc := zs.map (·.2)
structure LS (b : List UInt8) where
 k : Nat
 zs : Rcs
 A : Option Addr
 c : Nat
 hz : rcsN zs = (logN b).take k
 hcz : ∀ z ∈ zs, z.2.l.length ≤ z.1.2
theorem LS.len {b : List UInt8} (s : LS b) (hk : s.k ≤ (scanN b).length) : s.zs.length = s.k := by
 have := congrArg List.length s.hz
 simp [rcsN, logN] at this
 omega
theorem rcsV_snoc (zs : Rcs) (y : AdC) (p : Rc) : rcsV (zs ++ [(y, p)]) = rcsV zs ++ p.cs y := by simp [rcsV]
abbrev RcsOf (l : List Rc) := { zs : Rcs // rcsN zs = l ∧ ∀ z ∈ zs, z.2.l.length ≤ z.1.2 }
theorem caps_snoc {zs : Rcs} {y : AdC} {p : Rc} (h : ∀ z ∈ zs, z.2.l.length ≤ z.1.2) (k : p.l.length ≤ y.2) : ∀ z ∈ zs ++ [(y, p)], z.2.l.length ≤ z.1.2 := fun z hz => by
 rcases List.mem_append.1 hz with hz | hz
 · exact h z hz
 · obtain rfl : z = (y, p) := by simpa using hz
   exact k
theorem RcsOf.len {l : List Rc} (x : RcsOf l) : x.1.length = l.length := by
 have := congrArg List.length x.2.1
 simpa [rcsN] using this
theorem scan_ct (A : Option Addr) (c : Nat) (b : List UInt8) (mm : Nat → AdC) (hn : b.length ≤ 1000000) (hc : b.length ≤ c) :
 Ct Tryz.prog 55 [.slice A b.length c] [] [.rd A (u8s b), .many mm] (fun x : RcsOf (logN b) × AdC => .tuple #[.slice x.2.1 (scanN b).length x.2.2, .int .i64 (logU b)])
  (fun x => [.row 54 2 (.slice x.2.1 (scanN b).length x.2.2) (scanN b).length (rcsV x.1.1)]) (fun x => [.rcs x.1.1]) := by
 have hfl := scanN_len b
 refine Ct.of _ Tryz.func55 Tryz.ntmps55 rfl rfl (fun X W => ?_)
 refine Jc.qs<|Jc.qr ?_
 refine Jl.alloc tze22 ?_
 intro b2
 refine Jl.alloc tze3 ?_
 intro b3
 refine Jl.qn<|Jq.qt<|Jc.qs<|Jc.qs<|Jc.qr<|Jl.pv (PR.qm rfl) ?_
 refine Jl.call (scanned_ct A c b.length) en77 (by rfl) zT zF ?_
 rintro b7
 refine Jl.qn<|Jq.qt ?_
 refine Jc.block ?_
 refine Jc.nilRow 54 2 ?_
 refine Jc.fact0 (.rcs []) (fun X W => by intro z hz; simp at hz) ?_
 refine Jc.rangeY (σ := LS b) (τ := Empty) (Inv := fun k s => s.k = k) (Rs := fun s => [.row 54 2 (.slice s.A s.k s.c) s.k (rcsV s.zs), .blk b3 3 [.int .i64 (usedL b s.k : Nat)], .blk b2 22 [.slice s.A s.k s.c]]) (Φs := fun s => [.rcs s.zs]) (InvX := fun _ _ _ => False) (RsX := fun _ => []) (ΦsX := fun _ => []) (vals := svals b) (posts := sposts b) rfl en105 (scanned1_it A c b mm hn hc b7) zT zF (fun _ _ => rfl) rfl ⟨0, [], none, 0, rfl, fun z hz => absurd hz List.not_mem_nil⟩ rfl (by simp [rcsV, usedL]) (by exact ⟨Mem.here, trivial⟩) ?_ ?_ ?_
 · rintro k ⟨j, zs, A', c', hz, hcz⟩ y hk hj l C1
   obtain rfl : k = j := hj.symm
   have hfa := scanAt_len hk
   have hzl : zs.length = k := LS.len ⟨k, zs, A', c', hz, hcz⟩ (by simp only; omega)
   have hrl := rcsV_len zs
   obtain ⟨p, r, hpr⟩ : ∃ p r, scanAt b k = (p, r) := ⟨_, _, rfl⟩
   rw [hpr] at hfa
   simp only at hfa
   rw [show svals b k y = [.int .i64 ((b.length : Int) - (r.length : Nat)), p.v y] by rw [svals, hpr], show sposts b k y = [.rd y.1 (i64s p.l), .is (p.l.length ≤ y.2)] by rw [sposts, hpr]]
   show Jc _ _ _ _ _ _ (psetL [8, 9] [.int .i64 ((b.length : Int) - (r.length : Nat)), p.v y] _) [.row 54 2 (.slice A' k c') k (rcsV zs), .blk b3 3 [.int .i64 (usedL b k : Nat)], .blk b2 22 [.slice A' k c']] [.rd y.1 (i64s p.l), .is (p.l.length ≤ y.2), .rcs zs]
   refine Jc.pure (φ := .is (p.l.length ≤ y.2)) (p := p.l.length ≤ y.2) zM (fun _ _ h => h) fun hcy => ?_
   refine Jc.qs<|Jc.qr<|Jl.pv (PR.qa rfl)<|Jl.qn<|Jq.qt<|Jc.qr ?_
   refine Jl.alloc tze54 ?_
   intro b5
   refine Jl.storeW rfl tsh54 rfl (by rfl) (by first | exact rc_one _ _ | simp [Value.oneCell', Rc.cs]) zS (by rfl) ?_
   refine Jl.qn ?_
   refine Jq.assigned (fun C2 => ?_)
   refine Jc.block ?_
   refine Jc.qr ?_
   refine Jl.pv (PR.load1 rfl tsh22 zH (by rfl)) ?_
   refine Jl.pv (PR.loadW rfl tsh54 zH (by rfl)) ?_
   refine Jl.buildSlice (by rfl) tsl22 tzr22_1 (by rfl) (by rfl) ?_
   intro b12
   refine Jl.seal zD ?_
   refine Jl.append (k + 1) (rcsV (zs ++ [(y, p)])) rfl rfl rfl tsl22 tze54 (by rfl) (by decide) tby54 (fun _ _ => zS) zM rfl (by rw [rcsV_snoc]; rfl) rfl (by simp [Rc.cs, Value.oneCell']) (by omega) (by decide) ?_
   intro A13 c13
   refine Jl.fact2' (.rcs (zs ++ [(y, p)])) (φ := .rcs zs) (ψ := .rd y.1 (i64s p.l)) zM zM (fun X W h1 h2 => rcs_snoc h1 h2) ?_
   refine Jl.pv (PR.qm rfl) ?_
   refine Jl.store1 rfl tsh22 rfl (by rfl) zS (by rfl) ?_
   refine Jl.store1 rfl tsh3 rfl (by rfl) zS (by rfl) ?_
   refine Jl.qn ?_
   refine Jq.blkN ?_
   refine Jq.lessR (rs := [.row 54 2 (.slice A13 (k + 1) c13) (k + 1) (rcsV (zs ++ [(y, p)])), .blk b3 3 [.int .i64 ((b.length : Int) - (r.length : Nat))], .blk b2 22 [.slice A13 (k + 1) c13]]) zT ?_
   exact Jq.next ⟨k + 1, zs ++ [(y, p)], A13, c13, by rw [logN_take hpr hk, rcsN, List.map_append, ← rcsN, hz]; rfl, caps_snoc hcz hcy⟩ rfl (by rw [usedL_succ, hpr, Int.ofNat_sub hfa]) (by exact ⟨zM, trivial⟩)
 · rintro ⟨j, zs, A', c', hz, hcz⟩ D0 hj
   obtain rfl : j = (scanN b).length := hj
   show Jq _ _ _ .normal _ [.mark D0, .row 54 2 (.slice A' (scanN b).length c') (scanN b).length (rcsV zs), .blk b3 3 [.int .i64 (usedL b (scanN b).length : Nat)], .blk b2 22 [.slice A' (scanN b).length c']] [.rcs zs]
   have hz' : rcsN zs = logN b := by rw [hz, List.take_of_length_le (by simp [logN])]
   refine Jq.blkN ?_
   refine Jq.qt<|Jc.qs ?_
   refine Jc.drawn [0, 0, 1, 7] ([], []) [⟨[(0, false), (1, false)], [], 2⟩, ⟨[], [], 3⟩] tmx (by kernel_rfl) ?_
   refine Dh.JH.cons ?_
   refine Dh.JB.rd [.blk _ _ _] rfl trivial zT (fun _ => PR.load1 rfl tsh22 Has.here (by rfl)) ?_
   refine Dh.JB.rd [.blk _ _ _] rfl trivial zT (fun _ => PR.load1 rfl tsh3 Has.here (by rfl)) ?_
   refine Dh.JB.nil<|Dh.JL.nil ?_
   refine Dh.JE.mk rfl (fun _ h => by cases h) (fun C5_2 => ?_)
   refine Jl.store1 rfl tsh22 rfl (by rfl) zS (by rfl) ?_
   refine Jl.qn ?_
   refine Dh.Jq.segN zX ?_ zK
   refine Dh.JH.cons<|Dh.JB.nil<|Dh.JL.nil ?_
   refine Dh.JE.mk rfl (fun _ h => by cases h) (fun C5_3 => ?_)
   refine Jl.store1 rfl tsh3 rfl (by rfl) zS (by rfl) ?_
   refine Jl.qn ?_
   refine Dh.Jq.segN zX ?_ zK
   refine Dh.JH.nil ?_
   refine Dh.JB.nil<|Dh.JL.nil<|Jq.qt<|Jc.ret ?_
   exact Jq.finM (Ds := [D0]) (⟨zs, hz', hcz⟩, (A', c')) (.inl rfl) rfl zT (RetVs.cell1 rfl zH tsh22 (by rfl) (RetVs.cell1 rfl zH tsh3 (by rfl) RetVs.nil)) rfl zT zF
 exact fun _ _ t => t.elim
theorem fput_rec {A : Option Addr} {c : Nat} (r : Rc) : Ct Tryz.prog 82 [.slice A r.bytes.length c] [] [.rd A (u8s r.bytes)] (fun x : AdC => .tuple #[.slice x.1 (recB r).length x.2, .int .i64 0]) (fun x => [.row 5 1 (.slice x.1 (recB r).length x.2) (recB r).length (u8s (recB r))]) (fun _ => []) := by
 have h1 := bytes_le (r := r)
 have h0 := fput_ct A c r.bytes (by omega)
 rw [show putFN r.bytes = recB r from if_pos (by omega), show putFR r.bytes = 0 from if_pos (by omega)] at h0
 exact h0
theorem okAll_no {zs : Rcs} {k : Nat} (h : k < zs.length) (h2 : zs[k].2.ok = false) : okAll zs = false := by
 rw [okAll, List.all_eq_false]
 exact ⟨zs[k], List.getElem_mem h, by simp [h2]⟩
theorem okAll_yes {zs : Rcs} (h : ∀ j (hj : j < zs.length), zs[j].2.ok = true) : okAll zs = true := by
 rw [okAll, List.all_eq_true]
 intro z hz
 obtain ⟨j, hj, rfl⟩ := List.mem_iff_getElem.1 hz
 exact h j hj
def frsN (zs : Rcs) : List UInt8 := if okAll zs = true then recsB (rcsN zs) else []
theorem recsK {zs : Rcs} {k : Nat} (h : k < zs.length) : recsB ((rcsN zs).take (k + 1)) = recsB ((rcsN zs).take k) ++ recB zs[k].2 := by
 have hl : k < (rcsN zs).length := by simpa [rcsN] using h
 rw [List.take_succ_eq_append_getElem hl, recsB_app]
 simp [recsB, rcsN]
theorem recsK_len {zs : Rcs} (k : Nat) (h : zs.length ≤ 1000) : (recsB ((rcsN zs).take k)).length ≤ 1014000 := by
 have h1 := recsB_len ((rcsN zs).take k)
 have h2 : ((rcsN zs).take k).length ≤ 1000 := by rw [List.length_take]; simp [rcsN]; omega
 omega
theorem putE_no {r : Rc} (h : r.putE ≠ 0) : r.ok = false := by
 unfold Rc.putE at h
 split at h
 · exact absurd rfl h
 · rename_i h2; simpa using h2
theorem putE_yes {r : Rc} (h : r.putE = 0) : r.ok = true := by
 unfold Rc.putE at h
 split at h
 · assumption
 · cases h
theorem frames_ct (L : Option Addr) (cL : Nat) (zs : Rcs) (mm : Nat → AdC) (hn : zs.length ≤ 1000) (hl : ∀ z ∈ zs, z.2.l.length ≤ 1000000) :
 Ct Tryz.prog 68 [.slice L zs.length cL] [] [.rd L (rcsV zs), .rcs zs, .many mm] (fun x : AdC => .tuple #[.slice x.1 (frsN zs).length x.2, .bool (okAll zs)]) (fun x => [.row 5 1 (.slice x.1 (frsN zs).length x.2) (frsN zs).length (u8s (frsN zs))]) (fun _ => []) := by
 have hrl := rcsV_len zs
 refine Ct.of _ Tryz.func68 Tryz.ntmps68 rfl rfl (fun X W => ?_)
 refine Jc.qs<|Jc.qr<|Jl.pv (PR.qa rfl)<|Jl.pv (PR.qa rfl)<|Jl.qn<|Jq.qt ?_
 refine Jc.scope (σ := { _u : Unit // okAll zs = false }) (fun _ => []) (fun _ => []) (fun _ => []) (fun _ => 0) (l := 0) rfl ?_ ?_
 · rintro ⟨_, hno⟩
   rw [show frsN zs = [] from if_neg (by simp [hno]), hno]
   refine Jc.qs<|Jc.qr<|Jl.pv (PR.qa rfl)<|Jl.pv (PR.qa rfl)<|Jl.qn<|Jq.qt<|Jc.ret ?_
   refine Jq.jmpR ?_
   refine Jq.nilRow 5 1 ?_
   exact Jq.fin (none, 0) (.inl rfl) rfl (RetVs.tmp rfl (RetVs.tmp rfl RetVs.nil)) rfl zT zF
 intro hfirst0
 refine Jc.qs<|Jc.qs<|Jc.qr<|Jl.pv (PR.qm rfl) ?_
 refine Jl.pv (PR.len rfl tsl22) ?_
 refine Jl.pv (PR.qm rfl)<|Jl.qn<|Jq.qt ?_
 refine Jc.block ?_
 refine Jc.nilRow 5 1 ?_
 refine Jc.loop (σ := { k : Nat // k ≤ zs.length ∧ ∀ j (hj : j < zs.length), j < k → zs[j].2.ok = true } × AdC) (fun s => [(11, .int .i64 (s.1.1 : Int)), (10, .int .i64 (zs.length : Int)), (9, .slice L zs.length cL), (2, .slice s.2.1 (recsB ((rcsN zs).take s.1.1)).length s.2.2)]) (fun s => [.row 5 1 (.slice s.2.1 (recsB ((rcsN zs).take s.1.1)).length s.2.2) (recsB ((rcsN zs).take s.1.1)).length (u8s (recsB ((rcsN zs).take s.1.1)))]) (fun s => [.rd L (rcsV zs), .rcs zs, .many mm]) (fun s => zs.length - s.1.1) (⟨0, Nat.zero_le _, fun j hj h => by omega⟩, (none, 0)) (by repeat (first | exact trivial | refine And.intro rfl ?_)) rfl zF ?_
 rintro ⟨⟨k, hk, hO⟩, ⟨A2, c2⟩⟩
 show Jc _ _ _ _ _ _ [(11, Value.int .i64 (k : Int)), (10, .int .i64 (zs.length : Int)), (9, .slice L zs.length cL), (2, .slice A2 (recsB ((rcsN zs).take k)).length c2)] [.row 5 1 (.slice A2 (recsB ((rcsN zs).take k)).length c2) (recsB ((rcsN zs).take k)).length (u8s (recsB ((rcsN zs).take k)))] [.rd L (rcsV zs), .rcs zs, .many mm]
 refine Jc.qs<|Jc.qr ?_
 refine Jl.pv (PR.lss _ rfl rfl rfl) ?_
 refine Jl.qn<|Jq.qt<|Jc.qs ?_
 refine Jc.cond rfl (fun h0 => ?_) (fun h0 => ?_)
 · try replace h0 := zV h0
   have hlt : k < zs.length := by omega
   have hkz := hl _ (List.getElem_mem hlt)
   have hb1 := recsK_len k hn
   have hb2 := recB_len zs[k].2
   refine Jc.fact (.rd zs[k].1.1 (i64s zs[k].2.l)) (φ := .rcs zs) zM (fun X W h => h _ (List.getElem_mem _)) ?_
   refine Jc.skip<|Jq.qt<|Jc.qs ?_
   refine Jc.block ?_
   refine Jc.qs<|Jc.qr ?_
   refine Jl.pv (PR.idx k rfl rfl tsl22 zM (rcsV_len _) (by omega) rfl hlt) ?_
   refine Jl.pv (PR.loadRA rfl tsh54 zM (by decide) (rcs_at hlt)) ?_
   refine Jl.alloc tze54 ?_
   intro b5
   refine Jl.storeW rfl tsh54 rfl (by rfl) (by first | exact rc_one _ _ | simp [Value.oneCell', Rc.cs]) zS (by rfl) ?_
   refine Jl.qn<|Jq.qt<|Jc.qs<|Jc.qr ?_
   refine Jl.pv (PR.loadW rfl tsh54 zH (by rfl)) ?_
   refine Jl.call (rcput_ct zs[k].2 zs[k].1 mm hkz) en81 (by rfl) zT zF ?_
   rintro ⟨A17, c17⟩
   refine Jl.pv (PR.qm rfl) ?_
   refine Jl.pv (PR.extract rfl (by rfl)) ?_
   refine Jl.pv (PR.extract rfl (by rfl)) ?_
   refine Jl.pv (PR.qa rfl)<|Jl.pv (PR.qa rfl)<|Jl.qn<|Jq.qt<|Jc.qs<|Jc.qs<|Jc.qr<|Jl.pv (PR.qm rfl) ?_
   refine Jl.pv (PR.neq _ rfl rfl rfl) ?_
   refine Jl.qn<|Jq.qt ?_
   refine Jc.cond rfl (fun h1 => ?_) (fun h1 => ?_)
   · try replace h1 := zV h1
     refine Jc.goto ?_
     refine Jq.thenG ?_
     refine Jq.blkG ?_
     refine Jq.thenG ?_
     refine Jq.thenG ?_
     refine Jq.blkG ?_
     refine Jq.thenG ?_
     refine Jq.lessR (rs := []) zT ?_
     exact Jq.jmpA ⟨(), okAll_no hlt (putE_no h1)⟩ (by repeat (first | exact trivial | refine And.intro rfl ?_)) rfl trivial
   try replace h1 := zW h1
   have hok : zs[k].2.ok = true := putE_yes (by simpa using h1)
   refine Jc.skip<|Jq.qt<|Jc.qs<|Jc.qr<|Jl.pv (PR.qm rfl) ?_
   refine Jl.sealR zD ?_
   refine Jl.call (fput_rec zs[k].2) en82 (by rfl) zT zF ?_
   rintro ⟨A24, c24⟩
   refine Jl.sealR zD ?_
   refine Jl.pv (PR.qm rfl) ?_
   refine Jl.pv (PR.extract rfl (by rfl)) ?_
   refine Jl.pv (PR.extract rfl (by rfl)) ?_
   refine Jl.pv (PR.qa rfl)<|Jl.pv (PR.qa rfl)<|Jl.qn<|Jq.qt<|Jc.qs<|Jc.qs<|Jc.qr<|Jl.pv (PR.qm rfl) ?_
   refine Jl.pv (PR.neq false rfl rfl (by simp)) ?_
   refine Jl.qn<|Jq.qt<|Jc.condF rfl<|Jc.skip<|Jq.qt<|Jc.qr<|Jl.pv (PR.qm rfl)<|Jl.pv (PR.qm rfl) ?_
   refine Jl.append (recsB ((rcsN zs).take (k + 1))).length (u8s (recsB ((rcsN zs).take (k + 1)))) rfl rfl rfl tsl25 tze5 (by rfl) (by decide) tby5 (fun _ _ => zS) zM (by rw [recsK hlt]; simp) (by rw [recsK hlt]; simp [u8s]) (by simp [u8s]) (u8s_one _) (by omega) (by decide) ?_
   intro A31 c31
   refine Jl.pv (PR.qa rfl)<|Jl.qn ?_
   refine Jq.blkN ?_
   refine Jq.qt<|Jc.qr ?_
   refine Jl.pv (PR.add ((k + 1 : Nat) : Int) rfl rfl (by rw [w64 (by omega) (by omega)]; rfl)) ?_
   refine Jl.pv (PR.qm rfl)<|Jl.qn ?_
   exact Jq.againT (⟨k + 1, hlt, fun j hj hjk => by rcases Nat.lt_succ_iff_lt_or_eq.1 hjk with h | rfl; exact hO j hj h; exact hok⟩, (A31, c31)) (by simp only; omega) (by repeat (first | exact trivial | refine And.intro rfl ?_)) zT zF
 try replace h0 := zW h0
 obtain rfl : k = zs.length := by omega
 have hall : okAll zs = true := okAll_yes fun j hj => hO j hj hj
 have htk : (rcsN zs).take zs.length = rcsN zs := List.take_of_length_le (by simp [rcsN])
 rw [htk]
 refine Jc.exit ?_
 refine Jq.thenX ?_
 refine Jq.thenX ?_
 refine Jq.blkX ?_
 refine Jq.qt<|Jc.qs<|Jc.qs<|Jc.qr<|Jl.pv (PR.qm rfl)<|Jl.pv (PR.qa rfl)<|Jl.pv (PR.qa rfl)<|Jl.qn<|Jq.qt<|Jc.ret<|Jq.thenR ?_
 refine Jq.jmpR ?_
 rw [show frsN zs = recsB (rcsN zs) from if_pos hall, hall]
 exact Jq.fin (A2, c2) (.inl rfl) rfl (RetVs.tmp rfl (RetVs.tmp rfl RetVs.nil)) rfl zT zF
def longL (zs : Rcs) : Int := if okAll zs = true then ((recsB (rcsN zs)).length : Nat) else -1
def addD (d : Dk) (zs : Rcs) : Dk := if okAll zs = true then d.app (recsB (rcsN zs)) else d.own
def addE (d : Dk) (zs : Rcs) : Int := if okAll zs = true then d.appE (recsB (rcsN zs)) else 2
theorem add_ct (d : Dk) (x : AdC) (L : Option Addr) (cL : Nat) (zs : Rcs) (mm : Nat → AdC) (hd : d.b.length ≤ 500000) (hc : d.b.length ≤ x.2) (hn : zs.length ≤ 90) (hl : ∀ z ∈ zs, z.2.l.length ≤ 1000000) :
 Ct Tryz.prog 46 [d.v x, .slice L zs.length cL] [] [.rd x.1 (u8s d.b), .rd L (rcsV zs), .rcs zs, .many mm] (fun y : AdC => .tuple #[(addD d zs).v y, .int .i64 (addE d zs)]) (fun y => [(addD d zs).row y]) (fun _ => []) := by
 obtain ⟨A, c⟩ := x
 have hfl : (frsN zs).length ≤ 100000 := by
  unfold frsN; split
  · have h1 := recsB_len (rcsN zs)
    have h2 : (rcsN zs).length = zs.length := by simp [rcsN]
    omega
  · simp
 refine Ct.of _ Tryz.func46 Tryz.ntmps46 rfl rfl (fun X W => ?_)
 refine Jc.qs<|Jc.qr ?_
 refine Jl.box rfl (by rfl) ?_
 intro b2
 refine Jl.alloc tze27 ?_
 intro b4
 refine Jl.pv (PR.qa rfl)<|Jl.qn<|Jq.qt<|Jc.qs<|Jc.qr<|Jl.pv (PR.qm rfl) ?_
 refine Jl.call (frames_ct L cL zs mm (by omega) hl) en68 (by rfl) zT zF ?_
 rintro ⟨A10, c10⟩
 refine Jl.sealR zD ?_
 refine Jl.pv (PR.qm rfl) ?_
 refine Jl.pv (PR.extract rfl (by rfl)) ?_
 refine Jl.pv (PR.extract rfl (by rfl)) ?_
 refine Jl.pv (PR.qa rfl)<|Jl.pv (PR.qa rfl)<|Jl.qn<|Jq.qt<|Jc.qs<|Jc.qs<|Jc.qr<|Jl.pv (PR.qm rfl) ?_
 refine Jl.pv (PR.not rfl) ?_
 refine Jl.qn<|Jq.qt ?_
 refine Jc.cond rfl (fun h0 => ?_) (fun h0 => ?_)
 · try replace h0 := zV h0
   have hok : okAll zs = false := by simpa using h0
   refine Jc.qs<|Jc.qr ?_
   refine Jl.pv (PR.loadW rfl tsh27 zH (by rfl)) ?_
   refine Jl.call (own_ct A c d hd hc) en47 (by rfl) zT zF ?_
   rintro ⟨A16, c16⟩
   refine Jl.storeW rfl tsh27 rfl (by rfl) (by simp [Value.oneCell', Dk.cs]) zS (by rfl) ?_
   refine Jl.pv (PR.qa rfl)<|Jl.qn<|Jq.qt<|Jc.ret<|Jq.thenR ?_
   rw [show addD d zs = d.own from if_neg (by simp [hok]), show addE d zs = 2 from if_neg (by simp [hok])]
   exact Jq.fin (A16, c16) (.inl rfl) rfl (RetVs.cellA rfl zH tsh27 (by rfl) (RetVs.tmp rfl RetVs.nil)) rfl zT zF
 try replace h0 := zW h0
 have hok : okAll zs = true := by simpa using h0
 refine Jc.skip<|Jq.qt<|Jc.qs<|Jc.qr ?_
 refine Jl.pv (PR.loadW rfl tsh27 zH (by rfl)) ?_
 refine Jl.pv (PR.qm rfl) ?_
 refine Jl.call (append_ct A A10 c c10 d (frsN zs) hd hc hfl) en69 (by rfl) zT zF ?_
 rintro ⟨A19, c19⟩
 refine Jl.pv (PR.extract rfl (by rfl)) ?_
 refine Jl.pv (PR.extract rfl (by rfl)) ?_
 refine Jl.storeW rfl tsh27 rfl (by rfl) (by simp [Value.oneCell', Dk.cs]) zS (by rfl) ?_
 refine Jl.pv (PR.qa rfl)<|Jl.qn<|Jq.qt<|Jc.ret ?_
 rw [show addD d zs = d.app (frsN zs) by rw [addD, if_pos hok, frsN, if_pos hok], show addE d zs = d.appE (frsN zs) by rw [addE, if_pos hok, frsN, if_pos hok]]
 exact Jq.fin (A19, c19) (.inl rfl) rfl (RetVs.cellA rfl zH tsh27 (by rfl) (RetVs.tmp rfl RetVs.nil)) rfl zT zF
def openD (d : Dk) : Dk := ⟨d.own.b.take (logU d.own.b), (logU d.own.b : Nat), d.own.r⟩
abbrev OpenR (d : Dk) := { x : AdC // (openD d).b.length ≤ x.2 } × RcsOf (logN d.own.b) × AdC
theorem open_ct (d : Dk) (x : AdC) (mm : Nat → AdC) (hd : d.b.length ≤ 500000) (hc : d.b.length ≤ x.2) :
 Ct Tryz.prog 30 [d.v x] [] [.rd x.1 (u8s d.b), .many mm] (fun y : OpenR d => .tuple #[(openD d).v y.1.1, .slice y.2.2.1 (scanN d.own.b).length y.2.2.2]) (fun y => [.row 54 2 (.slice y.2.2.1 (scanN d.own.b).length y.2.2.2) (scanN d.own.b).length (rcsV y.2.1.1)]) (fun y => [.rd y.1.1.1 (u8s (openD d).b), .rcs y.2.1.1]) := by
 obtain ⟨A, c⟩ := x
 have hol := d.own_len
 have hul := logU_le d.own.b
 refine Ct.of _ Tryz.func30 Tryz.ntmps30 rfl rfl (fun X W => ?_)
 refine Jc.qs<|Jc.qr ?_
 refine Jl.box rfl (by rfl) ?_
 intro b1
 refine Jl.alloc tze27 ?_
 intro b2
 refine Jl.pv (PR.qa rfl)<|Jl.qn<|Jq.qt<|Jc.qs<|Jc.qr ?_
 refine Jl.pv (PR.loadW rfl tsh27 zH (by rfl)) ?_
 refine Jl.call (own_ct A c d hd hc) en47 (by rfl) zT zF ?_
 rintro ⟨A7, c7⟩
 refine Jl.sealC zD (fun hc7 => ?_)
 refine Jl.storeW rfl tsh27 rfl (by rfl) (by simp [Value.oneCell', Dk.cs]) zS (by rfl) ?_
 refine Jl.qn<|Jq.qt<|Jc.qs<|Jc.qr<|Jl.pv (PR.qf rfl tfl27_0) ?_
 refine Jl.pv (PR.load1 rfl tsh25 zH (by rfl)) ?_
 refine Jl.call (scan_ct A7 c7 d.own.b mm (by omega) hc7) en55 (by rfl) zT zF ?_
 rintro ⟨zs, ⟨A11, c11⟩⟩
 refine Jl.pv (PR.qm rfl) ?_
 refine Jl.pv (PR.extract rfl (by rfl)) ?_
 refine Jl.pv (PR.extract rfl (by rfl)) ?_
 refine Jl.pv (PR.qa rfl)<|Jl.pv (PR.qa rfl)<|Jl.qn<|Jq.qt<|Jc.qs<|Jc.qr<|Jl.pv (PR.qf rfl tfl27_0) ?_
 refine Jl.pv (PR.load1 rfl tsh25 zH (by rfl)) ?_
 refine Jl.pv (PR.qm rfl) ?_
 refine Jl.slice 0 (logU d.own.b) ((openD d).b.length) (u8s (openD d).b) rfl tsl25 rfl rfl zM (by omega) hul hc7 (by simp only [openD, List.length_take]; omega) (by simp only [openD, u8s, List.length_take, Nat.min_eq_left hul, Nat.mul_one, Nat.zero_mul, List.drop_zero, List.map_take]) ?_
 intro A17 c17 hc17
 skip
 refine Jl.pv (PR.qm rfl)<|Jl.pv (PR.qf rfl tfl27_0) ?_
 refine Jl.store1 rfl tsh25 rfl (by rfl) zS (by rfl) ?_
 refine Jl.pv (PR.qf rfl tfl27_1) ?_
 refine Jl.store1 rfl tsh3 rfl (by rfl) zS (by rfl) ?_
 refine Jl.qn<|Jq.qt<|Jc.qs<|Jc.qr ?_
 refine Jl.pv (PR.loadW rfl tsh27 zH (by rfl)) ?_
 refine Jl.pv (PR.qm rfl) ?_
 refine Jl.storeW rfl tsh27 rfl (by rfl) (by simp [Value.oneCell', Dk.cs]) zS (by rfl) ?_
 refine Jl.pv (PR.qa rfl)<|Jl.qn<|Jq.qt<|Jc.ret ?_
 exact Jq.fin (⟨(A17, c17), by simp only [openD, List.length_take]; omega⟩, zs, (A11, c11)) (.inl rfl) rfl (RetVs.cellA rfl zH tsh27 (by rfl) (RetVs.tmp rfl RetVs.nil)) rfl zT zF
theorem safe_ct (d : Dk) (x : AdC) (mm : Nat → AdC) (hd : d.b.length ≤ 500000) (hc : d.b.length ≤ x.2) :
 Ct Tryz.prog 32 [d.v x] [] [.rd x.1 (u8s d.b), .many mm] (fun y : RcsOf (logN (d.own.b.take d.own.s.toNat)) × AdC => .slice y.2.1 (scanN (d.own.b.take d.own.s.toNat)).length y.2.2) (fun y => [.row 54 2 (.slice y.2.1 (scanN (d.own.b.take d.own.s.toNat)).length y.2.2) (scanN (d.own.b.take d.own.s.toNat)).length (rcsV y.1.1)]) (fun y => [.rcs y.1.1]) := by
 obtain ⟨A, c⟩ := x
 have hol := d.own_len
 have hof := d.own_fit
 have htl : (d.own.b.take d.own.s.toNat).length = d.own.s.toNat := by rw [List.length_take]; omega
 refine Ct.of _ Tryz.func32 Tryz.ntmps32 rfl rfl (fun X W => ?_)
 refine Jc.qs<|Jc.qr ?_
 refine Jl.box rfl (by rfl) ?_
 intro b1
 refine Jl.pv (PR.qa rfl)<|Jl.qn<|Jq.qt<|Jc.qs<|Jc.qr ?_
 refine Jl.pv (PR.loadW rfl tsh27 zH (by rfl)) ?_
 refine Jl.call (own_ct A c d hd hc) en47 (by rfl) zT zF ?_
 rintro ⟨A6, c6⟩
 refine Jl.sealC zD (fun hc6 => ?_)
 refine Jl.storeW rfl tsh27 rfl (by rfl) (by simp [Value.oneCell', Dk.cs]) zS (by rfl) ?_
 refine Jl.qn<|Jq.qt<|Jc.qs<|Jc.qr<|Jl.pv (PR.qf rfl tfl27_0) ?_
 refine Jl.pv (PR.load1 rfl tsh25 zH (by rfl)) ?_
 refine Jl.pv (PR.qf rfl tfl27_1) ?_
 refine Jl.pv (PR.load1 rfl tsh3 zH (by rfl)) ?_
 refine Jl.as (.int .i64 ((d.own.s.toNat : Nat) : Int)) (congrArg (Value.int .i64) (Int.toNat_of_nonneg hof.2.1).symm) ?_
 refine Jl.slice 0 d.own.s.toNat ((d.own.b.take d.own.s.toNat).length) (u8s (d.own.b.take d.own.s.toNat)) rfl tsl25 rfl rfl zM (by omega) (by omega) hc6 (by omega) (by rw [htl]; simp [u8s, List.map_take]) ?_
 intro A12 c12 hc12
 skip
 refine Jl.call (scan_ct A12 c12 (d.own.b.take d.own.s.toNat) mm (by omega) (by omega)) en55 (by rfl) zT zF ?_
 rintro ⟨zs, ⟨A13, c13⟩⟩
 refine Jl.pv (PR.qm rfl) ?_
 refine Jl.pv (PR.extract rfl (by rfl)) ?_
 refine Jl.pv (PR.extract rfl (by rfl)) ?_
 refine Jl.pv (PR.qa rfl)<|Jl.pv (PR.qa rfl)<|Jl.qn<|Jq.qt<|Jc.qs<|Jc.qr<|Jl.pv (PR.qm rfl)<|Jl.pv (PR.qa rfl)<|Jl.qn<|Jq.qt<|Jc.ret ?_
 exact Jq.fin (zs, (A13, c13)) (.inl rfl) rfl (RetVs.tmp rfl RetVs.nil) rfl zT zF
end Go.Proofs.YtakbgccddokbbaaGreatDoor
namespace Go.Proofs.YtakbgccddokbbaaGreatDoor
open Go.RowKit
def rdV (v : Value) : Option (DataW Value × List MemPlace) := some (.held v, [])
def Res.mapV (P : Program) (k : TypeId) (q : IntKind) (b n : Nat) (f : Int → Option Value) : Res where
 own := fun g => g = b
 says := fun W => ∃ D : DataW Value, W.ownsMap P k rdV b n D ∧ ∀ a, (Lit.int q a).wf = true → ∀ zd, D.atKey (.int q a) zd = match f a with | some v => .held v | none => zd
 dep := fun W W' h ⟨D, ⟨es, clock, h1, h2⟩, h3⟩ => ⟨D, ⟨es, clock, (h b rfl).trans h1, h2⟩, h3⟩
 lt := fun W ⟨D, h, _⟩ g hg => by subst hg; exact h.lt
section
variable {P : Program} {r : Option Nat} {C : Cx} {n : Nat × List Nat} {ops : Array Oper} {Q : Exit → Act → World → Prop} {rest : List Oper} {env : List (Nat × Value)} {R R0 R' : List Res} {Φ : List Fact}
  {d : Nat} {T T' : TypeId} {pos : String} {af : Array Edge} {x y z : Operand} {k e : TypeId} {b m : Nat} {f : Int → Option Value} {q : IntKind}
theorem Jl.makeMapV (q : IntKind) (ht : P.underlying T' = some (.map k e)) (j : ∀ b, Jl P r C n ops Q rest ((d, .map (some b)) :: env) (.mapV P k q b 0 (fun _ => none) :: R) Φ) (hd : Nat.blt d n.1 = true := by rfl) :
 Jl P r C n ops Q (⟨some d, .makeMap T' none, T, pos, af, none⟩ :: rest) env R Φ :=
 Jl.valx hd (by simp) fun a W he hs => by
  refine ⟨.map (some W.heap.size), W.alloc (.map #[] 0), .mapV P k q W.heap.size 0 (fun _ => none) :: R, Φ, ?_, ?_, j _⟩
  · simp [execOp, run_makeMap]
  · refine hs.step (W' := W.alloc _) (Foreign.alloc _ W _) ⟨⟨.map [], World.ownsMap_made _ _ _ _, fun a _ zd => rfl⟩, fun b hb => ?_, hs.sep.keep fun b hb => Below.heap_alloc W _ b (hs.sep.lt b hb)⟩ fun b hb => ?_
    · have hb' : b = W.heap.size := hb
      subst hb'
      exact ⟨fun hx => absurd (hs.x0lt _ hx) (Nat.lt_irrefl _), fun hx => absurd (hs.sep.lt _ hx) (Nat.lt_irrefl _)⟩
    · rcases hb with hb | hb
      · exact .inr (Nat.le_of_eq (show b = W.heap.size from hb).symm)
      · exact .inl hb
theorem mapV_look {W : World} (c : Bool) {T' : TypeId} {zv : Value} {a : Int} (h : (Res.mapV P k q b m f).says W) (ht : P.underlying T' = some (.map k e)) (hk : P.underlying k = some (.int q)) (hz : (zeroValue e).run P W = .ok zv W) (hw : (Lit.int q a).wf = true) :
    (Instr.lookup T' (.map (some b)) (.int q a) c).run P W = .ok (if c then .tuple #[(f a).getD zv, .bool (f a).isSome] else (f a).getD zv) W := by
  obtain ⟨D, ⟨es, clock, h1, h2, h3, h4⟩, h5⟩ := h
  have h6 := h5 a hw
  rw [h4] at h6
  rcases Go.Maps.fit_look c (Go.Maps.int_keyed hk) ht hz h1 h2 (Go.Maps.keyOf_int_mk hk hw) with ⟨g1, _, g2⟩ | ⟨e0, y, _, _, g1, g2, g3, _⟩
  · have hf : f a = none := by
      cases hf : f a with
      | none => rfl
      | some v =>
        have := (g2 .nil).symm.trans (h6 .nil)
        rw [hf] at this
        cases this
    rw [g1, hf]; rfl
  · have hy : y.1 = .held e0.val := by
      simp only [rdV, Option.some.injEq] at g2
      rw [← g2]
    have hf : f a = some e0.val := by
      have h7 := (g3 .nil).symm.trans (h6 .nil)
      cases hf : f a with
      | none => rw [hf, hy] at h7; cases h7
      | some v =>
        rw [hf, hy] at h7
        injection h7 with h7
        rw [h7]
    rw [g1, hf]; rfl
theorem PR.lookupVO {a : Int} (zv : Value) (hx : opv env x = some (.map (some b))) (hy : opv env y = some (.int q a)) (ht : P.underlying T' = some (.map k e)) (hk : P.underlying k = some (.int q)) (hz : ∀ w, (zeroValue e).run P w = .ok zv w)
 (hD : Del (.mapV P k q b m f) R R0) (hw : (Lit.int q a).wf = true) : PR P C n env R Φ (.lookup T' x y true) T (.tuple #[(f a).getD zv, .bool (f a).isSome]) := fun a' W he' hs d pos af g => by
 have h := (hD.sep hs.sep).1
 simp [execOp, he'.eval hx, he'.eval hy, mapV_look true h ht hk (hz W) hw]
theorem Jl.mapUpdateV {a : Int} {v : Value} (f' : Int → Option Value) {m' : Nat} (hx : opv env x = some (.map (some b))) (hy : opv env y = some (.int q a)) (hz : opv env z = some v) (ht : P.underlying T' = some (.map k e)) (hk : P.underlying k = some (.int q))
 (hw : Swap (.mapV P k q b m f) (.mapV P k q b m' f') R R') (hwa : (Lit.int q a).wf = true) (hm : m + 1 = m') (hm2 : m ≤ 1000000) (hf : ∀ p, (if p = a then some v else f p) = f' p)
 (j : Jl P r C n ops Q rest env R' Φ) : Jl P r C n ops Q (⟨none, .mapUpdate T' x y z, T, pos, af, none⟩ :: rest) env R Φ :=
 Jl.act (by simp) fun a' W he' hs => by
  subst hm
  obtain ⟨D, h1, h2⟩ := hw.old hs.sep
  obtain ⟨W', hrun, g1, g2⟩ := h1.update (Go.Maps.int_keyed hk) ht (by unfold maxLen; omega) (Go.Maps.keyOf_int_mk hk hwa) (show rdV v = some (.held v, []) from rfl)
  refine ⟨W', R', Φ, by simp [execOp, he'.eval hx, he'.eval hy, he'.eval hz, hrun], hs.swap hw ⟨g2.os, g2.tape, g2.output, g2.size, fun q hq hn => g2.block q hq fun e => hn (show q = b by simpa using e)⟩ ⟨_, g1, fun p hp zd => ?_⟩ (fun q hq => .inl hq), j⟩
  rw [← hf p]
  split
  · rename_i w hw'
    split at hw'
    · rename_i e
      subst e
      injection hw' with hw'
      subst hw'
      exact Go.Maps.atKey_put_same (k := .int q p) h1.isMap trivial _ _
    · rename_i e
      rw [Go.Maps.atKey_put_other (by intro h; injection h with _ h; exact e h), h2 p hp, hw']
  · rename_i hw'
    split at hw'
    · cases hw'
    · rename_i e
      rw [Go.Maps.atKey_put_other (by intro h; injection h with _ h; exact e h), h2 p hp, hw']
theorem Jl.insertV {a : Int} {v : Value} (f' : Int → Option Value) {m' : Nat} (hx : opv env x = some (.map (some b))) (hy : opv env y = some (.int q a)) (hz : opv env z = some v) (ht : P.underlying T' = some (.map k e)) (hk : P.underlying k = some (.int q))
 (hw : Swap (.mapV P k q b m f) (.mapV P k q b m' f') R R') (hwa : (Lit.int q a).wf = true) (hm : m + 1 = m') (hm2 : m ≤ 1000000) (hf : ∀ p, (if p = a then some v else f p) = f' p)
 (j : Jl P r C n ops Q rest env R' Φ) : Jl P r C n ops Q (⟨none, .insert T' x y z, T, pos, af, none⟩ :: rest) env R Φ :=
 Jl.act (by simp) fun a' W he' hs => by
  subst hm
  obtain ⟨D, h1, h2⟩ := hw.old hs.sep
  obtain ⟨W', hrun, g1, g2⟩ := h1.update (Go.Maps.int_keyed hk) ht (by unfold maxLen; omega) (Go.Maps.keyOf_int_mk hk hwa) (show rdV v = some (.held v, []) from rfl)
  refine ⟨W', R', Φ, by simp [execOp, he'.eval hx, he'.eval hy, he'.eval hz, hrun], hs.swap hw ⟨g2.os, g2.tape, g2.output, g2.size, fun q hq hn => g2.block q hq fun e => hn (show q = b by simpa using e)⟩ ⟨_, g1, fun p hp zd => ?_⟩ (fun q hq => .inl hq), j⟩
  rw [← hf p]
  split
  · rename_i w hw'
    split at hw'
    · rename_i e
      subst e
      injection hw' with hw'
      subst hw'
      exact Go.Maps.atKey_put_same (k := .int q p) h1.isMap trivial _ _
    · rename_i e
      rw [Go.Maps.atKey_put_other (by intro h; injection h with _ h; exact e h), h2 p hp, hw']
  · rename_i hw'
    split at hw'
    · cases hw'
    · rename_i e
      rw [Go.Maps.atKey_put_other (by intro h; injection h with _ h; exact e h), h2 p hp, hw']
end
section
variable {P : Program} {C : Cx} {n : Nat × List Nat} {Q : Exit → Act → World → Prop} {env : List (Nat × Value)} {R : List Res} {Φ : List Fact} {c : Code}
theorem Jc.scopeE {σ : Type} (E : σ → List (Nat × Value)) (Rs : σ → List Res) (Φs : σ → List Fact) {l : Nat} (hl : findLabel c l = some .skip) (pass : ∀ s, Jq C n Q .normal (E s) (Rs s) (Φs s))
 (first : Jc P none C n (Exit.jump l (fun a W => ∃ s', Env n (E s') a ∧ Sat C (Rs s') (Φs s') W) Q) c env R Φ) : Jc P none C n Q (.scope c) env R Φ := fun a W he hs => by
 refine wpIn_wide.2 (wp_scope_jumps l (fun a W => ∃ s', Env n (E s') a ∧ Sat C (Rs s') (Φs s') W) (fun _ _ => 0) hl (wpIn_wide.1 (first a W he hs)) ?_)
 rintro a' W' ⟨s, h1, h2⟩
 exact wp_skip (pass s a' W' h1 h2)
end
theorem wfu8 (k : UInt8) : (Lit.int .u8 ((k.toNat : Nat) : Int)).wf = true := by
 have := k.toNat_lt
 simp [Lit.wf, IntKind.min, IntKind.max, IntKind.signed, IntKind.bits]; omega
theorem Ct.more {P : Program} {f : FuncId} {args : List Value} {Rin big R' : List Res} {pre : List Fact} {α : Type} {res : α → Value} {Rout : α → List Res} {post : α → List Fact} (ht : Take Rin big R') (h : Ct P f args Rin pre res Rout post) : Ct P f args big pre res Rout post := fun X W hX hs hp => by
 obtain ⟨h1, h2⟩ := ht.sep hs
 refine (h (fun b => X b ∨ ownL R' b) W (fun b hb => hb.elim (hX b) (h2.lt b)) h1 (fun φ hφ => φ.fr _ _ W W (hp φ hφ) (Foreign.refl _ _) (fun b hb => .inl (by
  rcases hb with (hb | hb) | hb
  · exact .inl hb
  · exact .inr ((ht.own b).2 (.inr hb))
  · exact .inr ((ht.own b).2 (.inl hb)))))).mono fun e W' ⟨x, e1, e2, e3, e4, e5⟩ => ?_
 exact ⟨x, e1, ⟨e2.os, e2.tape, e2.output, e2.size, fun b hb hn => e2.block b hb fun h => hn ((ht.own b).2 (.inl h))⟩, e3.less (fun b hb => .inl hb), fun b hb => (e4 b hb).imp (fun h => (ht.own b).2 (.inl h)) id, fun φ hφ => φ.fr _ _ W' W' (e5 φ hφ) (Foreign.refl _ _) fun b hb => .inl (by
  rcases hb with hb | hb
  · exact .inl (.inl hb)
  · exact .inr hb)⟩
end Go.Proofs.YtakbgccddokbbaaGreatDoor
namespace Go.Proofs.YtakbgccddokbbaaGreatDoor
open Go.RowKit
attribute [local irreducible] Res.blk Res.row Fact.rd
theorem kclone_ct (A : Option Addr) (c : Nat) (l : List Kp) (hn : l.length ≤ 1000000) :
    Ct Tryz.prog 52 [.slice A l.length c] [] [.rd A (kpsV l)] (fun x : AdC => .slice x.1 l.length x.2) (fun x => [.row 72 8 (.slice x.1 l.length x.2) l.length (kpsV l)]) (fun _ => []) := by
  have hl8 := kpsV_len l
  cases A with
  | none =>
    refine Ct.of _ Tryz.func52 Tryz.ntmps52 rfl rfl (fun X W => ?_)
    refine Jc.pure (p := l = []) Mem.here (fun X W h => ?_) ?_
    · cases l with
      | nil => rfl
      | cons x l => exact absurd (Fact.rd_none h) (by simp [kpsV, Kp.cs])
    rintro rfl
    refine Jc.qs<|Jc.qr<|Jl.pv (PR.qa rfl)<|Jl.qn<|Jq.qt<|Jc.qs<|Jc.qs<|Jc.qr<|Jl.pv (PR.qm rfl) ?_
    refine Jl.pv (PR.eqlNil true rfl tsl34 rfl) ?_
    refine Jl.qn<|Jq.qt<|Jc.condT rfl<|Jc.qs<|Jc.qr<|Jl.pv (PR.qa rfl)<|Jl.qn<|Jq.qt<|Jc.ret<|Jq.thenR ?_
    refine Jq.nilRow 72 8 ?_
    exact Jq.fin (none, 0) (.inl rfl) rfl (RetVs.tmp rfl RetVs.nil) rfl zT zF
  | some a =>
    refine Ct.of _ Tryz.func52 Tryz.ntmps52 rfl rfl (fun X W => ?_)
    refine Jc.qs<|Jc.qr<|Jl.pv (PR.qa rfl)<|Jl.qn<|Jq.qt<|Jc.qs<|Jc.qs<|Jc.qr<|Jl.pv (PR.qm rfl) ?_
    refine Jl.pv (PR.eqlNil false rfl tsl34 rfl) ?_
    refine Jl.qn<|Jq.qt<|Jc.condF rfl<|Jc.skip<|Jq.qt<|Jc.qs<|Jc.qr ?_
    refine Jl.buildSlice (by rfl) tsl34 tzr34_0 (by rfl) (by rfl) ?_
    intro b5
    refine Jl.pv (PR.qm rfl) ?_
    refine Jl.toRow 8 0 zS (by rfl) (by rfl) ?_
    refine Jl.append l.length (kpsV l) rfl rfl rfl tsl34 tze72 (by rfl) (by decide) tby72 (fun _ _ => zS) zM (by omega) rfl (by omega) (kps_one _) (by omega) (by decide) ?_
    intro A7 c7
    refine Jl.pv (PR.qa rfl)<|Jl.qn<|Jq.qt<|Jc.ret ?_
    exact Jq.fin (A7, c7) (.inl rfl) rfl (RetVs.tmp rfl RetVs.nil) rfl zT zF
theorem tclone_ct (A : Option Addr) (c : Nat) (l : List It1) (hn : l.length ≤ 1000000) :
    Ct Tryz.prog 51 [.slice A l.length c] [] [.rd A (itsV l)] (fun x : AdC => .slice x.1 l.length x.2) (fun x => [.row 70 4 (.slice x.1 l.length x.2) l.length (itsV l)]) (fun _ => []) := by
  have hl4 := itsV_len l
  cases A with
  | none =>
    refine Ct.of _ Tryz.func51 Tryz.ntmps51 rfl rfl (fun X W => ?_)
    refine Jc.pure (p := l = []) Mem.here (fun X W h => ?_) ?_
    · cases l with
      | nil => rfl
      | cons x l => exact absurd (Fact.rd_none h) (by simp [itsV, It1.cs])
    rintro rfl
    refine Jc.qs<|Jc.qr<|Jl.pv (PR.qa rfl)<|Jl.qn<|Jq.qt<|Jc.qs<|Jc.qs<|Jc.qr<|Jl.pv (PR.qm rfl) ?_
    refine Jl.pv (PR.eqlNil true rfl tsl33 rfl) ?_
    refine Jl.qn<|Jq.qt<|Jc.condT rfl<|Jc.qs<|Jc.qr<|Jl.pv (PR.qa rfl)<|Jl.qn<|Jq.qt<|Jc.ret<|Jq.thenR ?_
    refine Jq.nilRow 70 4 ?_
    exact Jq.fin (none, 0) (.inl rfl) rfl (RetVs.tmp rfl RetVs.nil) rfl zT zF
  | some a =>
    refine Ct.of _ Tryz.func51 Tryz.ntmps51 rfl rfl (fun X W => ?_)
    refine Jc.qs<|Jc.qr<|Jl.pv (PR.qa rfl)<|Jl.qn<|Jq.qt<|Jc.qs<|Jc.qs<|Jc.qr<|Jl.pv (PR.qm rfl) ?_
    refine Jl.pv (PR.eqlNil false rfl tsl33 rfl) ?_
    refine Jl.qn<|Jq.qt<|Jc.condF rfl<|Jc.skip<|Jq.qt<|Jc.qs<|Jc.qr ?_
    refine Jl.buildSlice (by rfl) tsl33 tzr33_0 (by rfl) (by rfl) ?_
    intro b5
    refine Jl.pv (PR.qm rfl) ?_
    refine Jl.toRow 4 0 zS (by rfl) (by rfl) ?_
    refine Jl.append l.length (itsV l) rfl rfl rfl tsl33 tze70 (by rfl) (by decide) tby70 (fun _ _ => zS) zM (by omega) rfl (by omega) (its_one _) (by omega) (by decide) ?_
    intro A7 c7
    refine Jl.pv (PR.qa rfl)<|Jl.qn<|Jq.qt<|Jc.ret ?_
    exact Jq.fin (A7, c7) (.inl rfl) rfl (RetVs.tmp rfl RetVs.nil) rfl zT zF
theorem bown_ct (b : Br) (z : BrA) (hn : b.its.length ≤ 1000000) (hm : b.kps.length ≤ 1000000) (hms : b.cf.ms.length ≤ 1000000) : Ct Tryz.prog 28 [b.v z] [] (b.rd z) (fun x : BrA => b.v x) (fun x => b.rows x) (fun _ => []) := by
 obtain ⟨⟨M, cM⟩, ⟨I, cI⟩, ⟨K, cK⟩⟩ := z
 refine Ct.of _ Tryz.func28 Tryz.ntmps28 rfl rfl (fun X W => ?_)
 refine Jc.qs<|Jc.qr ?_
 refine Jl.box rfl (by rfl) ?_
 intro b1
 refine Jl.alloc tze38 ?_
 intro b2
 refine Jl.qn<|Jq.qt<|Jc.qs ?_
 refine Jc.drawn [0, 1, 3, 7, 0, 16, 63, 0, 128, 511, 447, 1471, 4095, 8191, 16383, 32767, 65535] ([], []) [⟨[(0, false), (1, false), (2, false), (4, false), (5, false), (7, false), (8, false)], [], 3⟩, ⟨[(10, false), (11, false)], [], 6⟩, ⟨[], [], 9⟩, ⟨[], [], 12⟩, ⟨[(13, false)], [], 14⟩, ⟨[(15, false)], [], 16⟩] tmx (by kernel_rfl) ?_
 refine Dh.JH.cons<|Dh.JB.pv rfl trivial (fun _ => PR.qf rfl tfl38_3)<|Dh.JB.pv rfl trivial (fun _ => PR.qf rfl tfl32_14) ?_
 refine Dh.JB.rd [.blk _ _ _] rfl trivial zT (fun _ => PR.load1 rfl tsh23 Has.here (by rfl)) ?_
 refine Dh.JB.pv rfl trivial (fun _ => PR.qf rfl tfl38_4) ?_
 refine Dh.JB.rd [.blk _ _ _] rfl trivial zT (fun _ => PR.load1 rfl tsh33 Has.here (by rfl)) ?_
 refine Dh.JB.pv rfl trivial (fun _ => PR.qf rfl tfl38_5) ?_
 refine Dh.JB.rd [.blk _ _ _] rfl trivial zT (fun _ => PR.load1 rfl tsh34 Has.here (by rfl)) ?_
 refine Dh.JB.nil<|Dh.JL.nil ?_
 refine Dh.JE.mk rfl (fun _ h => by cases h) (fun C1_3 => ?_)
 refine Jl.call (iclone_ct M cM b.cf.ms (by omega)) en50 (by rfl) zT zF ?_
 rintro ⟨A6, c6⟩
 refine Jl.qn ?_
 refine Dh.Jq.segV zX ?_ zK
 refine Dh.JH.cons<|Dh.JB.pv rfl trivial (fun _ => PR.qf rfl tfl38_3)<|Dh.JB.pv rfl trivial (fun _ => PR.qf rfl tfl32_14)<|Dh.JB.nil<|Dh.JL.nil ?_
 refine Dh.JE.mk rfl (fun _ h => by cases h) (fun C1_6 => ?_)
 refine Jl.call (tclone_ct I cI b.its hn) en51 (by rfl) zT zF ?_
 rintro ⟨A9, c9⟩
 refine Jl.qn ?_
 refine Dh.Jq.segV zX ?_ zK
 refine Dh.JH.cons<|Dh.JB.nil<|Dh.JL.nil ?_
 refine Dh.JE.mk rfl (fun _ h => by cases h) (fun C1_9 => ?_)
 refine Jl.call (kclone_ct K cK b.kps hm) en52 (by rfl) zT zF ?_
 rintro ⟨A12, c12⟩
 refine Jl.qn ?_
 refine Dh.Jq.segV zX ?_ zK
 refine Dh.JH.cons<|Dh.JB.nil<|Dh.JL.nil ?_
 refine Dh.JE.mk rfl (fun _ h => by cases h) (fun C1_12 => ?_)
 refine Jl.store1 rfl tsh23 rfl (by rfl) zS (by rfl) ?_
 refine Jl.qn ?_
 refine Dh.Jq.segN zX ?_ zK
 refine Dh.JH.cons<|Dh.JB.pv rfl trivial (fun _ => PR.qf rfl tfl38_4)<|Dh.JB.nil<|Dh.JL.nil ?_
 refine Dh.JE.mk rfl (fun _ h => by cases h) (fun C1_14 => ?_)
 refine Jl.store1 rfl tsh33 rfl (by rfl) zS (by rfl) ?_
 refine Jl.qn ?_
 refine Dh.Jq.segN zX ?_ zK
 refine Dh.JH.cons<|Dh.JB.pv rfl trivial (fun _ => PR.qf rfl tfl38_5)<|Dh.JB.nil<|Dh.JL.nil ?_
 refine Dh.JE.mk rfl (fun _ h => by cases h) (fun C1_16 => ?_)
 refine Jl.store1 rfl tsh34 rfl (by rfl) zS (by rfl) ?_
 refine Jl.qn ?_
 refine Dh.Jq.segN zX ?_ zK
 refine Dh.JH.nil ?_
 refine Dh.JB.nil<|Dh.JL.nil<|Jq.qt<|Jc.qs<|Jc.qr ?_
 refine Jl.pv (PR.loadW rfl tsh38 zH (by rfl)) ?_
 refine Jl.storeW rfl tsh38 rfl (by rfl) (by first | exact Br.cs_one _ _ | simp [Value.oneCell', Br.cs]) zS (by rfl) ?_
 refine Jl.qn<|Jq.qt<|Jc.ret ?_
 exact Jq.fin ((A6, c6), (A9, c9), (A12, c12)) (.inl rfl) rfl (RetVs.cellA rfl zH tsh38 (by rfl) RetVs.nil) rfl zT zF
theorem find1_ct (id : Int) (bd : Nat) (x : Kp) : Ct Tryz.prog 139 [x.v, .pointer (some ⟨bd, 0, none⟩)] [.blk bd 3 [.int .i64 id]] [] (fun _ : Unit => .bool (decide (x.id = id))) (fun _ => [.blk bd 3 [.int .i64 id]]) (fun _ => []) := by
 refine Ct.of _ Tryz.func139 Tryz.ntmps139 rfl rfl (fun X W => ?_)
 refine Jc.qs<|Jc.qr ?_
 refine Jl.box rfl (by rfl) ?_
 intro b2
 refine Jl.pv (PR.qa rfl)<|Jl.qn<|Jq.qt<|Jc.qs<|Jc.qr<|Jl.pv (PR.qf rfl tfl72_0) ?_
 refine Jl.pv (PR.load1 rfl tsh3 zH (by rfl)) ?_
 refine Jl.pv (PR.load1 rfl tsh3 zH (by rfl)) ?_
 refine Jl.pv (PR.eql _ rfl rfl rfl) ?_
 refine Jl.pv (PR.qa rfl)<|Jl.qn<|Jq.qt<|Jc.ret ?_
 exact Jq.fin () (.inl rfl) rfl (RetVs.tmp rfl RetVs.nil) rfl zT zF
 -- hint not used: one
theorem fidx_at {α : Type} {l : List α} {q : α → Bool} {k : Nat} (hk : k < l.length) (h : q l[k] = true) (hj : ∀ j (h : j < l.length), j < k → q l[j] = false) : l.findIdx? q = some k :=
 List.findIdx?_eq_some_iff_getElem.2 ⟨hk, h, fun j hj' => by simp [hj j (by omega) hj']⟩
theorem fidx_none {α : Type} {l : List α} {q : α → Bool} (hj : ∀ j (h : j < l.length), q l[j] = false) : l.findIdx? q = none :=
 List.findIdx?_eq_none_iff.2 fun x hx => by
  obtain ⟨j, h, rfl⟩ := List.mem_iff_getElem.1 hx
  exact hj j h
theorem kidx_ct (K : Option Addr) (c : Nat) (l : List Kp) (q : Kp → Bool) (g : FuncId) (bd : Nat) (T : TypeId) (cc : List Value) (hg : ∀ x : Kp, Ct Tryz.prog g [x.v, .pointer (some ⟨bd, 0, none⟩)] [.blk bd T cc] [] (fun _ : Unit => .bool (q x)) (fun _ => [.blk bd T cc]) (fun _ => []))
 (hen : ∀ args w, (callFunc g args).run Tryz.prog w = .ok (.enter g args) w) (hn : l.length ≤ 1000000) :
 Ct Tryz.prog 138 [.slice K l.length c, .func (.func g) #[] #[.pointer (some ⟨bd, 0, none⟩)]] [.blk bd T cc] [.rd K (kpsV l)] (fun _ : Unit => .int .i64 (plcI (l.findIdx? q))) (fun _ => [.blk bd T cc]) (fun _ => []) := by
 have hl8 := kpsV_len l
 refine Ct.of _ Tryz.func138 Tryz.ntmps138 rfl rfl (fun X W => ?_)
 refine Jc.qs<|Jc.qr<|Jl.pv (PR.qa rfl)<|Jl.qn<|Jq.qt<|Jc.qs<|Jc.qs<|Jc.qr<|Jl.pv (PR.qm rfl) ?_
 refine Jl.pv (PR.len rfl tsl34) ?_
 refine Jl.pv (PR.qm rfl)<|Jl.qn<|Jq.qt ?_
 refine Jc.block ?_
 refine Jc.loop (σ := { k : Nat // k ≤ l.length ∧ ∀ j (h : j < l.length), j < k → q l[j] = false }) (fun s => [(8, .int .i64 (s.1 : Int)), (7, .int .i64 (l.length : Int)), (1, .func (.func g) #[] #[.pointer (some ⟨bd, 0, none⟩)]), (0, .slice K l.length c)]) (fun _ => [.blk bd T cc]) (fun _ => [.rd K (kpsV l)]) (fun s => l.length - s.1) ⟨0, Nat.zero_le _, fun j h h2 => by omega⟩ (by repeat (first | exact trivial | refine And.intro rfl ?_)) rfl zF ?_
 rintro ⟨k, hk, hq⟩
 show Jc _ _ _ _ _ _ [(8, Value.int .i64 (k : Int)), (7, .int .i64 (l.length : Int)), (1, .func (.func g) #[] #[.pointer (some ⟨bd, 0, none⟩)]), (0, .slice K l.length c)] [.blk bd T cc] [.rd K (kpsV l)]
 refine Jc.qs<|Jc.qr ?_
 refine Jl.pv (PR.lss _ rfl rfl rfl) ?_
 refine Jl.qn<|Jq.qt<|Jc.qs ?_
 refine Jc.cond rfl (fun h0 => ?_) (fun h0 => ?_)
 · try replace h0 := zV h0
   have hlt : k < l.length := by omega
   refine Jc.skip<|Jq.qt<|Jc.qs ?_
   refine Jc.block ?_
   refine Jc.qs<|Jc.qr<|Jl.pv (PR.qm rfl)<|Jl.pv (PR.qa rfl)<|Jl.qn<|Jq.qt<|Jc.qs<|Jc.qr<|Jl.pv (PR.qm rfl)<|Jl.pv (PR.qm rfl)<|Jl.pv (PR.qm rfl) ?_
   refine Jl.pv (PR.idx k rfl rfl tsl34 zM (kpsV_len _) (by omega) rfl hlt) ?_
   refine Jl.pv (PR.loadRA rfl tsh72 zM (by decide) (kps_at hlt)) ?_
   refine Jl.callv (hg l[k]) hen rfl (by rfl) (by rfl) zT zF ?_
   rintro ⟨⟩
   refine Jl.qn<|Jq.qt ?_
   refine Jc.cond rfl (fun h1 => ?_) (fun h1 => ?_)
   · try replace h1 := zV h1
     refine Jc.qs<|Jc.qr<|Jl.pv (PR.qm rfl)<|Jl.pv (PR.qa rfl)<|Jl.qn<|Jq.qt<|Jc.ret ?_
     refine Jq.blkR ?_
     refine Jq.thenR<|Jq.thenR ?_
     refine Jq.blkR ?_
     refine Jq.thenR ?_
     exact Jq.fin () (.inl rfl) rfl (RetVs.tmp rfl RetVs.nil) (by rw [fidx_at hlt h1 hq]; rfl) zT zF
   try replace h1 := zW h1
   refine Jc.skip ?_
   refine Jq.blkN ?_
   refine Jq.qt<|Jc.qr ?_
   refine Jl.pv (PR.add ((k + 1 : Nat) : Int) rfl rfl (by rw [w64 (by omega) (by omega)]; rfl)) ?_
   refine Jl.pv (PR.qm rfl)<|Jl.qn ?_
   exact Jq.againT ⟨k + 1, hlt, fun j hj hjk => by rcases Nat.lt_succ_iff_lt_or_eq.1 hjk with h | rfl; exact hq j hj h; exact h1⟩ (by simp only; omega) (by repeat (first | exact trivial | refine And.intro rfl ?_)) zT zF
 try replace h0 := zW h0
 refine Jc.exit ?_
 refine Jq.thenX ?_
 refine Jq.thenX ?_
 refine Jq.blkX ?_
 refine Jq.qt<|Jc.qs<|Jc.qr<|Jl.pv (PR.qa rfl)<|Jl.qn<|Jq.qt<|Jc.ret ?_
 exact Jq.fin () (.inl rfl) rfl (RetVs.tmp rfl RetVs.nil) (by rw [fidx_none fun j hj => hq j hj (by omega)]; rfl) zT zF
 -- hint not used: one
theorem bfind_ct (b : Br) (z : BrA) (id : Int) (hm : b.kps.length ≤ 1000000) : Ct Tryz.prog 116 [b.v z, .int .i64 id] [] (b.rd z) (fun _ : Unit => .int .i64 (plcI (b.findK id))) (fun _ => []) (fun _ => []) := by
 obtain ⟨⟨M, cM⟩, ⟨I, cI⟩, ⟨K, cK⟩⟩ := z
 refine Ct.of _ Tryz.func116 Tryz.ntmps116 rfl rfl (fun X W => ?_)
 refine Jc.qs<|Jc.qr ?_
 refine Jl.box rfl (by rfl) ?_
 intro b2
 refine Jl.box rfl (by rfl) ?_
 intro b3
 refine Jl.pv (PR.qa rfl)<|Jl.qn<|Jq.qt<|Jc.qs<|Jc.qr<|Jl.pv (PR.qf rfl tfl38_5) ?_
 refine Jl.pv (PR.load1 rfl tsh34 zH (by rfl)) ?_
 refine Jl.pv (PR.makeFunc rfl rfl) ?_
 refine Jl.call (kidx_ct K cK b.kps (fun k => decide (k.id = id)) 139 b3 3 [.int .i64 id] (find1_ct id b3) en139 hm) en138 (by rfl) zT zF ?_
 rintro ⟨⟩
 refine Jl.pv (PR.qa rfl)<|Jl.qn<|Jq.qt<|Jc.ret ?_
 exact Jq.fin () (.inl rfl) rfl (RetVs.tmp rfl RetVs.nil) rfl zT zF
 -- hint not used: one
end Go.Proofs.YtakbgccddokbbaaGreatDoor
namespace Go.Proofs.YtakbgccddokbbaaGreatDoor
open Go.RowKit
attribute [local irreducible] Res.blk Res.row Fact.rd
abbrev Br.st (b : Br) (bb : Nat) (z : BrA) : List Res := [.blk bb 38 (b.cs z), .row 3 1 (.slice z.1.1 b.cf.ms.length z.1.2) b.cf.ms.length (i64s b.cf.ms), .row 70 4 (.slice z.2.1.1 b.its.length z.2.1.2) b.its.length (itsV b.its), .row 72 8 (.slice z.2.2.1 b.kps.length z.2.2.2) b.kps.length (kpsV b.kps)]
abbrev Br.rM (b : Br) (z : BrA) : Res := .row 3 1 (.slice z.1.1 b.cf.ms.length z.1.2) b.cf.ms.length (i64s b.cf.ms)
abbrev Br.rI (b : Br) (z : BrA) : Res := .row 70 4 (.slice z.2.1.1 b.its.length z.2.1.2) b.its.length (itsV b.its)
abbrev Br.rK (b : Br) (z : BrA) : Res := .row 72 8 (.slice z.2.2.1 b.kps.length z.2.2.2) b.kps.length (kpsV b.kps)
abbrev ptr (b : Nat) : Value := .pointer (some ⟨b, 0, none⟩)
theorem flat_set {α : Type} (f : α → List Value) (n : Nat) (hf : ∀ a, (f a).length = n) {l : List α} {k j : Nat} (h : k < l.length) (hj : j < n) {v : Value} {b : α} (hb : (f l[k]).set j v = f b) : (l.flatMap f).set (k * n + j) v = (l.set k b).flatMap f := by
  induction l generalizing k with
  | nil => simp at h
  | cons c l ih =>
    rw [List.flatMap_cons]
    cases k with
    | zero =>
      rw [List.set_cons_zero, List.flatMap_cons, List.set_append_left _ _ (by rw [hf]; omega), Nat.zero_mul, Nat.zero_add]
      simp only [List.getElem_cons_zero] at hb
      rw [hb]
    | succ k =>
      rw [List.set_cons_succ, List.flatMap_cons, List.set_append_right _ _ (by rw [hf, Nat.add_mul]; omega), hf, show (k + 1) * n + j - n = k * n + j by rw [Nat.add_mul]; omega]
      rw [ih (by simpa using h) (by simpa using hb)]
theorem kps_set {l : List Kp} {k j : Nat} (h : k < l.length) (hj : j < 8) {v : Value} {x : Kp} (hx : l[k].cs.set j v = x.cs) : (kpsV l).set (k * 8 + j) v = kpsV (l.set k x) := flat_set _ 8 (fun _ => rfl) h hj hx
theorem onK1_st (b : Br) (i : Nat) (x : Kp) (bb : Nat) (z : BrA) : (b.onK1 i x).st bb z = [.blk bb 38 (b.cs z), .row 3 1 (.slice z.1.1 b.cf.ms.length z.1.2) b.cf.ms.length (i64s b.cf.ms), .row 70 4 (.slice z.2.1.1 b.its.length z.2.1.2) b.its.length (itsV b.its), .row 72 8 (.slice z.2.2.1 b.kps.length z.2.2.2) b.kps.length (kpsV (b.kps.set i x))] := by
 simp [Br.st, Br.onK1, Br.cs]
abbrev DeedCt (f : FuncId) (b : Br) (bb : Nat) (z : BrA) (L : Option Addr) (cL : Nat) (l : List Int) (T : Br) : Prop :=
 Ct Tryz.prog f [ptr bb, .slice L l.length cL] (b.st bb z) [.rd L (i64s l)] (fun _ : Unit => .tuple #[]) (fun _ => T.st bb z) (fun _ => [])
abbrev DeedK (f : FuncId) (b : Br) (bb : Nat) (z : BrA) (L : Option Addr) (cL : Nat) (l : List Int) (i : Nat) (T : Br) : Prop :=
 Ct Tryz.prog f [ptr bb, .int .i64 (i : Int), .slice L l.length cL] (b.st bb z) [.rd L (i64s l)] (fun _ : Unit => .tuple #[]) (fun _ => T.st bb z) (fun _ => [])
theorem dguard_ct (b : Br) (z : BrA) (bb : Nat) (L : Option Addr) (cL : Nat) (id g : Int) (i : Nat) (hi : i < b.kps.length) : DeedK 93 b bb z L cL [id, g] i (if g < 2 then b.onK1 i { b.kAt i with gu := decide (g = 1) } else b) := by
 obtain ⟨⟨M, cM⟩, ⟨I, cI⟩, ⟨K, cK⟩⟩ := z
 have hl8 := kpsV_len b.kps
 refine Ct.of _ Tryz.func93 Tryz.ntmps93 rfl rfl (fun X W => ?_)
 refine Jc.qs<|Jc.qr<|Jl.pv (PR.qm rfl) ?_
 refine Jl.pv (PR.idx1 1 rfl rfl tsl23 zM rfl rfl (by simp)) ?_
 refine Jl.pv (PR.loadR rfl tsh3 zM rfl) ?_
 refine Jl.pv (PR.lss _ rfl rfl rfl) ?_
 refine Jl.qn<|Jq.qt ?_
 refine Jc.cond rfl (fun h0 => ?_) (fun h0 => ?_)
 · try replace h0 := zV h0
   refine Jc.drawn [0, 1, 3, 7, 0, 0, 32, 96, 224, 511, 1023, 2047] ([], []) [⟨[(0, false), (1, false), (2, false), (3, false), (4, false), (5, false), (6, false), (7, false), (8, false), (9, false), (10, false)], [], 11⟩] tmx (by kernel_rfl) ?_
   refine Dh.JH.cons<|Dh.JB.pv rfl trivial (fun _ => PR.qm rfl) ?_
   refine Dh.JB.pv rfl trivial (fun _ => PR.nilCheck rfl) ?_
   refine Dh.JB.pv rfl trivial (fun _ => PR.qf rfl tfl38_5) ?_
   refine Dh.JB.rd [.blk _ _ _] rfl trivial zT (fun _ => PR.load1 rfl tsh34 Has.here (by rfl)) ?_
   refine Dh.JB.pv rfl trivial (fun _ => PR.qm rfl)<|Dh.JB.pv rfl trivial (fun _ => PR.qm rfl) ?_
   refine Dh.JB.pv rfl trivial (fun _ => PR.idx1 1 rfl rfl tsl23 zM rfl rfl (by simp)) ?_
   refine Dh.JB.pv rfl trivial (fun _ => PR.loadR rfl tsh3 zM rfl) ?_
   refine Dh.JB.pv rfl trivial (fun _ => PR.eql _ rfl rfl rfl) ?_
   refine Dh.JB.rd [.row _ _ _ _ _] rfl trivial zT (fun _ => PR.idxO i rfl rfl tsl34 Del.here (by decide) rfl hi) ?_
   refine Dh.JB.rd [.row _ _ _ _ _] rfl trivial zT (fun _ => PR.fieldAddrO rfl tfl72_6 Del.here (by omega)) ?_
   refine Dh.JB.nil<|Dh.JL.nil ?_
   refine Dh.JE.mk rfl (fun _ h => by cases h) (fun C1_11 => ?_)
   refine Jl.storeO rfl tsh4 rfl (by rfl) zS (by omega) (kps_set (x := { b.kAt i with gu := decide (g = 1) }) hi (by decide) (by rw [kAt_eq hi]; rfl)) ?_
   refine Jl.qn ?_
   refine Dh.Jq.segN zX ?_ zK
   refine Dh.JH.nil ?_
   refine Dh.JB.nil<|Dh.JL.nil ?_
   rw [if_pos h0, onK1_st]
   exact Jq.fin () (.inr rfl) rfl RetVs.nil rfl zT zF
 try replace h0 := zW h0
 refine Jc.skip ?_
 rw [if_neg h0]
 exact Jq.fin () (.inr rfl) rfl RetVs.nil rfl zT zF
 -- hint not used: one
theorem dcompl_ct (b : Br) (z : BrA) (bb : Nat) (L : Option Addr) (cL : Nat) (id : Int) (i : Nat) (hi : i < b.kps.length) : DeedK 94 b bb z L cL [id] i (b.onK1 i { b.kAt i with co := (b.kAt i).co || (b.kAt i).held }) := by
 obtain ⟨⟨M, cM⟩, ⟨I, cI⟩, ⟨K, cK⟩⟩ := z
 have hl8 := kpsV_len b.kps
 have hk := kAt_eq hi
 refine Ct.of _ Tryz.func94 Tryz.ntmps94 rfl rfl (fun X W => ?_)
 refine Jc.qs<|Jc.qr<|Jl.pv (PR.qm rfl)<|Jl.pv (PR.nilCheck rfl)<|Jl.pv (PR.qf rfl tfl38_5) ?_
 refine Jl.pv (PR.load1 rfl tsh34 zH (by rfl)) ?_
 refine Jl.pv (PR.qm rfl) ?_
 refine Jl.pv (PR.idxO i rfl rfl tsl34 zD (by decide) rfl hi) ?_
 refine Jl.pv (PR.qa rfl)<|Jl.qn<|Jq.qt<|Jc.qr<|Jl.pv (PR.qm rfl)<|Jl.pv (PR.qm rfl) ?_
 refine Jl.pv (PR.nilCheckO rfl zD (by omega)) ?_
 refine Jl.pv (PR.fieldAddrO rfl tfl72_7 zD (by omega)) ?_
 refine Jl.pv (PR.loadO rfl tsh4 zD (kps_f hi 7 rfl)) ?_
 refine Jl.pv (PR.qm rfl) ?_
 refine Jl.bsplit (fun g18 => ?_) (fun g18 => ?_)
 · try replace g18 := zV g18
   refine Jl.qo rfl rfl rfl<|Jl.qo rfl rfl rfl<|Jl.qo rfl rfl rfl<|Jl.qo rfl rfl rfl<|Jl.qo rfl rfl rfl<|Jl.pv (PR.pickT rfl rfl)<|Jl.pv (PR.qm rfl)<|Jl.qo rfl rfl rfl<|Jl.qo rfl rfl rfl<|Jl.qo rfl rfl rfl<|Jl.qo rfl rfl rfl<|Jl.qo rfl rfl rfl<|Jl.pv (PR.pickT rfl rfl) ?_
   refine Jl.pv (PR.nilCheckO rfl zD (by omega)) ?_
   refine Jl.pv (PR.fieldAddrO rfl tfl72_7 zD (by omega)) ?_
   refine Jl.storeO rfl tsh4 rfl (by rfl) zS (by omega) (kps_set (x := { b.kAt i with co := (b.kAt i).co || (b.kAt i).held }) hi (by decide) (by rw [kAt_eq hi]; simp_all [Kp.cs, Kp.held])) ?_
   refine Jl.qn ?_
   rw [onK1_st]
   exact Jq.fin () (.inr rfl) rfl RetVs.nil rfl zT zF
 try replace g18 := zW g18
 refine Jl.on rfl rfl<|Jl.pv (PR.qm rfl)<|Jl.on rfl rfl ?_
 refine Jl.pv (PR.nilCheckO rfl zD (by omega)) ?_
 refine Jl.on rfl rfl ?_
 refine Jl.pv (PR.fieldAddrO rfl tfl72_4 zD (by omega)) ?_
 refine Jl.on rfl rfl ?_
 refine Jl.pv (PR.loadO rfl tsh5 zD (kps_f hi 4 rfl)) ?_
 refine Jl.on rfl rfl ?_
 refine Jl.pv (PR.eql (a := (b.kps[i].ph.toNat : Int)) (b := 1) (decide (b.kps[i].ph.toNat = 1)) rfl rfl (by rw [decide_eq_decide]; omega)) ?_
 refine Jl.pv (PR.pickF rfl rfl)<|Jl.pv (PR.qm rfl) ?_
 refine Jl.bsplit (fun g25 => ?_) (fun g25 => ?_)
 · try replace g25 := zV g25
   refine Jl.qo rfl rfl rfl<|Jl.qo rfl rfl rfl<|Jl.qo rfl rfl rfl<|Jl.qo rfl rfl rfl<|Jl.qo rfl rfl rfl<|Jl.pv (PR.pickT rfl rfl) ?_
   refine Jl.pv (PR.nilCheckO rfl zD (by omega)) ?_
   refine Jl.pv (PR.fieldAddrO rfl tfl72_7 zD (by omega)) ?_
   refine Jl.storeO rfl tsh4 rfl (by rfl) zS (by omega) (kps_set (x := { b.kAt i with co := (b.kAt i).co || (b.kAt i).held }) hi (by decide) (by rw [kAt_eq hi]; simp_all [Kp.cs, Kp.held])) ?_
   refine Jl.qn ?_
   rw [onK1_st]
   exact Jq.fin () (.inr rfl) rfl RetVs.nil rfl zT zF
 try replace g25 := zW g25
 refine Jl.on rfl rfl<|Jl.pv (PR.qm rfl)<|Jl.on rfl rfl ?_
 refine Jl.pv (PR.nilCheckO rfl zD (by omega)) ?_
 refine Jl.on rfl rfl ?_
 refine Jl.pv (PR.fieldAddrO rfl tfl72_4 zD (by omega)) ?_
 refine Jl.on rfl rfl ?_
 refine Jl.pv (PR.loadO rfl tsh5 zD (kps_f hi 4 rfl)) ?_
 refine Jl.on rfl rfl ?_
 refine Jl.pv (PR.eql (a := (b.kps[i].ph.toNat : Int)) (b := 7) (decide (b.kps[i].ph.toNat = 7)) rfl rfl (by rw [decide_eq_decide]; omega)) ?_
 refine Jl.pv (PR.pickF rfl rfl) ?_
 refine Jl.pv (PR.nilCheckO rfl zD (by omega)) ?_
 refine Jl.pv (PR.fieldAddrO rfl tfl72_7 zD (by omega)) ?_
 refine Jl.storeO rfl tsh4 rfl (by rfl) zS (by omega) (kps_set (x := { b.kAt i with co := (b.kAt i).co || (b.kAt i).held }) hi (by decide) (by rw [kAt_eq hi]; simp_all [Kp.cs, Kp.held])) ?_
 refine Jl.qn ?_
 rw [onK1_st]
 exact Jq.fin () (.inr rfl) rfl RetVs.nil rfl zT zF
 -- hint not used: one
theorem dstart_ct (b : Br) (z : BrA) (bb : Nat) (L : Option Addr) (cL : Nat) (v now : Int) : DeedCt 95 b bb z L cL [v, now] (b.begin1 v now) := by
 obtain ⟨⟨M, cM⟩, ⟨I, cI⟩, ⟨K, cK⟩⟩ := z
 refine Ct.of _ Tryz.func95 Tryz.ntmps95 rfl rfl (fun X W => ?_)
 refine Jc.qs<|Jc.qr<|Jl.pv (PR.qm rfl)<|Jl.pv (PR.nilCheck rfl)<|Jl.pv (PR.qf rfl tfl38_2) ?_
 refine Jl.pv (PR.load1 rfl tsh4 zH (by rfl)) ?_
 refine Jl.pv (PR.qm rfl) ?_
 refine Jl.bsplit (fun g8 => ?_) (fun g8 => ?_)
 · try replace g8 := zV g8
   refine Jl.on rfl rfl<|Jl.pv (PR.qm rfl)<|Jl.on rfl rfl<|Jl.pv (PR.nilCheck rfl)<|Jl.on rfl rfl<|Jl.pv (PR.qf rfl tfl38_6)<|Jl.on rfl rfl<|Jl.pv (PR.qf rfl tfl36_0)<|Jl.on rfl rfl ?_
   refine Jl.pv (PR.load1 rfl tsh5 zH (by rfl)) ?_
   refine Jl.on rfl rfl ?_
   refine Jl.pv (PR.neq (a := (b.rf.st.toNat : Int)) (b := 1) (!b.act) rfl rfl (by simp [Br.act]; omega)) ?_
   refine Jl.pv (PR.pickT rfl rfl)<|Jl.pv (PR.qm rfl) ?_
   refine Jl.bsplit (fun g16 => ?_) (fun g16 => ?_)
   · try replace g16 := zV g16
     refine Jl.on rfl rfl<|Jl.pv (PR.qm rfl)<|Jl.on rfl rfl ?_
     refine Jl.pv (PR.idx1 0 rfl rfl tsl23 zM rfl rfl (by simp)) ?_
     refine Jl.on rfl rfl ?_
     refine Jl.pv (PR.loadR rfl tsh3 zM rfl) ?_
     refine Jl.on rfl rfl ?_
     refine Jl.pv (PR.geq _ rfl rfl rfl) ?_
     refine Jl.pv (PR.pickT rfl rfl)<|Jl.qn<|Jq.qt ?_
     refine Jc.cond rfl (fun h0 => ?_) (fun h0 => ?_)
     · try replace h0 := zV h0
       refine Jc.drawn [0, 0, 2, 6, 14, 30, 0, 64, 192, 0, 512, 1536, 4094, 8191, 16383, 32767] ([], []) [⟨[(0, false), (1, false), (2, false), (3, false), (4, false), (5, false), (6, false), (7, false), (8, false), (9, false), (10, false), (11, false), (12, false), (13, false), (14, false)], [], 15⟩] tmx (by kernel_rfl) ?_
       refine Dh.JH.cons<|Dh.JB.pv rfl trivial (fun _ => PR.qm rfl)<|Dh.JB.pv rfl trivial (fun _ => PR.qm rfl) ?_
       refine Dh.JB.pv rfl trivial (fun _ => PR.nilCheck rfl) ?_
       refine Dh.JB.pv rfl trivial (fun _ => PR.qf rfl tfl38_3)<|Dh.JB.pv rfl trivial (fun _ => PR.qf rfl tfl32_12) ?_
       refine Dh.JB.rd [.blk _ _ _] rfl trivial zT (fun _ => PR.load1 rfl tsh3 Has.here (by rfl)) ?_
       refine Dh.JB.pv rfl trivial (fun _ => PR.qm rfl) ?_
       refine Dh.JB.pv rfl trivial (fun _ => PR.idx1 0 rfl rfl tsl23 zM rfl rfl (by simp)) ?_
       refine Dh.JB.pv rfl trivial (fun _ => PR.loadR rfl tsh3 zM rfl) ?_
       refine Dh.JB.pv rfl trivial (fun _ => PR.qm rfl) ?_
       refine Dh.JB.pv rfl trivial (fun _ => PR.idx1 1 rfl rfl tsl23 zM rfl rfl (by simp)) ?_
       refine Dh.JB.pv rfl trivial (fun _ => PR.loadR rfl tsh3 zM rfl) ?_
       refine Dh.JB.pv rfl trivial (fun _ => PR.build (by rfl) tze36 tpl36_0_1_2_5 (by rfl)) ?_
       refine Dh.JB.pv rfl trivial (fun _ => PR.nilCheck rfl) ?_
       refine Dh.JB.pv rfl trivial (fun _ => PR.qf rfl tfl38_6)<|Dh.JB.nil<|Dh.JL.nil ?_
       refine Dh.JE.mk rfl (fun _ h => by cases h) (fun C1_15 => ?_)
       refine Jl.storeA rfl tsh36 rfl (by rfl) (by first | exact Br.cs_one _ _ | simp [Value.oneCell', Br.cs, Rf.cs]) zS (by rfl) ?_
       refine Jl.qn ?_
       refine Dh.Jq.segN zX ?_ zK
       refine Dh.JH.nil ?_
       refine Dh.JB.nil<|Dh.JL.nil ?_
       rw [show b.begin1 v now = b.start v now by simp [Br.begin1, g8, g16]; omega]
       exact Jq.fin () (.inr rfl) rfl RetVs.nil rfl zT zF
     try replace h0 := zW h0
     refine Jc.skip ?_
     rw [show b.begin1 v now = b by simp [Br.begin1]; omega]
     exact Jq.fin () (.inr rfl) rfl RetVs.nil rfl zT zF
   try replace g16 := zW g16
   refine Jl.qo rfl rfl rfl<|Jl.qo rfl rfl rfl<|Jl.qo rfl rfl rfl<|Jl.qo rfl rfl rfl<|Jl.pv (PR.pickF rfl rfl)<|Jl.qn<|Jq.qt<|Jc.condF rfl<|Jc.skip ?_
   rw [show b.begin1 v now = b by simp [Br.begin1, g16]]
   exact Jq.fin () (.inr rfl) rfl RetVs.nil rfl zT zF
 try replace g8 := zW g8
 refine Jl.qo rfl rfl rfl<|Jl.qo rfl rfl rfl<|Jl.qo rfl rfl rfl<|Jl.qo rfl rfl rfl<|Jl.qo rfl rfl rfl<|Jl.qo rfl rfl rfl<|Jl.pv (PR.pickF rfl rfl)<|Jl.pv (PR.qm rfl)<|Jl.qo rfl rfl rfl<|Jl.qo rfl rfl rfl<|Jl.qo rfl rfl rfl<|Jl.qo rfl rfl rfl<|Jl.pv (PR.pickF rfl rfl)<|Jl.qn<|Jq.qt<|Jc.condF rfl<|Jc.skip ?_
 rw [show b.begin1 v now = b by simp [Br.begin1, g8]]
 exact Jq.fin () (.inr rfl) rfl RetVs.nil rfl zT zF
theorem dcanc_ct (b : Br) (z : BrA) (bb : Nat) (L : Option Addr) (cL : Nat) : DeedCt 98 b bb z L cL [] b.cancel := by
 obtain ⟨⟨M, cM⟩, ⟨I, cI⟩, ⟨K, cK⟩⟩ := z
 refine Ct.of _ Tryz.func98 Tryz.ntmps98 rfl rfl (fun X W => ?_)
 refine Jc.qr<|Jl.pv (PR.qm rfl)<|Jl.pv (PR.qm rfl)<|Jl.pv (PR.nilCheck rfl)<|Jl.pv (PR.qf rfl tfl38_6)<|Jl.pv (PR.qf rfl tfl36_0) ?_
 refine Jl.store1 rfl tsh5 rfl (by rfl) zS (by rfl) ?_
 refine Jl.pv (PR.nilCheck rfl)<|Jl.pv (PR.qf rfl tfl38_6)<|Jl.pv (PR.qf rfl tfl36_4) ?_
 refine Jl.store1 rfl tsh4 rfl (by rfl) zS (by rfl) ?_
 refine Jl.qn ?_
 exact Jq.fin () (.inr rfl) rfl RetVs.nil rfl zT zF
theorem droll_ct (b : Br) (z : BrA) (bb : Nat) (L : Option Addr) (cL : Nat) : DeedCt 99 b bb z L cL [] { b with rf := { b.rf with ta := b.rf.fr } } := by
 obtain ⟨⟨M, cM⟩, ⟨I, cI⟩, ⟨K, cK⟩⟩ := z
 refine Ct.of _ Tryz.func99 Tryz.ntmps99 rfl rfl (fun X W => ?_)
 refine Jc.qr<|Jl.pv (PR.qm rfl)<|Jl.pv (PR.qm rfl)<|Jl.pv (PR.nilCheck rfl)<|Jl.pv (PR.qf rfl tfl38_6)<|Jl.pv (PR.qf rfl tfl36_1) ?_
 refine Jl.pv (PR.load1 rfl tsh3 zH (by rfl)) ?_
 refine Jl.pv (PR.nilCheck rfl)<|Jl.pv (PR.qf rfl tfl38_6)<|Jl.pv (PR.qf rfl tfl36_2) ?_
 refine Jl.store1 rfl tsh3 rfl (by rfl) zS (by rfl) ?_
 refine Jl.qn ?_
 exact Jq.fin () (.inr rfl) rfl RetVs.nil rfl zT zF
theorem dgo_ct (b : Br) (z : BrA) (bb : Nat) (L : Option Addr) (cL : Nat) : DeedCt 101 b bb z L cL [] (if b.rf.pa = true then { b with rf := { b.rf with pa := false, sp := IntKind.i64.wrap (b.rf.sp + 1) } } else b) := by
 obtain ⟨⟨M, cM⟩, ⟨I, cI⟩, ⟨K, cK⟩⟩ := z
 refine Ct.of _ Tryz.func101 Tryz.ntmps101 rfl rfl (fun X W => ?_)
 refine Jc.qs<|Jc.qr<|Jl.pv (PR.qm rfl)<|Jl.pv (PR.nilCheck rfl)<|Jl.pv (PR.qf rfl tfl38_6)<|Jl.pv (PR.qf rfl tfl36_4) ?_
 refine Jl.pv (PR.load1 rfl tsh4 zH (by rfl)) ?_
 refine Jl.qn<|Jq.qt ?_
 refine Jc.cond rfl (fun h0 => ?_) (fun h0 => ?_)
 · try replace h0 := zV h0
   refine Jc.qs<|Jc.qr<|Jl.pv (PR.qm rfl)<|Jl.pv (PR.nilCheck rfl)<|Jl.pv (PR.qf rfl tfl38_6)<|Jl.pv (PR.qf rfl tfl36_4) ?_
   refine Jl.store1 rfl tsh4 rfl (by rfl) zS (by rfl) ?_
   refine Jl.qn<|Jq.qt<|Jc.qr<|Jl.pv (PR.qm rfl)<|Jl.pv (PR.nilCheck rfl)<|Jl.pv (PR.qf rfl tfl38_6)<|Jl.pv (PR.qf rfl tfl36_3) ?_
   refine Jl.pv (PR.load1 rfl tsh3 zH (by rfl)) ?_
   refine Jl.pv (PR.add _ rfl rfl rfl) ?_
   refine Jl.pv (PR.nilCheck rfl)<|Jl.pv (PR.qf rfl tfl38_6)<|Jl.pv (PR.qf rfl tfl36_3) ?_
   refine Jl.store1 rfl tsh3 rfl (by rfl) zS (by rfl) ?_
   refine Jl.qn ?_
   rw [if_pos h0]
   exact Jq.fin () (.inr rfl) rfl RetVs.nil rfl zT zF
 try replace h0 := zW h0
 refine Jc.skip ?_
 rw [if_neg (by simp [h0])]
 exact Jq.fin () (.inr rfl) rfl RetVs.nil rfl zT zF
theorem kept1_ct (b : Br) (z : BrA) (bb bd : Nat) (L : Option Addr) (cL : Nat) (id : Int) (l : List Int) (hm : b.kps.length ≤ 1000000) (inner : FuncId) (hen : ∀ args w, (callFunc inner args).run Tryz.prog w = .ok (.enter inner args) w) (T : Br)
    (hno : b.findK id = none → T = b) (hin : ∀ i, b.findK id = some i → DeedK inner b bb z L cL (id :: l) i T) :
    Ct Tryz.prog 119 [ptr bb, .slice L (id :: l).length cL, ptr bd] (.blk bd 136 [.func (.func inner) #[] #[]] :: b.st bb z) [.rd L (i64s (id :: l))] (fun _ : Unit => .tuple #[]) (fun _ => T.st bb z) (fun _ => []) := by
  obtain ⟨⟨M, cM⟩, ⟨I, cI⟩, ⟨K, cK⟩⟩ := z
  cases hf : b.findK id with
  | none =>
    obtain rfl := hno hf
    refine Ct.of _ Tryz.func119 Tryz.ntmps119 rfl rfl (fun X W => ?_)
    refine Jc.qs ?_
    refine Jc.drawn [0, 1, 3, 0, 8, 24, 63, 127] ([(7, false)], []) [⟨[(0, false), (1, false), (2, false), (3, false), (4, false), (5, false)], [], 6⟩] tmx (by kernel_rfl) ?_
    refine Dh.JH.cons<|Dh.JB.pv rfl trivial (fun _ => PR.qm rfl) ?_
    refine Dh.JB.pv rfl trivial (fun _ => PR.nilCheck rfl) ?_
    refine Dh.JB.rd [.blk _ _ _] rfl trivial zT (fun _ => PR.loadA rfl tsh38 Has.here (by rfl)) ?_
    refine Dh.JB.pv rfl trivial (fun _ => PR.qm rfl) ?_
    refine Dh.JB.pv rfl trivial (fun _ => PR.idx1 0 rfl rfl tsl23 zM (by simp [i64s]) rfl (by simp)) ?_
    refine Dh.JB.pv rfl trivial (fun _ => PR.loadR rfl tsh3 zM rfl) ?_
    refine Dh.JB.nil<|Dh.JL.nil ?_
    refine Dh.JE.mk rfl (fun _ h => by cases h) (fun C0_6 => ?_)
    refine Jl.calll (fs := []) (cs := []) (bfind_ct T ((M, cM), (I, cI), (K, cK)) id hm) en116 rfl (by rfl) (by rfl) zT (ls := [T.rM ((M, cM), (I, cI), (K, cK)), T.rI ((M, cM), (I, cI), (K, cK)), T.rK ((M, cM), (I, cI), (K, cK))]) zT zL zF ?_
    rintro ⟨⟩
    refine Jl.as (.int .i64 (-1)) (by rw [hf]; rfl) ?_
    refine Jl.qn ?_
    refine Dh.Jq.segV zX ?_ zK
    refine Dh.JH.nil ?_
    refine Dh.JB.pv rfl trivial (fun _ => PR.qa rfl) ?_
    refine Dh.JB.nil<|Dh.JL.nil<|Jq.qt<|Jc.qs<|Jc.qr<|Jl.pv (PR.qm rfl) ?_
    refine Jl.pv (PR.geq false rfl rfl (by decide)) ?_
    refine Jl.qn<|Jq.qt<|Jc.condF rfl<|Jc.skip ?_
    exact Jq.fin () (.inr rfl) rfl RetVs.nil rfl zT zF
  | some i =>
    have hct := hin i hf
    refine Ct.of _ Tryz.func119 Tryz.ntmps119 rfl rfl (fun X W => ?_)
    refine Jc.qs ?_
    refine Jc.drawn [0, 1, 3, 0, 8, 24, 63, 127] ([(7, false)], []) [⟨[(0, false), (1, false), (2, false), (3, false), (4, false), (5, false)], [], 6⟩] tmx (by kernel_rfl) ?_
    refine Dh.JH.cons<|Dh.JB.pv rfl trivial (fun _ => PR.qm rfl) ?_
    refine Dh.JB.pv rfl trivial (fun _ => PR.nilCheck rfl) ?_
    refine Dh.JB.rd [.blk _ _ _] rfl trivial zT (fun _ => PR.loadA rfl tsh38 Has.here (by rfl)) ?_
    refine Dh.JB.pv rfl trivial (fun _ => PR.qm rfl) ?_
    refine Dh.JB.pv rfl trivial (fun _ => PR.idx1 0 rfl rfl tsl23 zM (by simp [i64s]) rfl (by simp)) ?_
    refine Dh.JB.pv rfl trivial (fun _ => PR.loadR rfl tsh3 zM rfl) ?_
    refine Dh.JB.nil<|Dh.JL.nil ?_
    refine Dh.JE.mk rfl (fun _ h => by cases h) (fun C0_6 => ?_)
    refine Jl.calll (fs := []) (cs := []) (bfind_ct b ((M, cM), (I, cI), (K, cK)) id hm) en116 rfl (by rfl) (by rfl) zT (ls := [b.rM ((M, cM), (I, cI), (K, cK)), b.rI ((M, cM), (I, cI), (K, cK)), b.rK ((M, cM), (I, cI), (K, cK))]) zT zL zF ?_
    rintro ⟨⟩
    refine Jl.as (.int .i64 (i : Int)) (by rw [hf]; rfl) ?_
    refine Jl.qn ?_
    refine Dh.Jq.segV zX ?_ zK
    refine Dh.JH.nil ?_
    refine Dh.JB.pv rfl trivial (fun _ => PR.qa rfl) ?_
    refine Dh.JB.nil<|Dh.JL.nil<|Jq.qt<|Jc.qs<|Jc.qr<|Jl.pv (PR.qm rfl) ?_
    refine Jl.pv (PR.geq true rfl rfl (decide_eq_true (by omega))) ?_
    refine Jl.qn<|Jq.qt<|Jc.condT rfl<|Jc.qr ?_
    refine Jl.pv (PR.load1 rfl tsh136 zH (by rfl)) ?_
    refine Jl.pv (PR.qm rfl)<|Jl.pv (PR.qm rfl)<|Jl.pv (PR.qm rfl) ?_
    refine Jl.callv hct hen rfl (by rfl) (by rfl) zT zF ?_
    rintro ⟨⟩
    refine Jl.qn ?_
    exact Jq.fin () (.inr rfl) rfl RetVs.nil rfl zT zF
theorem active1_ct (b : Br) (z : BrA) (bb bd : Nat) (L : Option Addr) (cL : Nat) (l : List Int) (inner : FuncId) (hen : ∀ args w, (callFunc inner args).run Tryz.prog w = .ok (.enter inner args) w) (T U : Br)
 (hU : U = if b.act = true then T else b) (hin : b.act = true → DeedCt inner b bb z L cL l T) :
 Ct Tryz.prog 121 [ptr bb, .slice L l.length cL, ptr bd] (.blk bd 116 [.func (.func inner) #[] #[]] :: b.st bb z) [.rd L (i64s l)] (fun _ : Unit => .tuple #[]) (fun _ => U.st bb z) (fun _ => []) := by
 obtain ⟨⟨M, cM⟩, ⟨I, cI⟩, ⟨K, cK⟩⟩ := z
 by_cases ha : b.act = true
 · obtain rfl := hU.trans (if_pos ha)
   have hct := hin ha
   have hst : b.rf.st.toNat = 1 := of_decide_eq_true ha
   refine Ct.of _ Tryz.func121 Tryz.ntmps121 rfl rfl (fun X W => ?_)
   refine Jc.qs<|Jc.qr<|Jl.pv (PR.qm rfl)<|Jl.pv (PR.nilCheck rfl)<|Jl.pv (PR.qf rfl tfl38_6)<|Jl.pv (PR.qf rfl tfl36_0) ?_
   refine Jl.pv (PR.load1 rfl tsh5 zH (by rfl)) ?_
   refine Jl.pv (PR.eql true rfl rfl (decide_eq_true (by omega))) ?_
   refine Jl.qn<|Jq.qt<|Jc.condT rfl<|Jc.qr ?_
   refine Jl.pv (PR.load1 rfl tsh116 zH (by rfl)) ?_
   refine Jl.pv (PR.qm rfl)<|Jl.pv (PR.qm rfl) ?_
   refine Jl.callv hct hen rfl (by rfl) (by rfl) zT zF ?_
   rintro ⟨⟩
   refine Jl.qn ?_
   exact Jq.fin () (.inr rfl) rfl RetVs.nil rfl zT zF
 · have hst : ¬ b.rf.st.toNat = 1 := fun h => ha (decide_eq_true h)
   obtain rfl := hU.trans (if_neg ha)
   refine Ct.of _ Tryz.func121 Tryz.ntmps121 rfl rfl (fun X W => ?_)
   refine Jc.qs<|Jc.qr<|Jl.pv (PR.qm rfl)<|Jl.pv (PR.nilCheck rfl)<|Jl.pv (PR.qf rfl tfl38_6)<|Jl.pv (PR.qf rfl tfl36_0) ?_
   refine Jl.pv (PR.load1 rfl tsh5 zH (by rfl)) ?_
   refine Jl.pv (PR.eql false rfl rfl (decide_eq_false (by omega))) ?_
   refine Jl.qn<|Jq.qt<|Jc.condF rfl<|Jc.skip ?_
   exact Jq.fin () (.inr rfl) rfl RetVs.nil rfl zT zF
end Go.Proofs.YtakbgccddokbbaaGreatDoor
namespace Go.Proofs.YtakbgccddokbbaaGreatDoor
open Go.RowKit
attribute [local irreducible] Res.blk Res.row Fact.rd Res.mapV
theorem kept_ct (many : Int) (f : FuncId) : Ct Tryz.prog 88 [.int .i64 many, .func (.func f) #[] #[]] [] [] (fun b : Nat => .agg #[.int .i64 many, .func (.func 119) #[] #[ptr b]]) (fun b => [.blk b 136 [.func (.func f) #[] #[]]]) (fun _ => []) := by
 refine Ct.of _ Tryz.func88 Tryz.ntmps88 rfl rfl (fun X W => ?_)
 refine Jc.qs<|Jc.qr ?_
 refine Jl.box rfl (by rfl) ?_
 intro b3
 refine Jl.alloc tze118 ?_
 intro b4
 refine Jl.qn<|Jq.qt<|Jc.qs<|Jc.qr<|Jl.pv (PR.qm rfl) ?_
 refine Jl.pv (PR.makeFunc rfl rfl) ?_
 refine Jl.pv (PR.build (by rfl) tze118 tpl118_0_1 (by rfl)) ?_
 refine Jl.storeW rfl tsh118 rfl (by rfl) (by simp [Value.oneCell']) zS (by rfl) ?_
 refine Jl.qn<|Jq.qt<|Jc.ret ?_
 exact Jq.fin b3 (.inl rfl) rfl (RetVs.cellA rfl zH tsh118 (by rfl) RetVs.nil) rfl zT zF
theorem active_ct (many : Int) (f : FuncId) : Ct Tryz.prog 96 [.int .i64 many, .func (.func f) #[] #[]] [] [] (fun b : Nat => .agg #[.int .i64 many, .func (.func 121) #[] #[ptr b]]) (fun b => [.blk b 116 [.func (.func f) #[] #[]]]) (fun _ => []) := by
 refine Ct.of _ Tryz.func96 Tryz.ntmps96 rfl rfl (fun X W => ?_)
 refine Jc.qs<|Jc.qr ?_
 refine Jl.box rfl (by rfl) ?_
 intro b3
 refine Jl.alloc tze118 ?_
 intro b4
 refine Jl.qn<|Jq.qt<|Jc.qs<|Jc.qr<|Jl.pv (PR.qm rfl) ?_
 refine Jl.pv (PR.makeFunc rfl rfl) ?_
 refine Jl.pv (PR.build (by rfl) tze118 tpl118_0_1 (by rfl)) ?_
 refine Jl.storeW rfl tsh118 rfl (by rfl) (by simp [Value.oneCell']) zS (by rfl) ?_
 refine Jl.qn<|Jq.qt<|Jc.ret ?_
 exact Jq.fin b3 (.inl rfl) rfl (RetVs.cellA rfl zH tsh118 (by rfl) RetVs.nil) rfl zT zF
structure Dp where
 k6 : Nat
 k7 : Nat
 k9 : Nat
 k10 : Nat
 k5 : Nat
 k12 : Nat
 k13 : Nat
 k14 : Nat
 k15 : Nat
 k16 : Nat
def deedM (p : Dp) : Int → Option Value := fun k =>
 if k = 16 then some (.agg #[.int .i64 0, .func (.func 121) #[] #[ptr p.k16]]) else
 if k = 15 then some (.agg #[.int .i64 0, .func (.func 121) #[] #[ptr p.k15]]) else
 if k = 14 then some (.agg #[.int .i64 1, .func (.func 121) #[] #[ptr p.k14]]) else
 if k = 13 then some (.agg #[.int .i64 0, .func (.func 121) #[] #[ptr p.k13]]) else
 if k = 12 then some (.agg #[.int .i64 0, .func (.func 121) #[] #[ptr p.k12]]) else
 if k = 5 then some (.agg #[.int .i64 1, .func (.func 121) #[] #[ptr p.k5]]) else
 if k = 11 then some (.agg #[.int .i64 2, .func (.func 95) #[] #[]]) else
 if k = 10 then some (.agg #[.int .i64 1, .func (.func 119) #[] #[ptr p.k10]]) else
 if k = 9 then some (.agg #[.int .i64 2, .func (.func 119) #[] #[ptr p.k9]]) else
 if k = 7 then some (.agg #[.int .i64 1, .func (.func 119) #[] #[ptr p.k7]]) else
 if k = 6 then some (.agg #[.int .i64 3, .func (.func 119) #[] #[ptr p.k6]]) else
 if k = 8 then some (.agg #[.int .i64 5, .func (.func 87) #[] #[]]) else
 if k = 4 then some (.agg #[.int .i64 3, .func (.func 86) #[] #[]]) else
 if k = 3 then some (.agg #[.int .i64 3, .func (.func 85) #[] #[]]) else
 if k = 1 then some (.agg #[.int .i64 0, .func (.func 84) #[] #[]]) else none
abbrev Dp.caps (p : Dp) : List Res := [.blk p.k16 116 [.func (.func 102) #[] #[]], .blk p.k15 116 [.func (.func 101) #[] #[]],
 .blk p.k14 116 [.func (.func 100) #[] #[]], .blk p.k13 116 [.func (.func 99) #[] #[]], .blk p.k12 116 [.func (.func 98) #[] #[]],
 .blk p.k5 116 [.func (.func 97) #[] #[]], .blk p.k10 136 [.func (.func 94) #[] #[]], .blk p.k9 136 [.func (.func 93) #[] #[]],
 .blk p.k7 136 [.func (.func 91) #[] #[]], .blk p.k6 136 [.func (.func 89) #[] #[]]]
theorem deeds_ct : Ct Tryz.prog 73 [] [] [] (fun x : Nat × Dp => .map (some x.1)) (fun x => .mapV Tryz.prog 5 .u8 x.1 15 (deedM x.2) :: x.2.caps) (fun _ => []) := by
 refine Ct.of _ Tryz.func73 Tryz.ntmps73 rfl rfl (fun X W => ?_)
 refine Jc.qs<|Jc.qr<|Jl.pv (PR.qa rfl)<|Jl.qn<|Jq.qt<|Jc.qs<|Jc.qr ?_
 refine Jl.makeMapV .u8 Tryz.underlying120 ?_
 intro b1
 refine Jl.pv (PR.build (by rfl) tze118 tpl118_0_1 (by rfl)) ?_
 refine Jl.insertV _ rfl rfl rfl Tryz.underlying120 Tryz.underlying5 zS (by decide) rfl (by decide) (fun _ => rfl) ?_
 refine Jl.pv (PR.build (by rfl) tze118 tpl118_0_1 (by rfl)) ?_
 refine Jl.insertV _ rfl rfl rfl Tryz.underlying120 Tryz.underlying5 zS (by decide) rfl (by decide) (fun _ => rfl) ?_
 refine Jl.pv (PR.build (by rfl) tze118 tpl118_0_1 (by rfl)) ?_
 refine Jl.insertV _ rfl rfl rfl Tryz.underlying120 Tryz.underlying5 zS (by decide) rfl (by decide) (fun _ => rfl) ?_
 refine Jl.pv (PR.build (by rfl) tze118 tpl118_0_1 (by rfl)) ?_
 refine Jl.insertV _ rfl rfl rfl Tryz.underlying120 Tryz.underlying5 zS (by decide) rfl (by decide) (fun _ => rfl) ?_
 refine Jl.call (kept_ct 3 89) en88 (by rfl) zT zF ?_
 rintro p6
 refine Jl.insertV _ rfl rfl rfl Tryz.underlying120 Tryz.underlying5 zS (by decide) rfl (by decide) (fun _ => rfl) ?_
 refine Jl.call (kept_ct 1 91) en88 (by rfl) zT zF ?_
 rintro p7
 refine Jl.insertV _ rfl rfl rfl Tryz.underlying120 Tryz.underlying5 zS (by decide) rfl (by decide) (fun _ => rfl) ?_
 refine Jl.call (kept_ct 2 93) en88 (by rfl) zT zF ?_
 rintro p9
 refine Jl.insertV _ rfl rfl rfl Tryz.underlying120 Tryz.underlying5 zS (by decide) rfl (by decide) (fun _ => rfl) ?_
 refine Jl.call (kept_ct 1 94) en88 (by rfl) zT zF ?_
 rintro p10
 refine Jl.insertV _ rfl rfl rfl Tryz.underlying120 Tryz.underlying5 zS (by decide) rfl (by decide) (fun _ => rfl) ?_
 refine Jl.pv (PR.build (by rfl) tze118 tpl118_0_1 (by rfl)) ?_
 refine Jl.insertV _ rfl rfl rfl Tryz.underlying120 Tryz.underlying5 zS (by decide) rfl (by decide) (fun _ => rfl) ?_
 refine Jl.call (active_ct 1 97) en96 (by rfl) zT zF ?_
 rintro p5
 refine Jl.insertV _ rfl rfl rfl Tryz.underlying120 Tryz.underlying5 zS (by decide) rfl (by decide) (fun _ => rfl) ?_
 refine Jl.call (active_ct 0 98) en96 (by rfl) zT zF ?_
 rintro p12
 refine Jl.insertV _ rfl rfl rfl Tryz.underlying120 Tryz.underlying5 zS (by decide) rfl (by decide) (fun _ => rfl) ?_
 refine Jl.call (active_ct 0 99) en96 (by rfl) zT zF ?_
 rintro p13
 refine Jl.insertV _ rfl rfl rfl Tryz.underlying120 Tryz.underlying5 zS (by decide) rfl (by decide) (fun _ => rfl) ?_
 refine Jl.call (active_ct 1 100) en96 (by rfl) zT zF ?_
 rintro p14
 refine Jl.insertV _ rfl rfl rfl Tryz.underlying120 Tryz.underlying5 zS (by decide) rfl (by decide) (fun _ => rfl) ?_
 refine Jl.call (active_ct 0 101) en96 (by rfl) zT zF ?_
 rintro p15
 refine Jl.insertV _ rfl rfl rfl Tryz.underlying120 Tryz.underlying5 zS (by decide) rfl (by decide) (fun _ => rfl) ?_
 refine Jl.call (active_ct 0 102) en96 (by rfl) zT zF ?_
 rintro p16
 refine Jl.insertV _ rfl rfl rfl Tryz.underlying120 Tryz.underlying5 zS (by decide) rfl (by decide) (fun _ => rfl) ?_
 refine Jl.pv (PR.qm rfl)<|Jl.pv (PR.qa rfl)<|Jl.qn<|Jq.qt<|Jc.ret ?_
 exact Jq.fin (b1, ⟨p6, p7, p9, p10, p5, p12, p13, p14, p15, p16⟩) (.inl rfl) rfl (RetVs.tmp rfl RetVs.nil) rfl zT zF
def dM : Nat → Int
 | 3 => 3 | 4 => 3 | 5 => 1 | 6 => 3 | 7 => 1 | 8 => 5 | 9 => 2 | 10 => 1 | 11 => 2 | 14 => 1 | _ => 0
def dT (k : Nat) : Bool := decide (1 ≤ k ∧ k ≤ 16 ∧ k ≠ 2)
def dF (p : Dp) : Nat → Value
 | 1 => .func (.func 84) #[] #[] | 3 => .func (.func 85) #[] #[] | 4 => .func (.func 86) #[] #[] | 8 => .func (.func 87) #[] #[] | 11 => .func (.func 95) #[] #[]
 | 6 => .func (.func 119) #[] #[ptr p.k6] | 7 => .func (.func 119) #[] #[ptr p.k7] | 9 => .func (.func 119) #[] #[ptr p.k9] | 10 => .func (.func 119) #[] #[ptr p.k10]
 | 5 => .func (.func 121) #[] #[ptr p.k5] | 12 => .func (.func 121) #[] #[ptr p.k12] | 13 => .func (.func 121) #[] #[ptr p.k13] | 14 => .func (.func 121) #[] #[ptr p.k14] | 15 => .func (.func 121) #[] #[ptr p.k15] | 16 => .func (.func 121) #[] #[ptr p.k16]
 | _ => .nilFunc
theorem deedM_at (p : Dp) : ∀ k : Nat, (deedM p (k : Int)).getD (.agg #[.int .i64 0, .nilFunc]) = .agg #[.int .i64 (dM k), dF p k] ∧ (deedM p (k : Int)).isSome = dT k
  | 0 => ⟨rfl, rfl⟩ | 1 => ⟨rfl, rfl⟩ | 2 => ⟨rfl, rfl⟩ | 3 => ⟨rfl, rfl⟩ | 4 => ⟨rfl, rfl⟩ | 5 => ⟨rfl, rfl⟩ | 6 => ⟨rfl, rfl⟩ | 7 => ⟨rfl, rfl⟩ | 8 => ⟨rfl, rfl⟩ | 9 => ⟨rfl, rfl⟩ | 10 => ⟨rfl, rfl⟩ | 11 => ⟨rfl, rfl⟩ | 12 => ⟨rfl, rfl⟩ | 13 => ⟨rfl, rfl⟩ | 14 => ⟨rfl, rfl⟩ | 15 => ⟨rfl, rfl⟩ | 16 => ⟨rfl, rfl⟩
  | k + 17 => by
    have e : deedM p ((k + 17 : Nat) : Int) = none := by
      unfold deedM
      rw [if_neg (by omega), if_neg (by omega), if_neg (by omega), if_neg (by omega), if_neg (by omega), if_neg (by omega), if_neg (by omega), if_neg (by omega), if_neg (by omega), if_neg (by omega), if_neg (by omega), if_neg (by omega), if_neg (by omega), if_neg (by omega), if_neg (by omega)]
    rw [e]
    refine ⟨rfl, ?_⟩
    simp [dT]
theorem deed_no {b : Br} {k : Nat} {l : List Int} (hk : k ≠ 2) (h : ¬ (dT k = true ∧ (l.length : Int) = dM k)) : b.deed k l = b := by
 unfold Br.deed
 split <;> first | rfl | (exfalso; exact h ⟨rfl, rfl⟩)
theorem dF_one (p : Dp) (k : Nat) : (dF p k).oneCell' = true := by
 unfold dF
 split <;> rfl
theorem bgroup_ct (b : Br) (z : BrA) (bb : Nat) (L : Option Addr) (cL : Nat) (l : List Int) (hn : l.length ≤ 1000) (hc : l.length ≤ cL) : Ct Tryz.prog 76 [ptr bb, .slice L l.length cL] (b.st bb z) [.rd L (i64s l), .lim] (fun _ : BrA => .tuple #[]) (fun x => (b.group l).st bb x) (fun _ => []) := by
 obtain ⟨⟨M, cM⟩, ⟨I, cI⟩, ⟨K, cK⟩⟩ := z
 by_cases he : cfE l = 0
 · by_cases hs : b.set = true
   · have e : b.group l = { b with cf := { cfOf l with ve := b.cf.ve }, set := true } := by rw [Br.group, if_pos he, if_pos hs]
     rw [e]
     refine Ct.of _ Tryz.func76 Tryz.ntmps76 rfl rfl (fun X W => ?_)
     refine Jc.qs<|Jc.qr<|Jl.pv (PR.qm rfl) ?_
     refine Jl.call (cof_ct L cL l hn hc) en104 (by rfl) zT zF ?_
     rintro ⟨A8, c8⟩
     refine Jl.pv (PR.qm rfl) ?_
     refine Jl.pv (PR.extract rfl (by rfl)) ?_
     refine Jl.pv (PR.extract rfl (by rfl)) ?_
     refine Jl.alloc tze32 ?_
     intro b4
     refine Jl.storeW rfl tsh32 rfl (by rfl) (by first | exact Br.cs_one _ _ | simp [Value.oneCell', Cf.cs]) zS (by rfl) ?_
     refine Jl.pv (PR.qa rfl)<|Jl.qn<|Jq.qt<|Jc.qs<|Jc.qs<|Jc.qr<|Jl.pv (PR.qm rfl) ?_
     refine Jl.pv (PR.neq false rfl rfl (by rw [he]; rfl)) ?_
     refine Jl.qn<|Jq.qt<|Jc.condF rfl<|Jc.skip<|Jq.qt<|Jc.qs<|Jc.qs<|Jc.qr<|Jl.pv (PR.qm rfl)<|Jl.pv (PR.nilCheck rfl)<|Jl.pv (PR.qf rfl tfl38_2) ?_
     refine Jl.pv (PR.load1 rfl tsh4 zH (by rfl)) ?_
     refine Jl.as (.bool true) (congrArg Value.bool hs) ?_
     refine Jl.qn<|Jq.qt<|Jc.condT rfl<|Jc.qr<|Jl.pv (PR.qm rfl)<|Jl.pv (PR.nilCheck rfl)<|Jl.pv (PR.qf rfl tfl38_3)<|Jl.pv (PR.qf rfl tfl32_12) ?_
     refine Jl.pv (PR.load1 rfl tsh3 zH (by rfl)) ?_
     refine Jl.pv (PR.qf rfl tfl32_12) ?_
     refine Jl.store1 rfl tsh3 rfl (by rfl) zS (by rfl) ?_
     refine Jl.qn<|Jq.qt<|Jc.qr<|Jl.pv (PR.qm rfl)<|Jl.pv (PR.qm rfl) ?_
     refine Jl.pv (PR.loadW rfl tsh32 zH (by rfl)) ?_
     refine Jl.pv (PR.nilCheck rfl)<|Jl.pv (PR.qf rfl tfl38_3) ?_
     refine Jl.storeA rfl tsh32 rfl (by rfl) (by first | exact Br.cs_one _ _ | simp [Value.oneCell', Cf.cs]) zS (by rfl) ?_
     refine Jl.pv (PR.nilCheck rfl)<|Jl.pv (PR.qf rfl tfl38_2) ?_
     refine Jl.store1 rfl tsh4 rfl (by rfl) zS (by rfl) ?_
     refine Jl.qn ?_
     exact Jq.fin ((A8, c8), (I, cI), (K, cK)) (.inr rfl) rfl RetVs.nil rfl zT zF
   · have e : b.group l = { b with cf := cfOf l, set := true } := by rw [Br.group, if_pos he, if_neg hs]
     rw [e]
     refine Ct.of _ Tryz.func76 Tryz.ntmps76 rfl rfl (fun X W => ?_)
     refine Jc.qs<|Jc.qr<|Jl.pv (PR.qm rfl) ?_
     refine Jl.call (cof_ct L cL l hn hc) en104 (by rfl) zT zF ?_
     rintro ⟨A8, c8⟩
     refine Jl.pv (PR.qm rfl) ?_
     refine Jl.pv (PR.extract rfl (by rfl)) ?_
     refine Jl.pv (PR.extract rfl (by rfl)) ?_
     refine Jl.alloc tze32 ?_
     intro b4
     refine Jl.storeW rfl tsh32 rfl (by rfl) (by first | exact Br.cs_one _ _ | simp [Value.oneCell', Cf.cs]) zS (by rfl) ?_
     refine Jl.pv (PR.qa rfl)<|Jl.qn<|Jq.qt<|Jc.qs<|Jc.qs<|Jc.qr<|Jl.pv (PR.qm rfl) ?_
     refine Jl.pv (PR.neq false rfl rfl (by rw [he]; rfl)) ?_
     refine Jl.qn<|Jq.qt<|Jc.condF rfl<|Jc.skip<|Jq.qt<|Jc.qs<|Jc.qs<|Jc.qr<|Jl.pv (PR.qm rfl)<|Jl.pv (PR.nilCheck rfl)<|Jl.pv (PR.qf rfl tfl38_2) ?_
     refine Jl.pv (PR.load1 rfl tsh4 zH (by rfl)) ?_
     refine Jl.as (.bool false) (congrArg Value.bool (by simpa using hs)) ?_
     refine Jl.qn<|Jq.qt<|Jc.condF rfl<|Jc.skip<|Jq.qt<|Jc.qr<|Jl.pv (PR.qm rfl)<|Jl.pv (PR.qm rfl) ?_
     refine Jl.pv (PR.loadW rfl tsh32 zH (by rfl)) ?_
     refine Jl.pv (PR.nilCheck rfl)<|Jl.pv (PR.qf rfl tfl38_3) ?_
     refine Jl.storeA rfl tsh32 rfl (by rfl) (by first | exact Br.cs_one _ _ | simp [Value.oneCell', Cf.cs]) zS (by rfl) ?_
     refine Jl.pv (PR.nilCheck rfl)<|Jl.pv (PR.qf rfl tfl38_2) ?_
     refine Jl.store1 rfl tsh4 rfl (by rfl) zS (by rfl) ?_
     refine Jl.qn ?_
     exact Jq.fin ((A8, c8), (I, cI), (K, cK)) (.inr rfl) rfl RetVs.nil rfl zT zF
 · have e : b.group l = b := by rw [Br.group, if_neg he]
   rw [e]
   refine Ct.of _ Tryz.func76 Tryz.ntmps76 rfl rfl (fun X W => ?_)
   refine Jc.qs<|Jc.qr<|Jl.pv (PR.qm rfl) ?_
   refine Jl.call (cof_ct L cL l hn hc) en104 (by rfl) zT zF ?_
   rintro ⟨A8, c8⟩
   refine Jl.pv (PR.qm rfl) ?_
   refine Jl.pv (PR.extract rfl (by rfl)) ?_
   refine Jl.pv (PR.extract rfl (by rfl)) ?_
   refine Jl.alloc tze32 ?_
   intro b4
   refine Jl.storeW rfl tsh32 rfl (by rfl) (by first | exact Br.cs_one _ _ | simp [Value.oneCell', Cf.cs]) zS (by rfl) ?_
   refine Jl.pv (PR.qa rfl)<|Jl.qn<|Jq.qt<|Jc.qs<|Jc.qs<|Jc.qr<|Jl.pv (PR.qm rfl) ?_
   refine Jl.pv (PR.neq true rfl rfl (by simpa using he)) ?_
   refine Jl.qn<|Jq.qt<|Jc.condT rfl<|Jc.ret<|Jq.thenR ?_
   exact Jq.fin ((M, cM), (I, cI), (K, cK)) (.inl rfl) rfl RetVs.nil rfl zT zF
end Go.Proofs.YtakbgccddokbbaaGreatDoor
namespace Go.Proofs.YtakbgccddokbbaaGreatDoor
open Go.RowKit
attribute [local irreducible] Res.blk Res.row Fact.rd
end Go.Proofs.YtakbgccddokbbaaGreatDoor
namespace Go.Proofs.YtakbgccddokbbaaGreatDoor
open Go.RowKit
attribute [local irreducible] Res.blk Res.row Fact.rd
end Go.Proofs.YtakbgccddokbbaaGreatDoor
namespace Go.Proofs.YtakbgccddokbbaaGreatDoor
open Go.RowKit
attribute [local irreducible] Res.blk Res.row Fact.rd
end Go.Proofs.YtakbgccddokbbaaGreatDoor
namespace Go.Proofs.YtakbgccddokbbaaGreatDoor
open Go.RowKit
attribute [local irreducible] Res.blk Res.row Fact.rd
end Go.Proofs.YtakbgccddokbbaaGreatDoor
namespace Go.Proofs.YtakbgccddokbbaaGreatDoor
open Go.RowKit
attribute [local irreducible] Res.blk Res.row Fact.rd Res.mapV
def badN (n : Int) : Bool := decide (n < 0) || decide (1099511627776 < n)
theorem two_one {a b : Value} (h1 : a.oneCell' = true) (h2 : b.oneCell' = true) : ∀ u ∈ [a, b], u.oneCell' = true := by
 intro u hu
 simp only [List.mem_cons, List.not_mem_nil, or_false] at hu
 rcases hu with rfl | rfl
 · exact h1
 · exact h2
theorem bad1_ct (n : Int) : Ct Tryz.prog 75 [.int .i64 n] [] [] (fun _ : Unit => .bool (badN n)) (fun _ => []) (fun _ => []) := by
 refine Ct.of _ Tryz.func75 Tryz.ntmps75 rfl rfl (fun X W => ?_)
 refine Jc.qs<|Jc.qr<|Jl.pv (PR.qa rfl)<|Jl.qn<|Jq.qt<|Jc.qs<|Jc.qr<|Jl.pv (PR.qm rfl) ?_
 refine Jl.pv (PR.lss _ rfl rfl rfl) ?_
 refine Jl.pv (PR.qm rfl) ?_
 refine Jl.bsplit (fun g5 => ?_) (fun g5 => ?_)
 · try replace g5 := zV g5
   refine Jl.qo rfl rfl rfl<|Jl.qo rfl rfl rfl<|Jl.pv (PR.pickT rfl rfl)<|Jl.pv (PR.qa rfl)<|Jl.qn<|Jq.qt<|Jc.ret ?_
   exact Jq.fin () (.inl rfl) rfl (RetVs.tmp rfl RetVs.nil) (congrArg Value.bool (by rw [Bool.eq_iff_iff]; simp [badN] <;> omega)) zT zF
 try replace g5 := zW g5
 refine Jl.on rfl rfl<|Jl.pv (PR.qm rfl)<|Jl.on rfl rfl ?_
 refine Jl.pv (PR.gtr _ rfl rfl rfl) ?_
 refine Jl.pv (PR.pickF rfl rfl)<|Jl.pv (PR.qa rfl)<|Jl.qn<|Jq.qt<|Jc.ret ?_
 exact Jq.fin () (.inl rfl) rfl (RetVs.tmp rfl RetVs.nil) (congrArg Value.bool (by rw [Bool.eq_iff_iff]; simp [badN] <;> omega)) zT zF
theorem any_bad (l : List Int) : l.any badN = !numsOk l := by
 rw [numsOk, List.not_all_eq_any_not]
 congr 1
 funext n
 rw [Bool.eq_iff_iff]
 simp [badN] <;> omega
def DeedOk (φ : Fact) (b : Br) (z : BrA) (r : Rc) (x : AdC) : Prop :=
  ∀ (p : Dp) (bb : Nat), ∃ (f : FuncId) (cs : List Value), dF p r.k.toNat = .func (.func f) #[] cs.toArray ∧ (∀ args w, (callFunc f args).run Tryz.prog w = .ok (.enter f args) w) ∧
    Ct Tryz.prog f ([ptr bb, .slice x.1 r.l.length x.2] ++ cs) (p.caps ++ b.st bb z) [.rd x.1 (i64s r.l), .lim, φ] (fun _ : BrA => .tuple #[]) (fun z' => (b.deed r.k.toNat r.l).st bb z') (fun _ => [])
theorem apply_ct (φ : Fact) (b : Br) (z : BrA) (bb : Nat) (r : Rc) (x : AdC) (hn : r.l.length ≤ 1000) (hc : r.l.length ≤ x.2) (hD : r.k.toNat ≠ 2 → dT r.k.toNat = true → (r.l.length : Int) = dM r.k.toNat → numsOk r.l = true → DeedOk φ b z r x) (hE : r.k.toNat ≠ 2 → ¬ (dT r.k.toNat = true ∧ (r.l.length : Int) = dM r.k.toNat) → b.deed r.k.toNat r.l = b) :
 Ct Tryz.prog 54 [ptr bb, r.v x] (b.st bb z) [.rd x.1 (i64s r.l), .lim, φ] (fun _ : BrA => .tuple #[]) (fun z' => (b.apply r).st bb z') (fun _ => []) := by
 obtain ⟨⟨M, cM⟩, ⟨I, cI⟩, ⟨K, cK⟩⟩ := z
 obtain ⟨A, cA⟩ := x
 have hab := any_bad r.l
 by_cases hnum : numsOk r.l = true
 · by_cases hk : r.k.toNat = 2
   · have e : b.apply r = b.group r.l := by rw [Br.apply, if_pos hnum, if_pos hk]
     rw [e]
     refine Ct.of _ Tryz.func54 Tryz.ntmps54 rfl rfl (fun X W => ?_)
     refine Jc.qs<|Jc.qr ?_
     refine Jl.box rfl (by rfl) ?_
     intro b3
     refine Jl.qn<|Jq.qt ?_
     refine Jc.scopeE (σ := BrA) (fun _ => []) (fun s => (b.group r.l).st bb s) (fun _ => []) (l := 0) rfl ?_ ?_
     · intro s
       exact Jq.fin s (.inr rfl) rfl RetVs.nil rfl zT zF
     refine Jc.qs ?_
     refine Jc.drawn [0, 0, 2, 7, 15, 31, 31, 0, 191, 511] ([(9, false)], []) [⟨[(1, false), (2, false), (7, true)], [], 0⟩, ⟨[], [], 3⟩, ⟨[(4, false), (5, false), (6, false)], [7], 8⟩] tmx (by kernel_rfl) ?_
     refine Dh.JH.cons<|Dh.JB.pv rfl trivial (fun _ => PR.qf rfl tfl54_0) ?_
     refine Dh.JB.rd [.blk _ _ _] rfl trivial zT (fun _ => PR.load1 rfl tsh5 Has.here (by rfl)) ?_
     refine Dh.JB.alloc rfl trivial tze118 ?_
     refine Dh.JB.nil<|Dh.JL.nil ?_
     refine Dh.JE.mk rfl (fun _ h => by cases h) (fun C1_0 => ?_)
     refine Jl.call deeds_ct en73 (by rfl) zT zF ?_
     rintro ⟨b7, p⟩
     refine Jl.qn ?_
     refine Dh.Jq.segV zX ?_ zK
     refine Dh.JH.cons<|Dh.JB.nil<|Dh.JL.nil ?_
     refine Dh.JE.mk rfl (fun _ h => by cases h) (fun C1_3 => ?_)
     refine Jl.pv (PR.lookupVO (.agg #[.int .i64 0, .nilFunc]) rfl rfl Tryz.underlying120 Tryz.underlying5 (fun _ => by kernel_rfl) zD (wfu8 r.k)) ?_
     refine Jl.as (.tuple #[.agg #[.int .i64 (dM r.k.toNat), dF p r.k.toNat], .bool (dT r.k.toNat)]) (by rw [(deedM_at p r.k.toNat).1, (deedM_at p r.k.toNat).2]) ?_
     refine Jl.qn ?_
     refine Dh.Jq.segV zX ?_ zK
     refine Dh.JH.cons<|Dh.JB.pv rfl trivial (fun _ => PR.qm rfl) ?_
     refine Dh.JB.pv rfl trivial (fun _ => PR.extract rfl (by rfl)) ?_
     refine Dh.JB.pv rfl trivial (fun _ => PR.extract rfl (by rfl)) ?_
     refine Dh.JB.nil ?_
     refine Dh.JL.ptr rfl (by repeat (first | exact Dh.es_here | apply Dh.es_there)) (fun b4 => ?_)
     refine Dh.JL.nil ?_
     refine Dh.JE.mk rfl (fun _ h => by cases h) (fun C1_8 => ?_)
     refine Jl.storeW rfl tsh118 rfl (by rfl) (by first | exact two_one rfl (dF_one _ _) | exact Br.cs_one _ _ | simp [Value.oneCell', Rc.cs]) zS (by rfl) ?_
     refine Jl.qn ?_
     refine Dh.Jq.segN zX ?_ zK
     refine Dh.JH.nil ?_
     refine Dh.JB.pv rfl trivial (fun _ => PR.qa rfl) ?_
     refine Dh.JB.nil<|Dh.JL.nil<|Jq.qt<|Jc.qs<|Jc.qs<|Jc.qr<|Jl.pv (PR.qf rfl tfl54_1) ?_
     refine Jl.pv (PR.load1 rfl tsh23 zH (by rfl)) ?_
     refine Jl.call (contains_ct badN A cA r.l (by omega) 75 bad1_ct en75) en74 (by rfl) zT zF ?_
     rintro ⟨⟩
     refine Jl.as (.bool false) (congrArg Value.bool (by rw [hab, hnum]; rfl)) ?_
     refine Jl.qn<|Jq.qt<|Jc.condF rfl<|Jc.skip<|Jq.qt<|Jc.qs<|Jc.qs<|Jc.qr<|Jl.pv (PR.qf rfl tfl54_0) ?_
     refine Jl.pv (PR.load1 rfl tsh5 zH (by rfl)) ?_
     refine Jl.pv (PR.eql true rfl rfl (decide_eq_true (by omega))) ?_
     refine Jl.qn<|Jq.qt<|Jc.condT rfl<|Jc.qs<|Jc.qr<|Jl.pv (PR.qm rfl)<|Jl.pv (PR.qf rfl tfl54_1) ?_
     refine Jl.pv (PR.load1 rfl tsh23 zH (by rfl)) ?_
     refine Jl.call (bgroup_ct b ((M, cM), (I, cI), (K, cK)) bb A cA r.l hn hc) en76 (by rfl) zT zF ?_
     rintro z'
     refine Jl.qn<|Jq.qt<|Jc.ret<|Jq.thenR ?_
     refine Jq.jmpR ?_
     exact Jq.fin z' (.inl rfl) rfl RetVs.nil rfl zT zF
   · have e : b.apply r = b.deed r.k.toNat r.l := by rw [Br.apply, if_pos hnum, if_neg hk]
     rw [e]
     by_cases ht : dT r.k.toNat = true ∧ (r.l.length : Int) = dM r.k.toNat
     · have hd := hD hk ht.1 ht.2 hnum
       refine Ct.of _ Tryz.func54 Tryz.ntmps54 rfl rfl (fun X W => ?_)
       refine Jc.qs<|Jc.qr ?_
       refine Jl.box rfl (by rfl) ?_
       intro b3
       refine Jl.qn<|Jq.qt ?_
       refine Jc.scopeE (σ := BrA) (fun _ => []) (fun s => (b.deed r.k.toNat r.l).st bb s) (fun _ => []) (l := 0) rfl ?_ ?_
       · intro s
         exact Jq.fin s (.inr rfl) rfl RetVs.nil rfl zT zF
       refine Jc.qs ?_
       refine Jc.drawn [0, 0, 2, 7, 15, 31, 31, 0, 191, 511] ([(9, false)], []) [⟨[(1, false), (2, false), (7, true)], [], 0⟩, ⟨[], [], 3⟩, ⟨[(4, false), (5, false), (6, false)], [7], 8⟩] tmx (by kernel_rfl) ?_
       refine Dh.JH.cons<|Dh.JB.pv rfl trivial (fun _ => PR.qf rfl tfl54_0) ?_
       refine Dh.JB.rd [.blk _ _ _] rfl trivial zT (fun _ => PR.load1 rfl tsh5 Has.here (by rfl)) ?_
       refine Dh.JB.alloc rfl trivial tze118 ?_
       refine Dh.JB.nil<|Dh.JL.nil ?_
       refine Dh.JE.mk rfl (fun _ h => by cases h) (fun C1_0 => ?_)
       refine Jl.call deeds_ct en73 (by rfl) zT zF ?_
       rintro ⟨b7, p⟩
       refine Jl.qn ?_
       refine Dh.Jq.segV zX ?_ zK
       refine Dh.JH.cons<|Dh.JB.nil<|Dh.JL.nil ?_
       refine Dh.JE.mk rfl (fun _ h => by cases h) (fun C1_3 => ?_)
       refine Jl.pv (PR.lookupVO (.agg #[.int .i64 0, .nilFunc]) rfl rfl Tryz.underlying120 Tryz.underlying5 (fun _ => by kernel_rfl) zD (wfu8 r.k)) ?_
       refine Jl.as (.tuple #[.agg #[.int .i64 (dM r.k.toNat), dF p r.k.toNat], .bool (dT r.k.toNat)]) (by rw [(deedM_at p r.k.toNat).1, (deedM_at p r.k.toNat).2]) ?_
       refine Jl.qn ?_
       refine Dh.Jq.segV zX ?_ zK
       refine Dh.JH.cons<|Dh.JB.pv rfl trivial (fun _ => PR.qm rfl) ?_
       refine Dh.JB.pv rfl trivial (fun _ => PR.extract rfl (by rfl)) ?_
       refine Dh.JB.pv rfl trivial (fun _ => PR.extract rfl (by rfl)) ?_
       refine Dh.JB.nil ?_
       refine Dh.JL.ptr rfl (by repeat (first | exact Dh.es_here | apply Dh.es_there)) (fun b4 => ?_)
       refine Dh.JL.nil ?_
       refine Dh.JE.mk rfl (fun _ h => by cases h) (fun C1_8 => ?_)
       refine Jl.storeW rfl tsh118 rfl (by rfl) (by first | exact two_one rfl (dF_one _ _) | exact Br.cs_one _ _ | simp [Value.oneCell', Rc.cs]) zS (by rfl) ?_
       refine Jl.qn ?_
       refine Dh.Jq.segN zX ?_ zK
       refine Dh.JH.nil ?_
       refine Dh.JB.pv rfl trivial (fun _ => PR.qa rfl) ?_
       refine Dh.JB.nil<|Dh.JL.nil<|Jq.qt<|Jc.qs<|Jc.qs<|Jc.qr<|Jl.pv (PR.qf rfl tfl54_1) ?_
       refine Jl.pv (PR.load1 rfl tsh23 zH (by rfl)) ?_
       refine Jl.call (contains_ct badN A cA r.l (by omega) 75 bad1_ct en75) en74 (by rfl) zT zF ?_
       rintro ⟨⟩
       refine Jl.as (.bool false) (congrArg Value.bool (by rw [hab, hnum]; rfl)) ?_
       refine Jl.qn<|Jq.qt<|Jc.condF rfl<|Jc.skip<|Jq.qt<|Jc.qs<|Jc.qs<|Jc.qr<|Jl.pv (PR.qf rfl tfl54_0) ?_
       refine Jl.pv (PR.load1 rfl tsh5 zH (by rfl)) ?_
       refine Jl.pv (PR.eql false rfl rfl (decide_eq_false (by omega))) ?_
       refine Jl.qn<|Jq.qt<|Jc.condF rfl<|Jc.skip<|Jq.qt<|Jc.qs<|Jc.qs<|Jc.qr<|Jl.pv (PR.qm rfl) ?_
       refine Jl.as (.bool true) (congrArg Value.bool ht.1) ?_
       refine Jl.pv (PR.not rfl) ?_
       refine Jl.pv (PR.qm rfl)<|Jl.on rfl rfl<|Jl.pv (PR.qf rfl tfl54_1)<|Jl.on rfl rfl ?_
       refine Jl.pv (PR.load1 rfl tsh23 zH (by rfl)) ?_
       refine Jl.on rfl rfl ?_
       refine Jl.pv (PR.len rfl tsl23) ?_
       refine Jl.on rfl rfl<|Jl.pv (PR.qf rfl tfl118_0)<|Jl.on rfl rfl ?_
       refine Jl.pv (PR.load1 rfl tsh3 zH (by rfl)) ?_
       refine Jl.on rfl rfl ?_
       refine Jl.pv (PR.neq false rfl rfl (by rw [ht.2]; simp)) ?_
       refine Jl.pv (PR.pickF rfl rfl)<|Jl.qn<|Jq.qt<|Jc.condF rfl<|Jc.skip<|Jq.qt<|Jc.qs<|Jc.qr<|Jl.pv (PR.qf rfl tfl118_1) ?_
       refine Jl.pv (PR.load1 rfl tsh116 zH (by rfl)) ?_
       obtain ⟨f, cs, hF, hen, hct⟩ := hd p bb
       refine Jl.as (.func (.func f) #[] cs.toArray) hF ?_
       refine Jl.pv (PR.qm rfl)<|Jl.pv (PR.qf rfl tfl54_1) ?_
       refine Jl.pv (PR.load1 rfl tsh23 zH (by rfl)) ?_
       refine Jl.callv hct hen rfl (by rfl) (by rfl) zT zF ?_
       rintro z'
       refine Jl.qn<|Jq.qt ?_
       refine Jc.label ?_
       refine Jq.jmpN ?_
       exact Jq.fin z' (.inr rfl) rfl RetVs.nil rfl zT zF
     · have e2 := hE hk ht
       rw [e2]
       refine Ct.of _ Tryz.func54 Tryz.ntmps54 rfl rfl (fun X W => ?_)
       refine Jc.qs<|Jc.qr ?_
       refine Jl.box rfl (by rfl) ?_
       intro b3
       refine Jl.qn<|Jq.qt ?_
       refine Jc.scopeE (σ := Unit) (fun _ => []) (fun _ => b.st bb ((M, cM), (I, cI), (K, cK))) (fun _ => []) (l := 0) rfl ?_ ?_
       · intro s
         exact Jq.fin ((M, cM), (I, cI), (K, cK)) (.inr rfl) rfl RetVs.nil rfl zT zF
       refine Jc.qs ?_
       refine Jc.drawn [0, 0, 2, 7, 15, 31, 31, 0, 191, 511] ([(9, false)], []) [⟨[(1, false), (2, false), (7, true)], [], 0⟩, ⟨[], [], 3⟩, ⟨[(4, false), (5, false), (6, false)], [7], 8⟩] tmx (by kernel_rfl) ?_
       refine Dh.JH.cons<|Dh.JB.pv rfl trivial (fun _ => PR.qf rfl tfl54_0) ?_
       refine Dh.JB.rd [.blk _ _ _] rfl trivial zT (fun _ => PR.load1 rfl tsh5 Has.here (by rfl)) ?_
       refine Dh.JB.alloc rfl trivial tze118 ?_
       refine Dh.JB.nil<|Dh.JL.nil ?_
       refine Dh.JE.mk rfl (fun _ h => by cases h) (fun C1_0 => ?_)
       refine Jl.call deeds_ct en73 (by rfl) zT zF ?_
       rintro ⟨b7, p⟩
       refine Jl.qn ?_
       refine Dh.Jq.segV zX ?_ zK
       refine Dh.JH.cons<|Dh.JB.nil<|Dh.JL.nil ?_
       refine Dh.JE.mk rfl (fun _ h => by cases h) (fun C1_3 => ?_)
       refine Jl.pv (PR.lookupVO (.agg #[.int .i64 0, .nilFunc]) rfl rfl Tryz.underlying120 Tryz.underlying5 (fun _ => by kernel_rfl) zD (wfu8 r.k)) ?_
       refine Jl.as (.tuple #[.agg #[.int .i64 (dM r.k.toNat), dF p r.k.toNat], .bool (dT r.k.toNat)]) (by rw [(deedM_at p r.k.toNat).1, (deedM_at p r.k.toNat).2]) ?_
       refine Jl.qn ?_
       refine Dh.Jq.segV zX ?_ zK
       refine Dh.JH.cons<|Dh.JB.pv rfl trivial (fun _ => PR.qm rfl) ?_
       refine Dh.JB.pv rfl trivial (fun _ => PR.extract rfl (by rfl)) ?_
       refine Dh.JB.pv rfl trivial (fun _ => PR.extract rfl (by rfl)) ?_
       refine Dh.JB.nil ?_
       refine Dh.JL.ptr rfl (by repeat (first | exact Dh.es_here | apply Dh.es_there)) (fun b4 => ?_)
       refine Dh.JL.nil ?_
       refine Dh.JE.mk rfl (fun _ h => by cases h) (fun C1_8 => ?_)
       refine Jl.storeW rfl tsh118 rfl (by rfl) (by first | exact two_one rfl (dF_one _ _) | exact Br.cs_one _ _ | simp [Value.oneCell', Rc.cs]) zS (by rfl) ?_
       refine Jl.qn ?_
       refine Dh.Jq.segN zX ?_ zK
       refine Dh.JH.nil ?_
       refine Dh.JB.pv rfl trivial (fun _ => PR.qa rfl) ?_
       refine Dh.JB.nil<|Dh.JL.nil<|Jq.qt<|Jc.qs<|Jc.qs<|Jc.qr<|Jl.pv (PR.qf rfl tfl54_1) ?_
       refine Jl.pv (PR.load1 rfl tsh23 zH (by rfl)) ?_
       refine Jl.call (contains_ct badN A cA r.l (by omega) 75 bad1_ct en75) en74 (by rfl) zT zF ?_
       rintro ⟨⟩
       refine Jl.as (.bool false) (congrArg Value.bool (by rw [hab, hnum]; rfl)) ?_
       refine Jl.qn<|Jq.qt<|Jc.condF rfl<|Jc.skip<|Jq.qt<|Jc.qs<|Jc.qs<|Jc.qr<|Jl.pv (PR.qf rfl tfl54_0) ?_
       refine Jl.pv (PR.load1 rfl tsh5 zH (by rfl)) ?_
       refine Jl.pv (PR.eql false rfl rfl (decide_eq_false (by omega))) ?_
       refine Jl.qn<|Jq.qt<|Jc.condF rfl<|Jc.skip<|Jq.qt<|Jc.qs<|Jc.qs<|Jc.qr<|Jl.pv (PR.qm rfl) ?_
       refine Jl.pv (PR.not rfl) ?_
       refine Jl.pv (PR.qm rfl) ?_
       refine Jl.bsplit (fun g25 => ?_) (fun g25 => ?_)
       · try replace g25 := zV g25
         refine Jl.qo rfl rfl rfl<|Jl.qo rfl rfl rfl<|Jl.qo rfl rfl rfl<|Jl.qo rfl rfl rfl<|Jl.qo rfl rfl rfl<|Jl.qo rfl rfl rfl<|Jl.pv (PR.pickT rfl rfl)<|Jl.qn<|Jq.qt<|Jc.condT rfl ?_
         refine Jc.goto ?_
         refine Jq.thenG ?_
         refine Jq.lessR (rs := b.st bb ((M, cM), (I, cI), (K, cK))) zT ?_
         exact Jq.jmpA () (by repeat (first | exact trivial | refine And.intro rfl ?_)) rfl zF
       try replace g25 := zW g25
       refine Jl.on rfl rfl<|Jl.pv (PR.qf rfl tfl54_1)<|Jl.on rfl rfl ?_
       refine Jl.pv (PR.load1 rfl tsh23 zH (by rfl)) ?_
       refine Jl.on rfl rfl ?_
       refine Jl.pv (PR.len rfl tsl23) ?_
       refine Jl.on rfl rfl<|Jl.pv (PR.qf rfl tfl118_0)<|Jl.on rfl rfl ?_
       refine Jl.pv (PR.load1 rfl tsh3 zH (by rfl)) ?_
       refine Jl.on rfl rfl ?_
       refine Jl.pv (PR.neq true rfl rfl (decide_eq_true (fun h => ht ⟨by simpa using g25, h⟩))) ?_
       refine Jl.pv (PR.pickF rfl rfl)<|Jl.qn<|Jq.qt<|Jc.condT rfl ?_
       refine Jc.goto ?_
       refine Jq.thenG ?_
       refine Jq.lessR (rs := b.st bb ((M, cM), (I, cI), (K, cK))) zT ?_
       exact Jq.jmpA () (by repeat (first | exact trivial | refine And.intro rfl ?_)) rfl zF
 · have e : b.apply r = b := by rw [Br.apply, if_neg hnum]
   rw [e]
   refine Ct.of _ Tryz.func54 Tryz.ntmps54 rfl rfl (fun X W => ?_)
   refine Jc.qs<|Jc.qr ?_
   refine Jl.box rfl (by rfl) ?_
   intro b3
   refine Jl.qn<|Jq.qt ?_
   refine Jc.scopeE (σ := Unit) (fun _ => []) (fun _ => b.st bb ((M, cM), (I, cI), (K, cK))) (fun _ => []) (l := 0) rfl ?_ ?_
   · intro s
     exact Jq.fin ((M, cM), (I, cI), (K, cK)) (.inr rfl) rfl RetVs.nil rfl zT zF
   refine Jc.qs ?_
   refine Jc.drawn [0, 0, 2, 7, 15, 31, 31, 0, 191, 511] ([(9, false)], []) [⟨[(1, false), (2, false), (7, true)], [], 0⟩, ⟨[], [], 3⟩, ⟨[(4, false), (5, false), (6, false)], [7], 8⟩] tmx (by kernel_rfl) ?_
   refine Dh.JH.cons<|Dh.JB.pv rfl trivial (fun _ => PR.qf rfl tfl54_0) ?_
   refine Dh.JB.rd [.blk _ _ _] rfl trivial zT (fun _ => PR.load1 rfl tsh5 Has.here (by rfl)) ?_
   refine Dh.JB.alloc rfl trivial tze118 ?_
   refine Dh.JB.nil<|Dh.JL.nil ?_
   refine Dh.JE.mk rfl (fun _ h => by cases h) (fun C1_0 => ?_)
   refine Jl.call deeds_ct en73 (by rfl) zT zF ?_
   rintro ⟨b7, p⟩
   refine Jl.qn ?_
   refine Dh.Jq.segV zX ?_ zK
   refine Dh.JH.cons<|Dh.JB.nil<|Dh.JL.nil ?_
   refine Dh.JE.mk rfl (fun _ h => by cases h) (fun C1_3 => ?_)
   refine Jl.pv (PR.lookupVO (.agg #[.int .i64 0, .nilFunc]) rfl rfl Tryz.underlying120 Tryz.underlying5 (fun _ => by kernel_rfl) zD (wfu8 r.k)) ?_
   refine Jl.as (.tuple #[.agg #[.int .i64 (dM r.k.toNat), dF p r.k.toNat], .bool (dT r.k.toNat)]) (by rw [(deedM_at p r.k.toNat).1, (deedM_at p r.k.toNat).2]) ?_
   refine Jl.qn ?_
   refine Dh.Jq.segV zX ?_ zK
   refine Dh.JH.cons<|Dh.JB.pv rfl trivial (fun _ => PR.qm rfl) ?_
   refine Dh.JB.pv rfl trivial (fun _ => PR.extract rfl (by rfl)) ?_
   refine Dh.JB.pv rfl trivial (fun _ => PR.extract rfl (by rfl)) ?_
   refine Dh.JB.nil ?_
   refine Dh.JL.ptr rfl (by repeat (first | exact Dh.es_here | apply Dh.es_there)) (fun b4 => ?_)
   refine Dh.JL.nil ?_
   refine Dh.JE.mk rfl (fun _ h => by cases h) (fun C1_8 => ?_)
   refine Jl.storeW rfl tsh118 rfl (by rfl) (by first | exact two_one rfl (dF_one _ _) | exact Br.cs_one _ _ | simp [Value.oneCell', Rc.cs]) zS (by rfl) ?_
   refine Jl.qn ?_
   refine Dh.Jq.segN zX ?_ zK
   refine Dh.JH.nil ?_
   refine Dh.JB.pv rfl trivial (fun _ => PR.qa rfl) ?_
   refine Dh.JB.nil<|Dh.JL.nil<|Jq.qt<|Jc.qs<|Jc.qs<|Jc.qr<|Jl.pv (PR.qf rfl tfl54_1) ?_
   refine Jl.pv (PR.load1 rfl tsh23 zH (by rfl)) ?_
   refine Jl.call (contains_ct badN A cA r.l (by omega) 75 bad1_ct en75) en74 (by rfl) zT zF ?_
   rintro ⟨⟩
   refine Jl.as (.bool true) (congrArg Value.bool (by rw [hab]; simpa using hnum)) ?_
   refine Jl.qn<|Jq.qt<|Jc.condT rfl ?_
   refine Jc.goto ?_
   refine Jq.thenG ?_
   refine Jq.lessR (rs := b.st bb ((M, cM), (I, cI), (K, cK))) zT ?_
   exact Jq.jmpA () (by repeat (first | exact trivial | refine And.intro rfl ?_)) rfl zF
def admK (k : Nat) : Bool := decide (9 ≤ k ∧ k ≤ 13) || decide (k = 15)
theorem len1 {l : List Int} (h : (l.length : Int) = 1) : ∃ a, l = [a] := by
 match l, h with
 | [a], _ => exact ⟨a, rfl⟩
 | [], h => exact absurd h (by simp)
 | a :: b :: l, h => exact absurd h (by simp; omega)
theorem len2 {l : List Int} (h : (l.length : Int) = 2) : ∃ a b, l = [a, b] := by
 match l, h with
 | [a, b], _ => exact ⟨a, b, rfl⟩
 | [], h => exact absurd h (by simp)
 | [a], h => exact absurd h (by simp)
 | a :: b :: c :: l, h => exact absurd h (by simp; omega)
theorem len0 {l : List Int} (h : (l.length : Int) = 0) : l = [] := List.eq_nil_of_length_eq_zero (by omega)
theorem Ct.unit {P : Program} {f : FuncId} {args : List Value} {Rin : List Res} {pre : List Fact} {res : Value} {Rout : List Res} {α : Type} {res' : α → Value} {Rout' : α → List Res} (a : α) (h : Ct P f args Rin pre (fun _ : Unit => res) (fun _ => Rout) (fun _ => [])) (h1 : res = res' a) (h2 : Rout = Rout' a) : Ct P f args Rin pre res' Rout' (fun _ => []) := fun X W hX hs hp => by
 subst h1 h2
 exact (h X W hX hs hp).mono fun e W' ⟨_, e1, e2, e3, e4, e5⟩ => ⟨a, e1, e2, e3, e4, e5⟩
theorem Ct.facts {P : Program} {f : FuncId} {args : List Value} {Rin : List Res} {pre pre' : List Fact} {α : Type} {res : α → Value} {Rout : α → List Res} {post : α → List Fact} (hf : FSub pre pre') (h : Ct P f args Rin pre res Rout post) : Ct P f args Rin pre' res Rout post := fun X W hX hs hp => h X W hX hs (fun φ hφ => hp φ (hf.mem φ hφ))
theorem guardT (b : Br) (id g : Int) : (b.findK id = none → b.guard id g = b) ∧ ∀ i, b.findK id = some i → b.guard id g = if g < 2 then b.onK1 i { b.kAt i with gu := decide (g = 1) } else b :=
 ⟨fun h => by rw [Br.guard, h], fun i h => by rw [Br.guard, h]⟩
theorem complT (b : Br) (id : Int) : (b.findK id = none → b.compl id = b) ∧ ∀ i, b.findK id = some i → b.compl id = b.onK1 i { b.kAt i with co := (b.kAt i).co || (b.kAt i).held } :=
 ⟨fun h => by rw [Br.compl, h], fun i h => by rw [Br.compl, h]⟩
theorem deed_adm (φ : Fact) (b : Br) (z : BrA) (r : Rc) (x : AdC) (hm : b.kps.length ≤ 1000000) (hk : admK r.k.toNat = true) (hl : (r.l.length : Int) = dM r.k.toNat) : DeedOk φ b z r x := by
 obtain ⟨k, l⟩ := r
 obtain ⟨L, cL⟩ := x
 intro p bb
 simp only [admK, Bool.or_eq_true, decide_eq_true_eq] at hk
 have hk' : k.toNat = 9 ∨ k.toNat = 10 ∨ k.toNat = 11 ∨ k.toNat = 12 ∨ k.toNat = 13 ∨ k.toNat = 15 := by omega
 rcases hk' with h | h | h | h | h | h <;> (simp only [h] at hl ⊢)
 · obtain ⟨a, c, rfl⟩ := len2 hl
   refine ⟨_, [ptr p.k9], rfl, en119, Ct.facts (pre := [.rd L (i64s [a, c])]) zF (Ct.unit z (Ct.more zT (kept1_ct b z bb p.k9 L cL a [c] hm 93 en93 (b.guard a c) (guardT b a c).1 fun i hi => ?_)) rfl rfl)⟩
   rw [(guardT b a c).2 i hi]
   exact dguard_ct b z bb L cL a c i (findK_some hi).1
 · obtain ⟨a, rfl⟩ := len1 hl
   refine ⟨_, [ptr p.k10], rfl, en119, Ct.facts (pre := [.rd L (i64s [a])]) zF (Ct.unit z (Ct.more zT (kept1_ct b z bb p.k10 L cL a [] hm 94 en94 (b.compl a) (complT b a).1 fun i hi => ?_)) rfl rfl)⟩
   rw [(complT b a).2 i hi]
   exact dcompl_ct b z bb L cL a i (findK_some hi).1
 · obtain ⟨a, c, rfl⟩ := len2 hl
   exact ⟨_, [], rfl, en95, Ct.facts (pre := [.rd L (i64s [a, c])]) zF (Ct.unit z (Ct.more zT (dstart_ct b z bb L cL a c)) rfl rfl)⟩
 · obtain rfl := len0 hl
   exact ⟨_, [ptr p.k12], rfl, en121, Ct.facts (pre := [.rd L (i64s [])]) zF (Ct.unit z (Ct.more zT (active1_ct b z bb p.k12 L cL [] 98 en98 b.cancel b.canc rfl fun _ => dcanc_ct b z bb L cL)) rfl rfl)⟩
 · obtain rfl := len0 hl
   exact ⟨_, [ptr p.k13], rfl, en121, Ct.facts (pre := [.rd L (i64s [])]) zF (Ct.unit z (Ct.more zT (active1_ct b z bb p.k13 L cL [] 99 en99 _ b.roll rfl fun _ => droll_ct b z bb L cL)) rfl rfl)⟩
 · obtain rfl := len0 hl
   exact ⟨_, [ptr p.k15], rfl, en121, Ct.facts (pre := [.rd L (i64s [])]) zF (Ct.unit z (Ct.more zT (active1_ct b z bb p.k15 L cL [] 101 en101 _ b.go1 rfl fun _ => dgo_ct b z bb L cL)) rfl rfl)⟩
end Go.Proofs.YtakbgccddokbbaaGreatDoor
namespace Go.Proofs.YtakbgccddokbbaaGreatDoor
open Go.RowKit
attribute [local irreducible] Res.blk Res.row Fact.rd
end Go.Proofs.YtakbgccddokbbaaGreatDoor
namespace Go.Proofs.YtakbgccddokbbaaGreatDoor
open Go.RowKit
section
variable {P : Program} {r : Option Nat} {C : Cx} {n : Nat × List Nat} {ops : Array Oper} {Q : Exit → Act → World → Prop} {rest : List Oper} {env : List (Nat × Value)} {R R0 : List Res} {Φ : List Fact} {c : Code}
  {d : Nat} {T T' : TypeId} {pos : String} {af : Array Edge} {x y z : Operand} {e : TypeId} {g o s len cap : Nat} {cs cs' : List Value}
theorem Jc.openRow {A : Option Addr} {m : Nat} {xs : List Value} {R' : Nat → List Value → List Res} (hpos : 0 < xs.length) (hw : ∀ g cur, Swap (.row e s (.slice A m cap) m xs) (.blk g e cur) R (R' g cur))
 (k : ∀ g cur, A = some ⟨g, 0, none⟩ → cur.length = cap * s → cur.take (m * s) = xs → m ≤ cap → cap ≤ maxLen → Jc P r C n Q c env (R' g cur) Φ) : Jc P r C n Q c env R Φ := fun a W he hs => by
 have q1 := (hw 0 []).old hs.sep
 obtain ⟨g, cur, rfl, g1, g2, g3, g4, g5, g6⟩ := row_form (k := 0) q1 hpos
 refine k g cur.toList rfl (by simpa using g6) g2 g4 g5 a W he (hs.swap (hw g cur.toList) (Foreign.refl _ _) (by show _ = _; rw [g1]) fun b hb => .inl ?_)
 have hb' : b = g := hb
 subst hb'
 rfl
theorem blk_close {W : World} {ys : List Value} {m : Nat} (h : (Res.blk g e cs).says W) (hl : cs.length = cap * s) (hy : cs.take (m * s) = ys) (hm : m ≤ cap) (hc : cap ≤ maxLen) : (Res.row e s (.slice (some ⟨g, 0, none⟩) m cap) m ys).says W := by
 refine ⟨?_, .inr ⟨g, cap, cs.toArray, rfl, Nat.zero_le _, h, hm, hc, by simpa using hl, by simpa using hy⟩⟩
 rw [← hy, List.length_take, hl, Nat.min_eq_left (Nat.mul_le_mul_right s hm)]
theorem Jl.closeRow {ys : List Value} {R' : List Res} (m cap : Nat) (hw : Swap (.blk g e cs) (.row e s (.slice (some ⟨g, 0, none⟩) m cap) m ys) R R') (hl : cs.length = cap * s) (hy : cs.take (m * s) = ys) (hm : m ≤ cap) (hc : cap ≤ maxLen)
 (k : Jl P r C n ops Q rest env R' Φ) : Jl P r C n ops Q rest env R Φ :=
 Jl.rsay hw (fun W h => blk_close h hl hy hm hc) (fun b hb => by simpa [Res.row, Value.ownBlock, Res.blk, eq_comm] using hb) k
theorem Jq.closeRow {X : Exit} {ys : List Value} {R' : List Res} (m cap : Nat) (hw : Swap (.blk g e cs) (.row e s (.slice (some ⟨g, 0, none⟩) m cap) m ys) R R') (hl : cs.length = cap * s) (hy : cs.take (m * s) = ys) (hm : m ≤ cap) (hc : cap ≤ maxLen)
 (k : Jq C n Q X env R' Φ) : Jq C n Q X env R Φ := fun a W he hs =>
 k a W he (hs.swap hw (Foreign.refl _ _) (blk_close (hw.old hs.sep) hl hy hm hc) fun b hb => .inl (by simpa [Res.row, Value.ownBlock, Res.blk, eq_comm] using hb))
theorem PR.sliceB {lo hi mx : Option Operand} (l h m len' cap' o' : Nat) (hx : opv env x = some (.slice (some ⟨g, o, none⟩) len cap)) (hT : tslice P T' = some (e, s))
    (hlo : (match lo with | none => some (Value.int .i64 0) | some q => opv env q) = some (.int .i64 l)) (hhi : (match hi with | none => some (Value.int .i64 len) | some q => opv env q) = some (.int .i64 h))
    (hmx : (match mx with | none => some (Value.int .i64 cap) | some q => opv env q) = some (.int .i64 m)) (hhm : mx = none ∨ hi ≠ none) (h1 : l ≤ h) (h2 : h ≤ m) (h3 : m ≤ cap) (hl' : h - l = len') (hc' : m - l = cap') (ho : (if m = l then o else o + l * s) = o') :
    PR P C n env R Φ (.slice T' x lo hi mx) T (.slice (some ⟨g, o', none⟩) len' cap') := fun a W he _ d pos af gd => by
  obtain ⟨hu, inf, hi', hk⟩ := tslice_spec hT
  subst hl' hc' ho
  have e1 : (Instr.sliceBounds true len cap (lo.map a.eval) (hi.map a.eval) (mx.map a.eval)).run P W = .ok (l, h, m) W := by
    have em : (match mx.map a.eval with | some v => Instr.sliceBound v cap .slice3Acap | none => pure cap).run P W = .ok m W := by
      cases mx with
      | none => simp at hmx; have : m = cap := by omega
                subst this; rfl
      | some q => simp [he.eval hmx, Instr.sliceBound, asIntOf, h3]
    cases lo with
    | none =>
      have hl0 : l = 0 := by simp at hlo; omega
      subst hl0
      cases hi with
      | none =>
        have hm : mx = none := hhm.resolve_right (by simp)
        subst hm
        have : h = len := by simp at hhi; omega
        subst this
        have : m = cap := by simp at hmx; omega
        subst this
        simp [Instr.sliceBounds]
      | some q =>
        cases mx with
        | none =>
          have : m = cap := by simp at hmx; omega
          subst this
          simp [Instr.sliceBounds, he.eval hhi, Instr.sliceBound, asIntOf, h2]
        | some q2 => simp [Instr.sliceBounds, he.eval hhi, he.eval hmx, Instr.sliceBound, asIntOf, h2, h3]
    | some q' =>
      cases hi with
      | none =>
        have hm : mx = none := hhm.resolve_right (by simp)
        subst hm
        have : h = len := by simp at hhi; omega
        subst this
        have : m = cap := by simp at hmx; omega
        subst this
        simp [Instr.sliceBounds, he.eval hlo, Instr.sliceBound, asIntOf, h1]
      | some q =>
        cases mx with
        | none =>
          have : m = cap := by simp at hmx; omega
          subst this
          simp [Instr.sliceBounds, he.eval hhi, he.eval hlo, Instr.sliceBound, asIntOf, h1, h2]
        | some q2 => simp [Instr.sliceBounds, he.eval hhi, he.eval hlo, he.eval hmx, Instr.sliceBound, asIntOf, h1, h2, h3]
  have e2 : (if m = l then (some ⟨g, o, none⟩ : Option Addr) else (some ⟨g, o, none⟩ : Option Addr).map (·.add (l * s))) = some ⟨g, if m = l then o else o + l * s, none⟩ := by
    split
    · rfl
    · simp [add_none]
  simp [execOp, he.eval hx, Instr.sliceAt, Instr.slice, run_underlying hu, e1, sizeOf, typeInfo, hi', hk]
  simpa using e2
def over (cs : List Value) (o : Nat) (vs : List Value) : List Value := cs.take o ++ vs ++ cs.drop (o + vs.length)
theorem over_len {cs vs : List Value} {o : Nat} (h : o + vs.length ≤ cs.length) : (over cs o vs).length = cs.length := by simp [over]; omega
theorem store_run {W : World} {vs : List Value} (hb : W.heap[g]? = some (.cells cs.toArray e (0, 0))) (h1 : ∀ u ∈ vs, u.oneCell' = true) (hj : o + vs.length ≤ cs.length) :
 ∃ W', (storeCells ⟨g, o, none⟩ vs).run P W = .ok () W' ∧ W'.heap[g]? = some (.cells (over cs o vs).toArray e (0, 0)) ∧ Foreign (fun q => q = g) W W' := by
 obtain ⟨W', hr, h2, h3⟩ := run_storeCells_at' (P := P) W g o e vs 0 cs hb (by omega) h1
 exact ⟨W', hr, by simpa [over] using h2, h3⟩
inductive Src (R : List Res) (Φ : List Fact) : Value → List Value → Prop
 | rd {B : Option Addr} {m c : Nat} {vs : List Value} (h : Mem (.rd B vs) Φ) (hne : 0 < vs.length) : Src R Φ (.slice B m c) vs
 | blk {g2 o2 m c : Nat} {T2 : TypeId} {cs2 : List Value} (k : Nat) (h : Has g2 T2 cs2 R) (hk : o2 + k ≤ cs2.length) : Src R Φ (.slice (some ⟨g2, o2, none⟩) m c) ((cs2.drop o2).take k)
theorem Src.first {v : Value} {vs : List Value} (h : Src R Φ v vs) {W : World} (hs : Sat C R Φ W) {size k : Nat} (hl : vs.length = k * size) : (Builtin.firstCells size k v).run P W = .ok vs.toArray W := by
  cases h with
  | rd h hne =>
    obtain ⟨ad, rfl, _⟩ := hs.fact h 0 _ (List.getElem?_eq_getElem hne)
    refine run_firstCells_some W size k ad _ _ vs hl fun j v hj => ?_
    obtain ⟨ad', e1, _, _, q3⟩ := hs.fact h j v hj
    injection e1 with e1
    subst e1
    exact q3
  | blk k' h hk =>
    rename_i g2 o2 m c T2 cs2
    refine run_firstCells_some W size k ⟨g2, o2, none⟩ _ _ _ hl fun j v hj => ?_
    rw [add_none, cell_of_row W g2 (o2 + j) _ _ _ (h.says hs.sep)]
    rw [List.getElem?_take] at hj
    split at hj
    · rw [List.getElem?_drop] at hj; simpa using hj
    · cases hj
theorem Jl.copyB {vs : List Value} {R' : List Res} {dl dc ml mc : Nat} {B : Option Addr} {ts : Array TypeId} (k : Nat) (hx : opv env x = some (.slice (some ⟨g, o, none⟩) dl dc)) (hy : opv env y = some (.slice B ml mc)) (hts : ts = #[T', T']) (hT : tslice P T' = some (e, s))
 (hsrc : Src R Φ (.slice B ml mc) vs) (hk : Nat.min ml dl = k) (hl : vs.length = k * s) (h1 : ∀ u ∈ vs, u.oneCell' = true) (hj : o + vs.length ≤ cs.length) (hw : Swap (.blk g e cs) (.blk g e cs') R R') (hc : over cs o vs = cs')
 (j : Jl P r C n ops Q rest ((d, .int .i64 (k : Int)) :: env) R' Φ) (hd : Nat.blt d n.1 = true := by rfl) :
 Jl P r C n ops Q (⟨some d, .call { callee := .builtin .copy, args := #[x, y], argTypes := ts }, T, pos, af, none⟩ :: rest) env R Φ :=
 Jl.valx hd (by simp) fun a W he hs => by
  subst hts hk hc
  obtain ⟨hu, inf, hi, hsz⟩ := tslice_spec hT
  have hf := hsrc.first (P := P) hs hl
  obtain ⟨W', hr, h2, h3⟩ := store_run (P := P) (hw.old hs.sep) h1 hj
  refine ⟨_, W', R', Φ, ?_, hs.swap hw h3 h2 (fun b hb => .inl hb), j⟩
  have hrun : (Builtin.copy_ #[T', T'] T #[.slice (some ⟨g, o, none⟩) dl dc, .slice B ml mc]).run P W = .ok (goInt (Nat.min ml dl)) W' := by
   simp [Builtin.copy_, run_underlying hu, Builtin.lenOf, sizeOf, typeInfo, hi, hsz, hf, hr]
  simp only [execOp, resolve, invoke, builtin, Sem.run_bind, Sem.run_pure, Result.andThen_ok, List.map_toArray, List.map_cons, List.map_nil, he.eval hx, he.eval hy, hrun, goInt]
theorem Jl.appendB {vs : List Value} {R' : List Res} {m c0 mm mc : Nat} {B : Option Addr} {ts : Array TypeId} (tot : Nat) (hx : opv env x = some (.slice (some ⟨g, o, none⟩) m c0)) (hy : opv env y = some (.slice B mm mc)) (hts : ts = #[T', T']) (hT : tslice P T' = some (e, s))
 (hsrc : Src R Φ (.slice B mm mc) vs) (hfit : m + mm ≤ c0) (htot : m + mm = tot) (hl : vs.length = mm * s) (h1 : ∀ u ∈ vs, u.oneCell' = true) (hj : o + m * s + vs.length ≤ cs.length) (hw : Swap (.blk g e cs) (.blk g e cs') R R') (hc : over cs (o + m * s) vs = cs')
 (j : Jl P r C n ops Q rest ((d, .slice (some ⟨g, o, none⟩) tot c0) :: env) R' Φ) (hd : Nat.blt d n.1 = true := by rfl) :
 Jl P r C n ops Q (⟨some d, .call { callee := .builtin .append, args := #[x, y], argTypes := ts }, T, pos, af, none⟩ :: rest) env R Φ :=
 Jl.valx hd (by simp) fun a W he hs => by
  subst hts htot hc
  obtain ⟨hu, inf, hi, hsz⟩ := tslice_spec hT
  have hf := hsrc.first (P := P) hs hl
  obtain ⟨W', hr, h2, h3⟩ := store_run (P := P) (hw.old hs.sep) h1 hj
  refine ⟨_, W', R', Φ, ?_, hs.swap hw h3 h2 (fun b hb => .inl hb), j⟩
  have hrun : (Builtin.append_ #[T', T'] T #[.slice (some ⟨g, o, none⟩) m c0, .slice B mm mc]).run P W = .ok (.slice (some ⟨g, o, none⟩) (m + mm) c0) W' := by
   have hr' : (storeCells ((⟨g, o, none⟩ : Addr).add (m * s)) vs).run P W = .ok () W' := by rw [add_none]; exact hr
   simp [Builtin.append_, run_underlying hu, Builtin.lenOf, sizeOf, typeInfo, hi, hsz, hf, hfit, hr']
  simp only [execOp, resolve, invoke, builtin, Sem.run_bind, Sem.run_pure, Result.andThen_ok, List.map_toArray, List.map_cons, List.map_nil, he.eval hx, he.eval hy, hrun]
theorem Jl.actV {op : Op} {v : Value} (hnd : ∀ c, op ≠ .defer c)
 (hrun : ∀ a W, Env n env a → Sat C R Φ W → ∃ W' R' Φ', (execOp a.eval ⟨none, op, T, pos, af, none⟩).run P W = .ok (.value v) W' ∧ Sat C R' Φ' W' ∧ Jl P r C n ops Q rest env R' Φ') :
 Jl P r C n ops Q (⟨none, op, T, pos, af, none⟩ :: rest) env R Φ := fun a W he hs => by
 obtain ⟨W', R', Φ', h1, h2, h3⟩ := hrun a W he hs
 exact wpListIn_plain rfl fun K hK => oper_plain hnd (by rw [h1]; exact hK _ _ (h3 _ W' (he.skip _) h2))
theorem Jl.clearB {zc : List Value} {R' : List Value → List Res} {m c0 : Nat} {ts : Array TypeId} (hx : opv env x = some (.slice (some ⟨g, o, none⟩) m c0)) (hts : ts = #[T']) (hT : tslice P T' = some (e, s)) (hz : tzero P e = some zc) (hzl : zc.length = s) (hm : 0 < m)
 (h1 : ∀ u ∈ zc, u.oneCell' = true) (hj : o + m * s ≤ cs.length) (hw : ∀ cs', Swap (.blk g e cs) (.blk g e cs') R (R' cs'))
 (j : ∀ cs', cs'.length = cs.length → cs'.take o = cs.take o → Jl P r C n ops Q rest env (R' cs') Φ) :
 Jl P r C n ops Q (⟨none, .call { callee := .builtin .clear, args := #[x], argTypes := ts }, T, pos, af, none⟩ :: rest) env R Φ :=
 Jl.actV (v := .tuple #[]) (by simp) fun a W he hs => by
  subst hts
  obtain ⟨hu, inf, hi, hk⟩ := tslice_spec hT
  have hzz : ∃ z, inf.zero = some z ∧ z.cells = zc.toArray := by
   unfold tzero at hz
   rw [hi] at hz
   cases h : inf.zero with
   | none => simp [h] at hz
   | some z => simp [h] at hz; exact ⟨z, rfl, by rw [← hz]⟩
  obtain ⟨z, hz1, hz2⟩ := hzz
  have hzs : (Builtin.zeroCells zc.toArray m).toList.length = m * s := by rw [Array.length_toList, zeroCells_size]; simp [hzl]
  have hone : ∀ u ∈ (Builtin.zeroCells zc.toArray m).toList, u.oneCell' = true := by
   intro u hu
   simp only [Builtin.zeroCells, Array.toList_map, List.mem_map, Array.toList_range, List.mem_range] at hu
   obtain ⟨i, hi2, rfl⟩ := hu
   have hpos : 0 < zc.length := by
    rcases Nat.eq_zero_or_pos zc.length with h0 | h0
    · simp [h0] at hi2
    · exact h0
   have hlt : i % zc.toArray.size < zc.toArray.size := Nat.mod_lt _ (by simpa using hpos)
   rw [getElem!_pos zc.toArray _ hlt]
   exact h1 _ (by simp)
  have hb := (hw []).old hs.sep
  have hb' : W.heap[g]? = some (.cells cs.toArray e (0, 0)) := hb
  obtain ⟨W', hr, h2, h3⟩ := store_run (P := P) (o := o) hb' hone (by rw [hzs]; exact hj)
  refine ⟨W', _, Φ, ?_, hs.swap (hw (over cs o (Builtin.zeroCells zc.toArray m).toList)) h3 h2 (fun b hb => .inl hb), j _ (over_len (by rw [hzs]; exact hj)) ?_⟩
  · have hrun : (Builtin.clear_ #[T'] T #[.slice (some ⟨g, o, none⟩) m c0]).run P W = .ok (.tuple #[]) W' := by
     obtain ⟨m', rfl⟩ : ∃ m', m = m' + 1 := ⟨m - 1, by omega⟩
     simp [Builtin.clear_, run_underlying hu, zeroValue, typeInfo, hi, hz1, hz2, hr]
    simp only [execOp, resolve, invoke, builtin, Sem.run_bind, Sem.run_pure, Result.andThen_ok, List.map_toArray, List.map_cons, List.map_nil, he.eval hx, hrun]
  · simp [over, List.take_append_of_le_length, show o ≤ cs.length by omega]
theorem Jl.growB {mm m c0 : Nat} {tn : TypeId} {bytes : Nat} {zc : List Value} {kn kq : IntKind} (hx : opv env x = some (.slice (some ⟨g, o, none⟩) m c0)) (hy : opv env y = some (.int kq (mm : Int))) (hT : tslice P T' = some (e, s)) (hn : P.underlying tn = some (.int kn)) (hz : tzero P e = some zc) (hzl : zc.length = s) (hs0 : 0 < s)
 (hb : P.bytesOf e = bytes) (hB : Has g e cs R) (hj : o + m * s ≤ cs.length) (h0 : 0 < mm) (hg : c0 < m + mm) (h63 : m + mm ≤ 100000000) (hby : bytes ≤ 1000000) {tot : Nat} (htot : m + mm = tot)
 (k : ∀ g' cs' c', cs'.length = c' * s → cs'.take (m * s) = (cs.drop o).take (m * s) → tot ≤ c' → c' ≤ maxLen → Jl P r C n ops Q rest ((d, .slice (some ⟨g', 0, none⟩) tot c') :: env) (.blk g' e cs' :: R) Φ) (hd : Nat.blt d n.1 = true := by rfl) :
 Jl P r C n ops Q (⟨some d, .call { callee := .builtin .append, args := #[x, y], argTypes := #[T', tn] }, T, pos, af, none⟩ :: rest) env R Φ :=
 Jl.valx hd (by simp) fun a W he hs => by
  subst htot
  obtain ⟨hu, inf, hi, hk⟩ := tslice_spec hT
  have hzz : ∃ z, inf.zero = some z ∧ z.cells = zc.toArray := by
   unfold tzero at hz
   rw [hi] at hz
   cases h : inf.zero with
   | none => simp [h] at hz
   | some z => simp [h] at hz; exact ⟨z, rfl, by rw [← hz]⟩
  obtain ⟨z, hz1, hz2⟩ := hzz
  have hbb : inf.bytes = bytes := by simpa [Program.bytesOf, hi] using hb
  have hbnd : (m + mm) * bytes ≤ 140737488355328 := Nat.le_trans (Nat.mul_le_mul h63 hby) (by omega)
  have hmb : mm * bytes ≤ (m + mm) * bytes := Nat.mul_le_mul_right _ (by omega)
  have hfit : Builtin.nextslicecap (m + mm) c0 * bytes ≤ 281474976710656 := growslice_fits hg hbnd
  have hvl : ((cs.drop o).take (m * s)).length = m * s := by simp; omega
  have hold : (Builtin.firstCells inf.size m (.slice (some ⟨g, o, none⟩) m c0)).run P W.drew = .ok ((cs.drop o).take (m * s)).toArray W.drew := by
   rw [hk]
   exact (Src.blk (m := m) (c := c0) (m * s) hB hj : Src R Φ _ _).first (P := P) (hs.grow (Foreign.drew _ W)) hvl
  have hrun := Go.Lib.run_append_grow_zeros (P := P) W T' tn T e inf z kq kn hu hn hi hz1 (some ⟨g, o, none⟩) m c0 _ hold mm h0 (by rw [hk]; exact hs0) hg (by omega) (by rw [hbb]; omega) (by rw [hbb]; exact hfit)
  have hge := grownCap_ge W (m + mm) c0 e
  have hle := grownCap_le_maxLen W (m + mm) c0 e (by unfold maxLen; omega)
  obtain ⟨cap', hcap⟩ : ∃ cap', grownCap W (m + mm) c0 e = cap' := ⟨_, rfl⟩
  rw [hcap] at hrun hge hle
  obtain ⟨news, hnews⟩ : ∃ news, news = ((cs.drop o).take (m * s)).toArray ++ Builtin.zeroCells z.cells mm ++ Builtin.zeroCells z.cells (cap' - (m + mm)) := ⟨_, rfl⟩
  rw [← hnews] at hrun
  have hsz : news.size = cap' * s := by
   rw [hnews, Array.size_append, Array.size_append, zeroCells_size, zeroCells_size, hz2]
   simp only [List.size_toArray, hvl, hzl]
   rw [← Nat.add_mul, ← Nat.add_mul]
   congr 1
   omega
  refine ⟨_, W.drew.alloc (.cells news e), .blk W.heap.size e news.toList :: R, Φ, ?_, ?_, k W.heap.size news.toList cap' (by simpa using hsz) ?_ hge hle⟩
  · simp only [execOp, resolve, invoke, builtin, Sem.run_bind, Sem.run_pure, Result.andThen_ok, List.map_toArray, List.map_cons, List.map_nil, he.eval hx, he.eval hy, hrun]
  · refine (hs.grow (Foreign.drew _ W)).step (W' := W.drew.alloc _) (Foreign.alloc _ W.drew _) ⟨by show _ = _; rw [show W.heap.size = W.drew.heap.size from rfl, World.alloc_heap_new W.drew _], fun b hb => ?_, (hs.grow (Foreign.drew _ W)).sep.keep fun b hb => Below.heap_alloc W.drew _ b (hs.sep.lt b hb)⟩ fun b hb => ?_
    · have hb' : b = W.heap.size := hb
      subst hb'
      exact ⟨fun hx => absurd (hs.x0lt _ hx) (Nat.lt_irrefl _), fun hx => absurd (hs.sep.lt _ hx) (Nat.lt_irrefl _)⟩
    · rcases hb with hb | hb
      · exact .inr (Nat.le_of_eq (show b = W.heap.size from hb).symm)
      · exact .inl hb
  · rw [hnews]
    simp only [Array.toList_append, List.toList_toArray, List.append_assoc]
    rw [List.take_append_of_le_length (by rw [hvl]; exact Nat.le_refl _), List.take_of_length_le (by rw [hvl]; exact Nat.le_refl _)]
theorem Jc.rowCap {A : Option Addr} {m : Nat} {xs : List Value} {R' : List Res} (hd : Del (.row e s (.slice A m cap) m xs) R R') (k : m ≤ cap → Jc P r C n Q c env R Φ) : Jc P r C n Q c env R Φ := fun a W he hs =>
 k (row_cap (hd.sep hs.sep).1) a W he hs
theorem Jc.rdNil (A : Option Addr) (k : Jc P r C n Q c env R (.rd A [] :: Φ)) : Jc P r C n Q c env R Φ := fun a W he hs =>
 k a W he (hs.add (φ := .rd A []) (by intro j u h; simp at h))
theorem Jl.overB {f : FuncId} {tR : TypeId} {zas : Array Operand} {ts : Array TypeId} {g2 o2 la ca lb cb : Nat} {e2 : TypeId} {cs2 : List Value} {R2 : List Res} (has : zas = #[x, y]) (hx : opv env x = some (.slice (some ⟨g2, o2, none⟩) la ca)) (hy : opv env y = some (.slice (some ⟨g, o, none⟩) lb cb)) (hT : tslice P T' = some (e, s))
 (hf : ∀ args w, (callFunc f args).run P w = ((Extern.SlicesOverlaps.overlaps #[T', T'] #[tR] args).run P w).andThen fun v w' => .ok (.value v) w')
 (hA : Del (.blk g2 e2 cs2) R R2) (hB : Has g e cs R2) (hl : 0 < cs.length)
 (j : Jl P r C n ops Q rest ((d, .bool false) :: env) R Φ) (hd : Nat.blt d n.1 = true := by rfl) :
 Jl P r C n ops Q (⟨some d, .call { callee := .value (.func f), args := zas, argTypes := ts }, T, pos, af, none⟩ :: rest) env R Φ :=
 Jl.valx hd (by simp) fun a W he hs => by
  subst has
  obtain ⟨hu, inf, hi, hk⟩ := tslice_spec hT
  refine ⟨_, W, R, Φ, ?_, hs, j⟩
  obtain ⟨hb2, hnx, hs2⟩ := hA.sep hs.sep
  have hb2 : W.heap[g2]? = some (.cells cs2.toArray e2 (0, 0)) := hb2
  have hb := hB.says hs2
  have hne : g2 ≠ g := fun h => (hnx g2 rfl).2 (h ▸ hB.own)
  have hov := Go.Lib.run_overlaps_apart (P := P) W T' tR e hu s (fun w => by simp [sizeOf, typeInfo, hi, hk]) ⟨g2, o2, none⟩ ⟨g, o, none⟩ la ca lb cb hne e2 e cs2.length cs.length (by simp [World.shape?, hb2]) (by simp [World.shape?, hb]) (by omega) (by simp [World.frozen?, hb2]) (by simp [World.frozen?, hb2])
  have e0 : a.eval (.func f) = .func (.func f) #[] #[] := rfl
  simp [execOp, resolve, e0, Deferred.ofValue, invoke, hf, he.eval hx, he.eval hy, hov]
end
end Go.Proofs.YtakbgccddokbbaaGreatDoor
namespace Go.Proofs.YtakbgccddokbbaaGreatDoor
open Go.RowKit
attribute [local irreducible] Res.blk Res.row Fact.rd
theorem del_src {cur xs : List Value} {i n s : Nat} (hct : cur.take (n * s) = xs) (hi : i < n) : (cur.drop ((i + 1) * s)).take ((n - (i + 1)) * s) = xs.drop ((i + 1) * s) := by
 rw [← hct, List.drop_take, Nat.sub_mul]
theorem del_cells {cur xs V : List Value} {i n s : Nat} (hct : cur.take (n * s) = xs) (hi : i < n) (hcl : n * s ≤ cur.length) (hV : V = xs.drop ((i + 1) * s)) : (over cur (i * s) V).take ((n - 1) * s) = xs.take (i * s) ++ V := by
 have h1 : i * s ≤ n * s := Nat.mul_le_mul_right s (by omega)
 have hxl : xs.length = n * s := by rw [← hct, List.length_take]; omega
 have h2 : V.length = (n - 1) * s - i * s := by rw [hV, List.length_drop, hxl, ← Nat.sub_mul, ← Nat.sub_mul]; congr 1; omega
 have h3 : i * s ≤ (n - 1) * s := Nat.mul_le_mul_right s (by omega)
 have h4 : (cur.take (i * s) ++ V).length = (n - 1) * s := by rw [List.length_append, List.length_take, h2]; omega
 rw [over, List.take_append_of_le_length (by omega), List.take_of_length_le (by omega)]
 congr 1
 rw [← hct, List.take_take, Nat.min_eq_left h1]
theorem kdelete_ct (K : Option Addr) (cK : Nat) (l : List Kp) (i : Nat) (hi : i < l.length) (hn : l.length ≤ 1000000) : Ct Tryz.prog 92 [.slice K l.length cK, .int .i64 (i : Int), .int .i64 ((i + 1 : Nat) : Int)] [.row 72 8 (.slice K l.length cK) l.length (kpsV l)] []
 (fun _ : Unit => .slice K (l.length - 1) cK) (fun _ => [.row 72 8 (.slice K (l.length - 1) cK) (l.length - 1) (kpsV (l.take i ++ l.drop (i + 1)))]) (fun _ => []) := by
 have hl8 := kpsV_len l
 have hld : (kpsV (l.drop (i + 1))).length = (l.length - (i + 1)) * 8 := by rw [kpsV_len, List.length_drop]
 refine Ct.of _ Tryz.func92 Tryz.ntmps92 rfl rfl (fun X W => ?_)
 refine Jc.openRow (R' := fun g cur => [.blk g 72 cur]) (by omega) (fun g cur => Swap.here) (fun g cur hK hcl hct hnc hcm => ?_)
 subst hK
 have hsr := del_src (s := 8) hct hi
 have hvs : (cur.drop (if cK = i + 1 then 0 else 0 + (i + 1) * 8)).take ((l.length - (i + 1)) * 8) = kpsV (l.drop (i + 1)) := by
  rw [← kpsV_drop]
  split
  · rw [show l.length - (i + 1) = 0 by omega, Nat.zero_mul, List.take_zero, List.drop_of_length_le (by omega)]
  · rw [Nat.zero_add]; exact hsr
 have hfin := del_cells (s := 8) (V := kpsV (l.drop (i + 1))) hct hi (by omega) (kpsV_drop l (i + 1)).symm
 have hov : (over cur (0 + i * 8) (kpsV (l.drop (i + 1)))).length = cK * 8 := by rw [over_len (by omega)]; exact hcl
 refine Jc.qs<|Jc.qr<|Jl.pv (PR.qa rfl)<|Jl.qn<|Jq.qt<|Jc.qs<|Jc.qr<|Jl.pv (PR.qm rfl)<|Jl.pv (PR.qm rfl)<|Jl.pv (PR.qm rfl)<|Jl.pv (PR.qm rfl) ?_
 refine Jl.pv (PR.len rfl tsl34) ?_
 refine Jl.pv (PR.sliceB i (i + 1) l.length 1 (l.length - i) (i * 8) rfl tsl34 rfl rfl rfl (by first | exact .inl rfl | exact .inr (by simp)) (by omega) (by omega) hnc (by omega) rfl (by rw [if_neg (by omega), Nat.zero_add])) ?_
 refine Jl.qn<|Jq.qt<|Jc.qs<|Jc.qs<|Jc.qr<|Jl.pv (PR.qm rfl)<|Jl.pv (PR.qm rfl) ?_
 refine Jl.pv (PR.eql false rfl rfl (decide_eq_false (by omega))) ?_
 refine Jl.qn<|Jq.qt<|Jc.condF rfl<|Jc.skip<|Jq.qt<|Jc.qs<|Jc.qr<|Jl.pv (PR.qm rfl) ?_
 refine Jl.pv (PR.len rfl tsl34) ?_
 refine Jl.pv (PR.qa rfl)<|Jl.qn<|Jq.qt<|Jc.qs ?_
 refine Jc.drawn [0, 0, 3, 0, 0, 24, 63, 127] ([(7, false)], []) [⟨[(0, false), (1, false), (2, false), (3, false), (4, false), (5, false)], [], 6⟩] tmx (by kernel_rfl) ?_
 refine Dh.JH.cons<|Dh.JB.pv rfl trivial (fun _ => PR.qm rfl)<|Dh.JB.pv rfl trivial (fun _ => PR.qm rfl) ?_
 refine Dh.JB.pv rfl trivial (fun _ => PR.sliceB 0 i cK i cK 0 rfl tsl34 rfl rfl rfl (by first | exact .inl rfl | exact .inr (by simp)) (Nat.zero_le _) (by omega) (Nat.le_refl _) rfl rfl (by split <;> simp)) ?_
 refine Dh.JB.pv rfl trivial (fun _ => PR.qm rfl)<|Dh.JB.pv rfl trivial (fun _ => PR.qm rfl) ?_
 refine Dh.JB.pv rfl trivial (fun _ => PR.sliceB (i + 1) l.length cK (l.length - (i + 1)) (cK - (i + 1)) (if cK = i + 1 then 0 else 0 + (i + 1) * 8) rfl tsl34 rfl rfl rfl (by first | exact .inl rfl | exact .inr (by simp)) (by omega) hnc (Nat.le_refl _) rfl rfl rfl) ?_
 refine Dh.JB.nil<|Dh.JL.nil ?_
 refine Dh.JE.mk rfl (fun _ h => by cases h) (fun C5_6 => ?_)
 refine Jl.appendB (cs := cur) (vs := kpsV (l.drop (i + 1))) (l.length - 1) rfl rfl rfl tsl34 (hvs ▸ Src.blk ((l.length - (i + 1)) * 8) zH (by split <;> omega)) (by omega) (by omega) hld (kps_one _) (by omega) zS rfl ?_
 refine Jl.qn ?_
 refine Dh.Jq.segV zX ?_ zK
 refine Dh.JH.nil ?_
 refine Dh.JB.pv rfl trivial (fun _ => PR.qa rfl) ?_
 refine Dh.JB.nil<|Dh.JL.nil<|Jq.qt<|Jc.qs<|Jc.qr<|Jl.pv (PR.qm rfl)<|Jl.pv (PR.qm rfl) ?_
 refine Jl.pv (PR.len rfl tsl34) ?_
 refine Jl.pv (PR.qm rfl) ?_
 refine Jl.pv (PR.sliceB (l.length - 1) l.length cK 1 (cK - (l.length - 1)) ((l.length - 1) * 8) rfl tsl34 rfl rfl rfl (by first | exact .inl rfl | exact .inr (by simp)) (by omega) hnc (Nat.le_refl _) (by omega) rfl (by rw [if_neg (by omega), Nat.zero_add])) ?_
 refine Jl.clearB (cs := over cur (0 + i * 8) (kpsV (l.drop (i + 1)))) rfl rfl tsl34 tze72 (by rfl) (by omega) (by simp [Value.oneCell']) (by omega) (fun _ => zS) ?_
 intro cs6_5 hl6_5 ht6_5
 refine Jl.qn<|Jq.qt<|Jc.qs<|Jc.qr<|Jl.pv (PR.qm rfl)<|Jl.pv (PR.qa rfl)<|Jl.qn<|Jq.qt<|Jc.ret ?_
 refine Jq.closeRow (ys := kpsV (l.take i ++ l.drop (i + 1))) (l.length - 1) cK zS (hl6_5.trans hov) (by rw [ht6_5, Nat.zero_add, hfin, kpsV_take, kpsV_app]) (by omega) hcm ?_
 exact Jq.fin () (.inl rfl) rfl (RetVs.tmp rfl RetVs.nil) rfl zT zF
theorem tdelete_ct (K : Option Addr) (cK : Nat) (l : List It1) (i : Nat) (hi : i < l.length) (hn : l.length ≤ 1000000) : Ct Tryz.prog 117 [.slice K l.length cK, .int .i64 (i : Int), .int .i64 ((i + 1 : Nat) : Int)] [.row 70 4 (.slice K l.length cK) l.length (itsV l)] []
 (fun _ : Unit => .slice K (l.length - 1) cK) (fun _ => [.row 70 4 (.slice K (l.length - 1) cK) (l.length - 1) (itsV (l.take i ++ l.drop (i + 1)))]) (fun _ => []) := by
 have hl8 := itsV_len l
 have hld : (itsV (l.drop (i + 1))).length = (l.length - (i + 1)) * 4 := by rw [itsV_len, List.length_drop]
 refine Ct.of _ Tryz.func117 Tryz.ntmps117 rfl rfl (fun X W => ?_)
 refine Jc.openRow (R' := fun g cur => [.blk g 70 cur]) (by omega) (fun g cur => Swap.here) (fun g cur hK hcl hct hnc hcm => ?_)
 subst hK
 have hsr := del_src (s := 4) hct hi
 have hvs : (cur.drop (if cK = i + 1 then 0 else 0 + (i + 1) * 4)).take ((l.length - (i + 1)) * 4) = itsV (l.drop (i + 1)) := by
  rw [← itsV_drop]
  split
  · rw [show l.length - (i + 1) = 0 by omega, Nat.zero_mul, List.take_zero, List.drop_of_length_le (by omega)]
  · rw [Nat.zero_add]; exact hsr
 have hfin := del_cells (s := 4) (V := itsV (l.drop (i + 1))) hct hi (by omega) (itsV_drop l (i + 1)).symm
 have hov : (over cur (0 + i * 4) (itsV (l.drop (i + 1)))).length = cK * 4 := by rw [over_len (by omega)]; exact hcl
 refine Jc.qs<|Jc.qr<|Jl.pv (PR.qa rfl)<|Jl.qn<|Jq.qt<|Jc.qs<|Jc.qr<|Jl.pv (PR.qm rfl)<|Jl.pv (PR.qm rfl)<|Jl.pv (PR.qm rfl)<|Jl.pv (PR.qm rfl) ?_
 refine Jl.pv (PR.len rfl tsl33) ?_
 refine Jl.pv (PR.sliceB i (i + 1) l.length 1 (l.length - i) (i * 4) rfl tsl33 rfl rfl rfl (by first | exact .inl rfl | exact .inr (by simp)) (by omega) (by omega) hnc (by omega) rfl (by rw [if_neg (by omega), Nat.zero_add])) ?_
 refine Jl.qn<|Jq.qt<|Jc.qs<|Jc.qs<|Jc.qr<|Jl.pv (PR.qm rfl)<|Jl.pv (PR.qm rfl) ?_
 refine Jl.pv (PR.eql false rfl rfl (decide_eq_false (by omega))) ?_
 refine Jl.qn<|Jq.qt<|Jc.condF rfl<|Jc.skip<|Jq.qt<|Jc.qs<|Jc.qr<|Jl.pv (PR.qm rfl) ?_
 refine Jl.pv (PR.len rfl tsl33) ?_
 refine Jl.pv (PR.qa rfl)<|Jl.qn<|Jq.qt<|Jc.qs ?_
 refine Jc.drawn [0, 0, 3, 0, 0, 24, 63, 127] ([(7, false)], []) [⟨[(0, false), (1, false), (2, false), (3, false), (4, false), (5, false)], [], 6⟩] tmx (by kernel_rfl) ?_
 refine Dh.JH.cons<|Dh.JB.pv rfl trivial (fun _ => PR.qm rfl)<|Dh.JB.pv rfl trivial (fun _ => PR.qm rfl) ?_
 refine Dh.JB.pv rfl trivial (fun _ => PR.sliceB 0 i cK i cK 0 rfl tsl33 rfl rfl rfl (by first | exact .inl rfl | exact .inr (by simp)) (Nat.zero_le _) (by omega) (Nat.le_refl _) rfl rfl (by split <;> simp)) ?_
 refine Dh.JB.pv rfl trivial (fun _ => PR.qm rfl)<|Dh.JB.pv rfl trivial (fun _ => PR.qm rfl) ?_
 refine Dh.JB.pv rfl trivial (fun _ => PR.sliceB (i + 1) l.length cK (l.length - (i + 1)) (cK - (i + 1)) (if cK = i + 1 then 0 else 0 + (i + 1) * 4) rfl tsl33 rfl rfl rfl (by first | exact .inl rfl | exact .inr (by simp)) (by omega) hnc (Nat.le_refl _) rfl rfl rfl) ?_
 refine Dh.JB.nil<|Dh.JL.nil ?_
 refine Dh.JE.mk rfl (fun _ h => by cases h) (fun C5_6 => ?_)
 refine Jl.appendB (cs := cur) (vs := itsV (l.drop (i + 1))) (l.length - 1) rfl rfl rfl tsl33 (hvs ▸ Src.blk ((l.length - (i + 1)) * 4) zH (by split <;> omega)) (by omega) (by omega) hld (its_one _) (by omega) zS rfl ?_
 refine Jl.qn ?_
 refine Dh.Jq.segV zX ?_ zK
 refine Dh.JH.nil ?_
 refine Dh.JB.pv rfl trivial (fun _ => PR.qa rfl) ?_
 refine Dh.JB.nil<|Dh.JL.nil<|Jq.qt<|Jc.qs<|Jc.qr<|Jl.pv (PR.qm rfl)<|Jl.pv (PR.qm rfl) ?_
 refine Jl.pv (PR.len rfl tsl33) ?_
 refine Jl.pv (PR.qm rfl) ?_
 refine Jl.pv (PR.sliceB (l.length - 1) l.length cK 1 (cK - (l.length - 1)) ((l.length - 1) * 4) rfl tsl33 rfl rfl rfl (by first | exact .inl rfl | exact .inr (by simp)) (by omega) hnc (Nat.le_refl _) (by omega) rfl (by rw [if_neg (by omega), Nat.zero_add])) ?_
 refine Jl.clearB (cs := over cur (0 + i * 4) (itsV (l.drop (i + 1)))) rfl rfl tsl33 tze70 (by rfl) (by omega) (by simp [Value.oneCell']) (by omega) (fun _ => zS) ?_
 intro cs6_5 hl6_5 ht6_5
 refine Jl.qn<|Jq.qt<|Jc.qs<|Jc.qr<|Jl.pv (PR.qm rfl)<|Jl.pv (PR.qa rfl)<|Jl.qn<|Jq.qt<|Jc.ret ?_
 refine Jq.closeRow (ys := itsV (l.take i ++ l.drop (i + 1))) (l.length - 1) cK zS (hl6_5.trans hov) (by rw [ht6_5, Nat.zero_add, hfin, itsV_take, itsV_app]) (by omega) hcm ?_
 exact Jq.fin () (.inl rfl) rfl (RetVs.tmp rfl RetVs.nil) rfl zT zF
end Go.Proofs.YtakbgccddokbbaaGreatDoor
namespace Go.Proofs.YtakbgccddokbbaaGreatDoor
open Go.RowKit
attribute [local irreducible] Res.blk Res.row Fact.rd
theorem Src.blk' {R : List Res} {Φ : List Fact} {g2 o2 m c : Nat} {T2 : TypeId} {cs2 vs : List Value} (k : Nat) (h : Has g2 T2 cs2 R) (hk : o2 + k ≤ cs2.length) (hv : (cs2.drop o2).take k = vs) : Src R Φ (.slice (some ⟨g2, o2, none⟩) m c) vs := hv ▸ Src.blk k h hk
theorem ins_src {cur xs : List Value} {i n s : Nat} (hct : cur.take (n * s) = xs) (hi : i ≤ n) : (cur.drop (i * s)).take ((n - i) * s) = xs.drop (i * s) := by
 rw [← hct, List.drop_take, Nat.sub_mul]
theorem over_take {cs vs : List Value} {o k : Nat} (h : k ≤ o) (ho : o ≤ cs.length) : (over cs o vs).take k = cs.take k := by
 rw [over, List.append_assoc, List.take_append_of_le_length (by rw [List.length_take]; omega), List.take_take, Nat.min_eq_left h]
theorem over_take' {cs vs : List Value} {o k : Nat} (h : k = o + vs.length) (ho : o ≤ cs.length) : (over cs o vs).take k = cs.take o ++ vs := by
 have h1 : (cs.take o ++ vs).length = k := by rw [List.length_append, List.length_take]; omega
 rw [over, ← h1, List.take_left']
 rfl
theorem over_drop {cs vs : List Value} {o k : Nat} (h : k = o) (ho : o ≤ cs.length) : (over cs o vs).drop k = vs ++ cs.drop (o + vs.length) := by
 subst h
 rw [over, List.append_assoc, List.drop_left']
 rw [List.length_take]; omega
theorem ins_grow {cs A xv V : List Value} {i n s : Nat} (hA : cs.take (i * s) = A) (hi : i < n) (hcl : (n + 1) * s ≤ cs.length) (hx : xv.length = s) (hV : V.length = (n - i) * s) :
 (over (over cs (i * s) xv) ((i + 1) * s) V).take ((n + 1) * s) = A ++ xv ++ V := by
 have e1 : (i + 1) * s = i * s + s := Nat.succ_mul i s
 have e2 : (n + 1) * s = i * s + s + (n - i) * s := by rw [← e1, ← Nat.add_mul]; congr 1; omega
 have hl : (over cs (i * s) xv).length = cs.length := over_len (by omega)
 rw [over_take' (by omega) (by omega), over_take' (by omega) (by omega), hA]
theorem ins_room {cs A xv V : List Value} {i n s : Nat} (hA : cs.take (i * s) = A) (hi : i < n) (hcl : (n + 1) * s ≤ cs.length) (hx : xv.length = s) (hV : V.length = (n - i) * s) :
 (over (over cs ((i + 1) * s) V) (i * s) xv).take ((n + 1) * s) = A ++ xv ++ V := by
 have e1 : (i + 1) * s = i * s + s := Nat.succ_mul i s
 have e2 : (n + 1) * s = i * s + s + (n - i) * s := by rw [← e1, ← Nat.add_mul]; congr 1; omega
 have hl : (over cs ((i + 1) * s) V).length = cs.length := over_len (by omega)
 rw [over, over_take (by omega) (by omega), hA, over_drop (by omega) (by omega), ← List.append_assoc, List.take_left']
 rw [List.length_append, List.length_append, ← hA, List.length_take]; omega
theorem kinsert_ct (K : Option Addr) (cK : Nat) (l : List Kp) (i gv : Nat) (x : Kp) (hi : i ≤ l.length) (hn : l.length ≤ 1000000) : Ct Tryz.prog 141 [.slice K l.length cK, .int .i64 (i : Int), .slice (some ⟨gv, 0, none⟩) 1 1] [.row 72 8 (.slice K l.length cK) l.length (kpsV l), .blk gv 72 (kpsV [x])] []
 (fun p : Option Addr × Nat => .slice p.1 (l.length + 1) p.2) (fun p => [.row 72 8 (.slice p.1 (l.length + 1) p.2) (l.length + 1) (kpsV (l.take i ++ x :: l.drop i))]) (fun _ => []) := by
 have hl8 := kpsV_len l
 have hx8 : (kpsV [x]).length = 8 := kpsV_len [x]
 have hld : (kpsV (l.drop i)).length = (l.length - i) * 8 := by rw [kpsV_len, List.length_drop]
 have hxv : ((kpsV [x]).drop 0).take 8 = kpsV [x] := by rw [List.drop_zero, List.take_of_length_le (by omega)]
 have hc : kpsV (l.take i ++ x :: l.drop i) = (kpsV l).take (i * 8) ++ kpsV [x] ++ kpsV (l.drop i) := by rw [show l.take i ++ x :: l.drop i = l.take i ++ ([x] ++ l.drop i) by simp, kpsV_app, kpsV_app, kpsV_take, List.append_assoc]
 refine Ct.of _ Tryz.func141 Tryz.ntmps141 rfl rfl (fun X W => ?_)
 refine Jc.rowCap (A := K) (m := l.length) (cap := cK) Del.here (fun hnK => ?_)
 refine Jc.rdNil K ?_
 refine Jc.qs<|Jc.qr<|Jl.pv (PR.qa rfl)<|Jl.qn<|Jq.qt<|Jc.qs<|Jc.qr<|Jl.pv (PR.qm rfl)<|Jl.pv (PR.qm rfl) ?_
 refine Jl.slice i l.length (l.length - i) [] rfl tsl34 rfl rfl zM hi (Nat.le_refl _) hnK rfl (by simp) ?_
 intro A12 c12 hc12
 clear hc12
 refine Jl.qn<|Jq.qt<|Jc.qs<|Jc.qr<|Jl.pv (PR.qm rfl) ?_
 refine Jl.pv (PR.len rfl tsl34) ?_
 refine Jl.pv (PR.qa rfl)<|Jl.qn<|Jq.qt<|Jc.qs<|Jc.qs<|Jc.qr<|Jl.pv (PR.qm rfl) ?_
 refine Jl.pv (PR.eql false rfl rfl (decide_eq_false (by omega))) ?_
 refine Jl.qn<|Jq.qt<|Jc.condF rfl<|Jc.skip<|Jq.qt<|Jc.qs<|Jc.qr<|Jl.pv (PR.qm rfl) ?_
 refine Jl.pv (PR.len rfl tsl34) ?_
 refine Jl.pv (PR.qa rfl)<|Jl.qn<|Jq.qt<|Jc.qs<|Jc.qs<|Jc.qr<|Jl.pv (PR.qm rfl)<|Jl.pv (PR.qm rfl) ?_
 refine Jl.pv (PR.eql _ rfl rfl rfl) ?_
 refine Jl.qn<|Jq.qt ?_
 refine Jc.cond rfl (fun hin => ?_) (fun hin => ?_)
 · try replace hin := zV hin
   obtain rfl : l.length = i := by omega
   refine Jc.qs<|Jc.qr<|Jl.pv (PR.qm rfl)<|Jl.pv (PR.qm rfl) ?_
   refine Jl.seal (b := gv) zD ?_
   refine Jl.append (l.length + 1) (kpsV (l.take l.length ++ x :: l.drop l.length)) rfl rfl rfl tsl34 tze72 (by rfl) (by decide) tby72 (fun _ _ => zS) zM rfl (by rw [hc, List.take_of_length_le (Nat.le_of_eq hl8), List.drop_length]; exact (List.append_nil _).symm) (by omega) (kps_one [x]) (by omega) (by decide) ?_
   intro A25 c25
   refine Jl.pv (PR.qa rfl)<|Jl.qn<|Jq.qt<|Jc.ret<|Jq.thenR ?_
   exact Jq.fin ⟨A25, c25⟩ (.inl rfl) rfl (RetVs.tmp rfl RetVs.nil) rfl zT zF
 try replace hin := zW hin
 have hin : i < l.length := by omega
 refine Jc.openRow (R' := fun g cur => [.blk g 72 cur, .blk gv 72 (kpsV [x])]) (by omega) (fun g cur => Swap.here) (fun g cur hK hcl hct hnc hcm => ?_)
 subst hK
 have hsr := ins_src (s := 8) hct (Nat.le_of_lt hin)
 have hA0 : cur.take (i * 8) = (kpsV l).take (i * 8) := by rw [← hct, List.take_take, Nat.min_eq_left (by omega)]
 have hvs : (cur.drop (i * 8)).take ((l.length - i) * 8) = kpsV (l.drop i) := by rw [hsr, kpsV_drop]
 refine Jc.skip<|Jq.qt<|Jc.qs<|Jc.qs<|Jc.qr<|Jl.pv (PR.qm rfl)<|Jl.pv (PR.qm rfl) ?_
 refine Jl.pv (PR.add ((l.length + 1 : Nat) : Int) rfl rfl (by rw [w64 (by omega) (by omega)]; omega)) ?_
 refine Jl.pv (PR.qm rfl) ?_
 refine Jl.pv (PR.cap rfl tsl34) ?_
 refine Jl.pv (PR.gtr _ rfl rfl rfl) ?_
 refine Jl.qn<|Jq.qt ?_
 refine Jc.cond rfl (fun hroom => ?_) (fun hroom => ?_)
 · try replace hroom := zV hroom
   have hroom : cK < l.length + 1 := by omega
   refine Jc.qs<|Jc.qr<|Jl.pv (PR.qm rfl)<|Jl.pv (PR.qm rfl) ?_
   refine Jl.pv (PR.sliceB 0 i cK i cK 0 rfl tsl34 rfl rfl rfl (by first | exact .inl rfl | exact .inr (by simp)) (Nat.zero_le _) (by omega) (Nat.le_refl _) rfl rfl (by split <;> simp)) ?_
   refine Jl.pv (PR.qm rfl)<|Jl.pv (PR.qm rfl) ?_
   refine Jl.pv (PR.add ((l.length + 1 : Nat) : Int) rfl rfl (by rw [w64 (by omega) (by omega)]; omega)) ?_
   refine Jl.pv (PR.qm rfl) ?_
   refine Jl.pv (PR.sub ((l.length + 1 - i : Nat) : Int) rfl rfl (by rw [w64 (by omega) (by omega)]; omega)) ?_
   refine Jl.growB rfl rfl tsl34 Tryz.underlying3 tze72 (by rfl) (by decide) tby72 zH (by omega) (by omega) (by omega) (by omega) (by decide) (tot := l.length + 1) (by omega) ?_
   intro g40 cs40 c40 hl40 ht40 hc40 hm40
   refine Jl.pv (PR.qa rfl)<|Jl.qn<|Jq.qt<|Jc.qs<|Jc.qr<|Jl.pv (PR.qm rfl)<|Jl.pv (PR.qm rfl) ?_
   refine Jl.pv (PR.sliceB i (l.length + 1) c40 (l.length + 1 - i) (c40 - i) (i * 8) rfl tsl34 rfl rfl rfl (by first | exact .inl rfl | exact .inr (by simp)) (by omega) (by omega) (Nat.le_refl _) rfl rfl (by rw [if_neg (by omega), Nat.zero_add])) ?_
   refine Jl.pv (PR.qm rfl) ?_
   refine Jl.copyB (cs := cs40) (vs := kpsV [x]) 1 rfl rfl rfl tsl34 (Src.blk' (cs2 := kpsV [x]) 8 zH (by omega) hxv) (Nat.min_eq_left (by omega)) hx8 (kps_one _) (by omega) zS rfl ?_
   refine Jl.qn<|Jq.qt<|Jc.qs ?_
   refine Jc.drawP 8 tmx (by kernel_rfl) (by kernel_rfl) ?_
   refine JP.pv (PR.qm rfl) ?_
   refine JP.pv (PR.qm rfl) ?_
   refine JP.pv (PR.qm rfl) ?_
   refine JP.pv (PR.add ((i + 1 : Nat) : Int) rfl rfl (by rw [w64 (by omega) (by omega)]; omega)) ?_
   refine JP.pv (PR.sliceB (i + 1) (l.length + 1) c40 (l.length - i) (c40 - (i + 1)) ((i + 1) * 8) rfl tsl34 rfl rfl rfl (by first | exact .inl rfl | exact .inr (by simp)) (by omega) (by omega) (Nat.le_refl _) (by omega) rfl (by rw [if_neg (by omega), Nat.zero_add])) ?_
   refine JP.pv (PR.qm rfl) ?_
   refine JP.pv (PR.qm rfl) ?_
   refine JP.pv (PR.sliceB i l.length cK (l.length - i) (cK - i) (i * 8) rfl tsl34 rfl rfl rfl (by first | exact .inl rfl | exact .inr (by simp)) hi hnc (Nat.le_refl _) rfl rfl (by rw [if_neg (by omega), Nat.zero_add])) ?_
   refine JP.fin rfl ?_
   refine Jl.copyB (cs := over cs40 (i * 8) (kpsV [x])) (vs := kpsV (l.drop i)) (l.length - i) rfl rfl rfl tsl34 (Src.blk' (cs2 := cur) ((l.length - i) * 8) zH (by omega) hvs) (Nat.min_self _) hld (kps_one _) (by rw [over_len (by omega)]; omega) zS rfl ?_
   refine Jl.qn<|Jq.qt<|Jc.qs<|Jc.qr<|Jl.pv (PR.qm rfl)<|Jl.pv (PR.qa rfl)<|Jl.qn<|Jq.qt<|Jc.ret<|Jq.thenR ?_
   refine Jq.closeRow (ys := kpsV (l.take i ++ x :: l.drop i)) (l.length + 1) c40 zS (by rw [over_len (by rw [over_len (by omega)]; omega), over_len (by omega)]; exact hl40) ((ins_grow (by rw [ht40, List.drop_zero, hA0]) hin (by omega) hx8 (by omega)).trans hc.symm) hc40 hm40 ?_
   exact Jq.fin (some ⟨g40, 0, none⟩, c40) (.inl rfl) rfl (RetVs.tmp rfl RetVs.nil) rfl zT zF
 try replace hroom := zW hroom
 have hroom : l.length + 1 ≤ cK := by omega
 refine Jc.skip<|Jq.qt<|Jc.qs<|Jc.qr<|Jl.pv (PR.qm rfl)<|Jl.pv (PR.qm rfl)<|Jl.pv (PR.qm rfl) ?_
 refine Jl.pv (PR.add ((l.length + 1 : Nat) : Int) rfl rfl (by rw [w64 (by omega) (by omega)]; omega)) ?_
 refine Jl.pv (PR.sliceB 0 (l.length + 1) cK (l.length + 1) cK 0 rfl tsl34 rfl rfl rfl (by first | exact .inl rfl | exact .inr (by simp)) (by omega) (by omega) (Nat.le_refl _) rfl rfl (by split <;> simp)) ?_
 refine Jl.pv (PR.qa rfl)<|Jl.qn<|Jq.qt<|Jc.qs<|Jc.qs<|Jc.qr<|Jl.pv (PR.qm rfl)<|Jl.pv (PR.qm rfl)<|Jl.pv (PR.qm rfl)<|Jl.pv (PR.qm rfl) ?_
 refine Jl.pv (PR.add ((i + 1 : Nat) : Int) rfl rfl (by rw [w64 (by omega) (by omega)]; omega)) ?_
 refine Jl.pv (PR.sliceB (i + 1) (l.length + 1) cK (l.length - i) (cK - (i + 1)) ((i + 1) * 8) rfl tsl34 rfl rfl rfl (by first | exact .inl rfl | exact .inr (by simp)) (by omega) (by omega) (Nat.le_refl _) (by omega) rfl (by rw [if_neg (by omega), Nat.zero_add])) ?_
 refine Jl.overB rfl rfl rfl tsl34 (fun args w => run_callFunc_extern (P := Tryz.prog) (f := 148) Tryz.func148 (by kernel_rfl) (by kernel_rfl) (by kernel_rfl) (e := Extern.SlicesOverlaps.overlaps #[34, 34] #[4]) (by kernel_rfl) args w) zD zH (by omega) ?_
 refine Jl.pv (PR.not rfl) ?_
 refine Jl.qn<|Jq.qt<|Jc.condT rfl<|Jc.qs ?_
 refine Jc.drawP 8 tmx (by kernel_rfl) (by kernel_rfl) ?_
 refine JP.pv (PR.qm rfl) ?_
 refine JP.pv (PR.qm rfl) ?_
 refine JP.pv (PR.qm rfl) ?_
 refine JP.pv (PR.add ((i + 1 : Nat) : Int) rfl rfl (by rw [w64 (by omega) (by omega)]; omega)) ?_
 refine JP.pv (PR.sliceB (i + 1) (l.length + 1) cK (l.length - i) (cK - (i + 1)) ((i + 1) * 8) rfl tsl34 rfl rfl rfl (by first | exact .inl rfl | exact .inr (by simp)) (by omega) (by omega) (Nat.le_refl _) (by omega) rfl (by rw [if_neg (by omega), Nat.zero_add])) ?_
 refine JP.pv (PR.qm rfl) ?_
 refine JP.pv (PR.qm rfl) ?_
 refine JP.pv (PR.sliceB i (l.length + 1) cK (l.length + 1 - i) (cK - i) (i * 8) rfl tsl34 rfl rfl rfl (by first | exact .inl rfl | exact .inr (by simp)) (by omega) (by omega) (Nat.le_refl _) rfl rfl (by rw [if_neg (by omega), Nat.zero_add])) ?_
 refine JP.fin rfl ?_
 refine Jl.copyB (cs := cur) (vs := kpsV (l.drop i)) (l.length - i) rfl rfl rfl tsl34 (Src.blk' (cs2 := cur) ((l.length - i) * 8) zH (by omega) hvs) (Nat.min_eq_right (by omega)) hld (kps_one _) (by omega) zS rfl ?_
 refine Jl.qn<|Jq.qt<|Jc.qs<|Jc.qr<|Jl.pv (PR.qm rfl)<|Jl.pv (PR.qm rfl) ?_
 refine Jl.pv (PR.sliceB i (l.length + 1) cK (l.length + 1 - i) (cK - i) (i * 8) rfl tsl34 rfl rfl rfl (by first | exact .inl rfl | exact .inr (by simp)) (by omega) (by omega) (Nat.le_refl _) rfl rfl (by rw [if_neg (by omega), Nat.zero_add])) ?_
 refine Jl.pv (PR.qm rfl) ?_
 refine Jl.copyB (cs := over cur ((i + 1) * 8) (kpsV (l.drop i))) (vs := kpsV [x]) 1 rfl rfl rfl tsl34 (Src.blk' (cs2 := kpsV [x]) 8 zH (by omega) hxv) (Nat.min_eq_left (by omega)) hx8 (kps_one _) (by rw [over_len (by omega)]; omega) zS rfl ?_
 refine Jl.qn<|Jq.qt<|Jc.qs<|Jc.qr<|Jl.pv (PR.qm rfl)<|Jl.pv (PR.qa rfl)<|Jl.qn<|Jq.qt<|Jc.ret<|Jq.thenR ?_
 refine Jq.closeRow (ys := kpsV (l.take i ++ x :: l.drop i)) (l.length + 1) cK zS (by rw [over_len (by rw [over_len (by omega)]; omega), over_len (by omega)]; exact hcl) ((ins_room hA0 hin (by omega) hx8 (by omega)).trans hc.symm) hroom hcm ?_
 exact Jq.fin (some ⟨g, 0, none⟩, cK) (.inl rfl) rfl (RetVs.tmp rfl RetVs.nil) rfl zT zF
end Go.Proofs.YtakbgccddokbbaaGreatDoor
