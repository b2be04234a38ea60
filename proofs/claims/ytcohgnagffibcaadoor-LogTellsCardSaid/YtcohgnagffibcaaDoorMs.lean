/-
Texts of other layers, in one: SlP, SlC, SlG.
-/
import Derived.Test.YtcohgnagffibcaaDoorJg
import Derived.Test.YtcohgnagffibcaaDoorTy
namespace Go.Proofs.YtcohgnagffibcaaDoor
set_option linter.unusedVariables false
open Go.RowKit
abbrev AdC := Option Addr × Nat
/-- Slices: where each lies, how many it has, its cells. -/
abbrev Slc := AdC × Nat × List Value
abbrev i64s (l : List Int) : List Value := l.map (Value.int .i64)
def slsV (zs : List Slc) : List Value := zs.map fun z => .slice z.1.1 z.2.1 z.1.2
def Fact.sls (zs : List Slc) : Fact := ⟨fun X W => ∀ z ∈ zs, (Fact.rd z.1.1 z.2.2).p X W, fun X X' W W' h hf hx z hz => (Fact.rd z.1.1 z.2.2).fr X X' W W' (h z hz) hf hx⟩
def sumS (zs : List Slc) : Nat := (zs.map (·.2.1)).sum
def flatS (zs : List Slc) : List Value := zs.flatMap (·.2.2)
theorem sumS_take {zs : List Slc} {k : Nat} (h : k < zs.length) : sumS (zs.take (k + 1)) = sumS (zs.take k) + zs[k].2.1 := by
  rw [List.take_succ_eq_append_getElem h, sumS, List.map_append, List.sum_append]; simp [sumS]
theorem flatS_take {zs : List Slc} {k : Nat} (h : k < zs.length) : flatS (zs.take (k + 1)) = flatS (zs.take k) ++ zs[k].2.2 := by
  rw [List.take_succ_eq_append_getElem h, flatS, List.flatMap_append]; simp [flatS]
theorem sumS_le (zs : List Slc) (k : Nat) : sumS (zs.take k) ≤ sumS zs := by
  have : sumS zs = sumS (zs.take k) + sumS (zs.drop k) := by unfold sumS; rw [← List.sum_append, ← List.map_append, List.take_append_drop]
  omega
theorem getsls {zs : List Slc} {k : Nat} (h : k < zs.length) : (slsV zs)[k]? = some (.slice zs[k].1.1 zs[k].2.1 zs[k].1.2) := by simp [slsV, h]
theorem i64s_one (l : List Int) : ∀ u ∈ i64s l, u.oneCell' = true := by
  intro u hu
  obtain ⟨n, _, rfl⟩ := List.mem_map.1 hu
  rfl
theorem getDE {l : List Int} {k : Nat} (h : k < l.length) : l.getD k 0 = l[k] := by rw [List.getD_eq_getElem?_getD, List.getElem?_eq_getElem h]; rfl
theorem getd {l : List Int} {k : Nat} (h : k < l.length) : (i64s l)[k]? = some (.int .i64 (l.getD k 0)) := by rw [getDE h]; simp [i64s, h]
theorem not_true {b : Bool} (h : (!b) = true) : b = false := by simpa using h
theorem not_false {b : Bool} (h : (!b) = false) : b = true := by simpa using h
theorem putL_one : ∀ {cs : List Value} {j : Nat} {v : Value}, j < cs.length → putL cs j [v] = some (cs.set j v)
  | [], _, _, h => by simp at h
  | c :: cs, 0, v, h => by cases cs <;> rfl
  | c :: cs, j + 1, v, h => by simp only [putL]; rw [putL_one (by simpa using h)]; rfl
section
variable {P : Program} {r : Option Nat} {C : Cx} {n : Nat × List Nat} {Q : Exit → Act → World → Prop} {c : Code} {env : List (Nat × Value)} {R R' : List Res} {Φ : List Fact} {ops : Array Oper} {rest : List Oper}
theorem Jc.slNil (k : Jc P r C n Q c env R (.sls [] :: Φ)) : Jc P r C n Q c env R Φ := Jc.fact0 (.sls []) (fun X W => by intro z hz; simp at hz) k
theorem Jl.slNil (k : Jl P r C n ops Q rest env R (.sls [] :: Φ)) : Jl P r C n ops Q rest env R Φ := Jl.fact0 (.sls []) (fun X W => by intro z hz; simp at hz) k
theorem Jc.slCons {zs : List Slc} (z : Slc) (hm : Mem (.rd z.1.1 z.2.2) Φ) (hz : Mem (.sls zs) Φ) (k : Jc P r C n Q c env R (.sls (z :: zs) :: Φ)) : Jc P r C n Q c env R Φ := fun a W h1 h2 => k a W h1 (h2.add (φ := .sls (z :: zs)) fun y hy => by
  rcases List.mem_cons.1 hy with rfl | hy
  · exact h2.fact hm
  · exact h2.fact hz y hy)
theorem Jl.slCons {zs : List Slc} (z : Slc) (hm : Mem (.rd z.1.1 z.2.2) Φ) (hz : Mem (.sls zs) Φ) (k : Jl P r C n ops Q rest env R (.sls (z :: zs) :: Φ)) : Jl P r C n ops Q rest env R Φ := fun a W h1 h2 => k a W h1 (h2.add (φ := .sls (z :: zs)) fun y hy => by
  rcases List.mem_cons.1 hy with rfl | hy
  · exact h2.fact hm
  · exact h2.fact hz y hy)
theorem Jc.slAt {zs : List Slc} (k : Nat) (hk : k < zs.length) (hm : Mem (.sls zs) Φ) (j : Jc P r C n Q c env R (.rd zs[k].1.1 zs[k].2.2 :: Φ)) : Jc P r C n Q c env R Φ :=
  Jc.fact (.rd zs[k].1.1 zs[k].2.2) (φ := .sls zs) hm (fun X W h => h _ (List.getElem_mem _)) j
end
end Go.Proofs.YtcohgnagffibcaaDoor
namespace Go.Proofs.YtcohgnagffibcaaDoor
set_option linter.unusedVariables false
open Go.RowKit
attribute [local irreducible] Res.blk Res.row Fact.rd
theorem iclone_ct (A : Option Addr) (c : Nat) (l : List Int) (hn : l.length ≤ 10000000) :
    Ct Tryd.prog 67 [.slice A l.length c] [] [.rd A (i64s l)] (fun x : AdC => .slice x.1 l.length x.2) (fun x => [.row 3 1 (.slice x.1 l.length x.2) l.length (i64s l)]) (fun _ => []) := by
  cases A with
  | none =>
    refine Ct.of _ Tryd.func67 Tryd.ntmps67 rfl rfl (fun X W => ?_)
    refine Jc.pure (p := l = []) Mem.here (fun X W h => ?_) ?_
    · cases l with
      | nil => rfl
      | cons x l => exact absurd (Fact.rd_none h) (by simp [i64s])
    rintro rfl
    refine Jc.seq ?_
    refine Jc.region ?_
    refine Jl.pv (PR.assign rfl) ?_
    refine Jl.nil ?_
    refine Jq.thenN ?_
    refine Jc.seq ?_
    refine Jc.seq ?_
    refine Jc.region ?_
    refine Jl.pv (PR.move rfl) ?_
    refine Jl.pv (PR.eqlNil true rfl tsl41 rfl) ?_
    refine Jl.nil ?_
    refine Jq.thenN ?_
    refine Jc.condT rfl ?_
    refine Jc.seq ?_
    refine Jc.region ?_
    refine Jl.pv (PR.assign rfl) ?_
    refine Jl.nil ?_
    refine Jq.thenN ?_
    refine Jc.ret ?_
    refine Jq.thenR ?_
    refine Jq.nilRow 3 1 ?_
    exact Jq.fin (none, 0) (.inl rfl) rfl (RetVs.tmp rfl RetVs.nil) rfl (by repeat (first | exact Take.nil | apply Take.cons (by repeat (first | exact Del.here | apply Del.there)))) (by repeat (first | exact trivial | refine And.intro (by repeat (first | exact Mem.here | apply Mem.there)) ?_))
  | some a =>
    refine Ct.of _ Tryd.func67 Tryd.ntmps67 rfl rfl (fun X W => ?_)
    refine Jc.seq ?_
    refine Jc.region ?_
    refine Jl.pv (PR.assign rfl) ?_
    refine Jl.nil ?_
    refine Jq.thenN ?_
    refine Jc.seq ?_
    refine Jc.seq ?_
    refine Jc.region ?_
    refine Jl.pv (PR.move rfl) ?_
    refine Jl.pv (PR.eqlNil false rfl tsl41 rfl) ?_
    refine Jl.nil ?_
    refine Jq.thenN ?_
    refine Jc.condF rfl ?_
    refine Jc.skip ?_
    refine Jq.thenN ?_
    refine Jc.seq ?_
    refine Jc.region ?_
    refine Jl.buildSlice (by rfl) tsl41 tzr41_0 (by rfl) (by rfl) ?_
    intro b5
    refine Jl.pv (PR.move rfl) ?_
    refine Jl.toRow 1 0 (by repeat (first | exact Swap.here | apply Swap.there)) (by rfl) (by rfl) ?_
    refine Jl.append l.length (i64s l) rfl rfl rfl tsl41 tze3 (by rfl) (by decide) tby3 (fun _ _ => (by repeat (first | exact Swap.here | apply Swap.there))) (by repeat (first | exact Mem.here | apply Mem.there)) (by omega) rfl (by simp) (i64s_one _) (by omega) (by decide) ?_
    intro A7 c7
    refine Jl.pv (PR.assign rfl) ?_
    refine Jl.nil ?_
    refine Jq.thenN ?_
    refine Jc.ret ?_
    exact Jq.fin (A7, c7) (.inl rfl) rfl (RetVs.tmp rfl RetVs.nil) rfl (by repeat (first | exact Take.nil | apply Take.cons (by repeat (first | exact Del.here | apply Del.there)))) (by repeat (first | exact trivial | refine And.intro (by repeat (first | exact Mem.here | apply Mem.there)) ?_))
end Go.Proofs.YtcohgnagffibcaaDoor
namespace Go.Proofs.YtcohgnagffibcaaDoor
set_option linter.unusedVariables false
open Go.RowKit
attribute [local irreducible] Res.blk Res.row Fact.rd
theorem igrow_ct (m : Nat) (hm : m ≤ 1000000) : Ct Tryd.prog 73 [.slice none 0 0, .int .i64 (m : Int)] [] [] (fun x : AdC => .slice x.1 0 x.2) (fun x => [.row 3 1 (.slice x.1 0 x.2) 0 []]) (fun _ => []) := by
  by_cases h0 : m = 0
  · subst h0
    refine Ct.of _ Tryd.func73 Tryd.ntmps73 rfl rfl (fun X W => ?_)
    refine Jc.seq ?_
    refine Jc.region ?_
    refine Jl.pv (PR.assign rfl) ?_
    refine Jl.nil ?_
    refine Jq.thenN ?_
    refine Jc.seq ?_
    refine Jc.seq ?_
    refine Jc.region ?_
    refine Jl.pv (PR.move rfl) ?_
    refine Jl.pv (PR.lss false rfl rfl rfl) ?_
    refine Jl.nil ?_
    refine Jq.thenN ?_
    refine Jc.condF rfl ?_
    refine Jc.skip ?_
    refine Jq.thenN ?_
    refine Jc.seq ?_
    refine Jc.seq ?_
    refine Jc.region ?_
    refine Jl.pv (PR.move rfl) ?_
    refine Jl.pv (PR.move rfl) ?_
    refine Jl.pv (PR.cap rfl tsl41) ?_
    refine Jl.pv (PR.move rfl) ?_
    refine Jl.pv (PR.len rfl tsl41) ?_
    refine Jl.pv (PR.sub 0 rfl rfl rfl) ?_
    refine Jl.pv (PR.sub 0 rfl rfl rfl) ?_
    refine Jl.pv (PR.assign rfl) ?_
    refine Jl.nil ?_
    refine Jq.thenN ?_
    refine Jc.seq ?_
    refine Jc.region ?_
    refine Jl.pv (PR.move rfl) ?_
    refine Jl.pv (PR.gtr false rfl rfl rfl) ?_
    refine Jl.nil ?_
    refine Jq.thenN ?_
    refine Jc.condF rfl ?_
    refine Jc.skip ?_
    refine Jq.thenN ?_
    refine Jc.seq ?_
    refine Jc.region ?_
    refine Jl.pv (PR.move rfl) ?_
    refine Jl.pv (PR.assign rfl) ?_
    refine Jl.nil ?_
    refine Jq.thenN ?_
    refine Jc.ret ?_
    refine Jq.nilRow 3 1 ?_
    exact Jq.fin (none, 0) (.inl rfl) rfl (RetVs.tmp rfl RetVs.nil) rfl (by repeat (first | exact Take.nil | apply Take.cons (by repeat (first | exact Del.here | apply Del.there)))) (by repeat (first | exact trivial | refine And.intro (by repeat (first | exact Mem.here | apply Mem.there)) ?_))
  · skip
    refine Ct.of _ Tryd.func73 Tryd.ntmps73 rfl rfl (fun X W => ?_)
    refine Jc.seq ?_
    refine Jc.region ?_
    refine Jl.pv (PR.assign rfl) ?_
    refine Jl.nil ?_
    refine Jq.thenN ?_
    refine Jc.seq ?_
    refine Jc.seq ?_
    refine Jc.region ?_
    refine Jl.pv (PR.move rfl) ?_
    refine Jl.pv (PR.lss false rfl rfl (by simp)) ?_
    refine Jl.nil ?_
    refine Jq.thenN ?_
    refine Jc.condF rfl ?_
    refine Jc.skip ?_
    refine Jq.thenN ?_
    refine Jc.seq ?_
    refine Jc.seq ?_
    refine Jc.region ?_
    refine Jl.pv (PR.move rfl) ?_
    refine Jl.pv (PR.move rfl) ?_
    refine Jl.pv (PR.cap rfl tsl41) ?_
    refine Jl.pv (PR.move rfl) ?_
    refine Jl.pv (PR.len rfl tsl41) ?_
    refine Jl.pv (PR.sub 0 rfl rfl rfl) ?_
    refine Jl.pv (PR.sub (m : Int) rfl rfl (by rw [w64 (by omega) (by omega)]; omega)) ?_
    refine Jl.pv (PR.assign rfl) ?_
    refine Jl.nil ?_
    refine Jq.thenN ?_
    refine Jc.seq ?_
    refine Jc.region ?_
    refine Jl.pv (PR.move rfl) ?_
    refine Jl.pv (PR.gtr true rfl rfl (by simp; omega)) ?_
    refine Jl.nil ?_
    refine Jq.thenN ?_
    refine Jc.condT rfl ?_
    refine Jc.region ?_
    refine Jl.pv (PR.move rfl) ?_
    refine Jl.pv (PR.move rfl) ?_
    refine Jl.pv (PR.cap rfl tsl41) ?_
    refine Jl.pv (PR.slice0 0 rfl tsl41 rfl (Nat.le_refl _) (Nat.le_refl _)) ?_
    refine Jl.pv (PR.move rfl) ?_
    refine Jl.growNil  rfl rfl tsl41 Tryd.underlying3 tze3 (by rfl) (by decide) tby3 (by omega) (by omega) (by decide) ?_
    intro A22 c22 hc22
    refine Jl.pv (PR.move rfl) ?_
    refine Jl.pv (PR.len rfl tsl41) ?_
    refine Jl.pv (PR.slice0 0 rfl tsl41 rfl (Nat.zero_le _) hc22) ?_
    refine Jl.pv (PR.assign rfl) ?_
    refine Jl.nil ?_
    refine Jq.thenN ?_
    refine Jc.seq ?_
    refine Jc.region ?_
    refine Jl.pv (PR.move rfl) ?_
    refine Jl.pv (PR.assign rfl) ?_
    refine Jl.nil ?_
    refine Jq.thenN ?_
    refine Jc.ret ?_
    exact Jq.fin (A22, c22) (.inl rfl) rfl (RetVs.tmp rfl RetVs.nil) rfl (by repeat (first | exact Take.nil | apply Take.cons (by repeat (first | exact Del.here | apply Del.there)))) (by repeat (first | exact trivial | refine And.intro (by repeat (first | exact Mem.here | apply Mem.there)) ?_))
theorem iconcat_ct (L : Option Addr) (cL : Nat) (zs : List Slc) (hn : zs.length ≤ 1000000) (hs : sumS zs ≤ 1000000) (hl : ∀ z ∈ zs, z.2.2.length = z.2.1) (hone : ∀ z ∈ zs, ∀ u ∈ z.2.2, u.oneCell' = true) :
    Ct Tryd.prog 61 [.slice L zs.length cL] [] [.rd L (slsV zs), .sls zs] (fun x : AdC => .slice x.1 (sumS zs) x.2) (fun x => [.row 3 1 (.slice x.1 (sumS zs) x.2) (sumS zs) (flatS zs)]) (fun _ => []) := by
  refine Ct.of _ Tryd.func61 Tryd.ntmps61 rfl rfl (fun X W => ?_)
  refine Jc.seq ?_
  refine Jc.region ?_
  refine Jl.pv (PR.assign rfl) ?_
  refine Jl.nil ?_
  refine Jq.thenN ?_
  refine Jc.seq ?_
  refine Jc.region ?_
  refine Jl.pv (PR.assign rfl) ?_
  refine Jl.nil ?_
  refine Jq.thenN ?_
  refine Jc.seq ?_
  refine Jc.seq ?_
  refine Jc.region ?_
  refine Jl.pv (PR.move rfl) ?_
  refine Jl.pv (PR.len rfl tsl98) ?_
  refine Jl.pv (PR.move rfl) ?_
  refine Jl.nil ?_
  refine Jq.thenN ?_
  refine Jc.block ?_
  refine Jc.loop (σ := { k : Nat // k ≤ zs.length }) (fun s => [(11, .int .i64 (s.1 : Int)), (3, .int .i64 (sumS (zs.take s.1) : Nat)), (10, .int .i64 (zs.length : Int)), (9, .slice L zs.length cL), (0, .slice L zs.length cL)]) (fun _ => []) (fun _ => [.rd L (slsV zs), .sls zs]) (fun s => zs.length - s.1) ⟨0, Nat.zero_le _⟩ (by repeat (first | exact trivial | refine And.intro rfl ?_)) rfl (by repeat (first | exact trivial | refine And.intro (by repeat (first | exact Mem.here | apply Mem.there)) ?_)) ?_
  rintro ⟨k, hk⟩
  show Jc _ _ _ _ _ _ [(11, Value.int .i64 (k : Int)), (3, .int .i64 (sumS (zs.take k) : Nat)), (10, .int .i64 (zs.length : Int)), (9, .slice L zs.length cL), (0, .slice L zs.length cL)] [] [.rd L (slsV zs), .sls zs]
  refine Jc.seq ?_
  refine Jc.region ?_
  refine Jl.pv (PR.lss _ rfl rfl rfl) ?_
  refine Jl.nil ?_
  refine Jq.thenN ?_
  refine Jc.seq ?_
  refine Jc.cond rfl (fun hlt => ?_) (fun hlt => ?_)
  · try replace hlt := of_decide_eq_true hlt
    have hlt' : k < zs.length := by omega
    have hst := sumS_take hlt'
    have hle := sumS_le zs (k + 1)
    refine Jc.skip ?_
    refine Jq.thenN ?_
    refine Jc.seq ?_
    refine Jc.block ?_
    refine Jc.seq ?_
    refine Jc.region ?_
    refine Jl.pv (PR.idx1 k rfl rfl tsl98 (by repeat (first | exact Mem.here | apply Mem.there)) (by simp [slsV]) rfl hlt') ?_
    refine Jl.pv (PR.loadR rfl tsh41 (by repeat (first | exact Mem.here | apply Mem.there)) (getsls hlt')) ?_
    refine Jl.pv (PR.assign rfl) ?_
    refine Jl.nil ?_
    refine Jq.thenN ?_
    refine Jc.seq ?_
    refine Jc.region ?_
    refine Jl.pv (PR.move rfl) ?_
    refine Jl.pv (PR.move rfl) ?_
    refine Jl.pv (PR.len rfl tsl41) ?_
    refine Jl.pv (PR.add ((sumS (zs.take (k + 1)) : Nat) : Int) rfl rfl (by rw [w64 (by omega) (by omega)]; omega)) ?_
    refine Jl.pv (PR.assign rfl) ?_
    refine Jl.nil ?_
    refine Jq.thenN ?_
    refine Jc.seq ?_
    refine Jc.region ?_
    refine Jl.pv (PR.move rfl) ?_
    refine Jl.pv (PR.lss false rfl rfl (by simp)) ?_
    refine Jl.nil ?_
    refine Jq.thenN ?_
    refine Jc.condF rfl ?_
    refine Jc.skip ?_
    refine Jq.blkN ?_
    refine Jq.thenN ?_
    refine Jc.region ?_
    refine Jl.pv (PR.add ((k + 1 : Nat) : Int) rfl rfl (by rw [w64 (by omega) (by omega)]; rfl)) ?_
    refine Jl.pv (PR.move rfl) ?_
    refine Jl.nil ?_
    refine Jq.again ⟨k + 1, hlt'⟩ (by simp only; omega) (by repeat (first | exact trivial | refine And.intro rfl ?_)) rfl (by repeat (first | exact trivial | refine And.intro (by repeat (first | exact Mem.here | apply Mem.there)) ?_))
  · try replace hlt := of_decide_eq_false hlt
    have hke : zs.take k = zs := List.take_of_length_le (by omega)
    rw [hke]
    refine Jc.exit ?_
    refine Jq.thenX ?_
    refine Jq.thenX ?_
    refine Jq.blkX ?_
    refine Jq.thenN ?_
    refine Jc.seq ?_
    refine Jc.region ?_
    refine Jl.pv (PR.move rfl) ?_
    refine Jl.call (igrow_ct (sumS zs) hs) en73 (by rfl) (by repeat (first | exact Take.nil | apply Take.cons (by repeat (first | exact Del.here | apply Del.there)))) (by repeat (first | exact trivial | refine And.intro (by repeat (first | exact Mem.here | apply Mem.there)) ?_)) ?_
    rintro ⟨A24, c24⟩
    refine Jl.pv (PR.assign rfl) ?_
    refine Jl.nil ?_
    refine Jq.thenN ?_
    refine Jc.seq ?_
    refine Jc.seq ?_
    refine Jc.region ?_
    refine Jl.pv (PR.move rfl) ?_
    refine Jl.pv (PR.len rfl tsl98) ?_
    refine Jl.pv (PR.move rfl) ?_
    refine Jl.nil ?_
    refine Jq.thenN ?_
    refine Jc.block ?_
    refine Jc.loop (σ := { k : Nat // k ≤ zs.length } × AdC) (fun s => [(27, .int .i64 (s.1.1 : Int)), (6, .slice s.2.1 (sumS (zs.take s.1.1)) s.2.2), (26, .int .i64 (zs.length : Int)), (25, .slice L zs.length cL)]) (fun s => [.row 3 1 (.slice s.2.1 (sumS (zs.take s.1.1)) s.2.2) (sumS (zs.take s.1.1)) (flatS (zs.take s.1.1))]) (fun _ => [.rd L (slsV zs), .sls zs]) (fun s => zs.length - s.1.1) ⟨⟨0, Nat.zero_le _⟩, A24, c24⟩ (by repeat (first | exact trivial | refine And.intro rfl ?_)) rfl (by repeat (first | exact trivial | refine And.intro (by repeat (first | exact Mem.here | apply Mem.there)) ?_)) ?_
    rintro ⟨⟨j, hj⟩, A', c'⟩
    show Jc _ _ _ _ _ _ [(27, Value.int .i64 (j : Int)), (6, .slice A' (sumS (zs.take j)) c'), (26, .int .i64 (zs.length : Int)), (25, .slice L zs.length cL)] [.row 3 1 (.slice A' (sumS (zs.take j)) c') (sumS (zs.take j)) (flatS (zs.take j))] [.rd L (slsV zs), .sls zs]
    refine Jc.seq ?_
    refine Jc.region ?_
    refine Jl.pv (PR.lss _ rfl rfl rfl) ?_
    refine Jl.nil ?_
    refine Jq.thenN ?_
    refine Jc.seq ?_
    refine Jc.cond rfl (fun hlt2 => ?_) (fun hlt2 => ?_)
    · try replace hlt2 := of_decide_eq_true hlt2
      have hlt' : j < zs.length := by omega
      have hst := sumS_take hlt'
      have hle := sumS_le zs (j + 1)
      refine Jc.slAt j hlt' (by repeat (first | exact Mem.here | apply Mem.there)) ?_
      refine Jc.skip ?_
      refine Jq.thenN ?_
      refine Jc.seq ?_
      refine Jc.block ?_
      refine Jc.seq ?_
      refine Jc.region ?_
      refine Jl.pv (PR.idx1 j rfl rfl tsl98 (by repeat (first | exact Mem.here | apply Mem.there)) (by simp [slsV]) rfl hlt') ?_
      refine Jl.pv (PR.loadR rfl tsh41 (by repeat (first | exact Mem.here | apply Mem.there)) (getsls hlt')) ?_
      refine Jl.pv (PR.assign rfl) ?_
      refine Jl.nil ?_
      refine Jq.thenN ?_
      refine Jc.region ?_
      refine Jl.pv (PR.move rfl) ?_
      refine Jl.pv (PR.move rfl) ?_
      refine Jl.append (sumS (zs.take (j + 1))) (flatS (zs.take (j + 1))) rfl rfl rfl tsl41 tze3 (by rfl) (by decide) tby3 (fun _ _ => (by repeat (first | exact Swap.here | apply Swap.there))) (by repeat (first | exact Mem.here | apply Mem.there)) (by omega) (by rw [flatS_take hlt']) (by rw [Nat.mul_one]; exact hl _ (List.getElem_mem _)) (hone _ (List.getElem_mem _)) (by omega) (by decide) ?_
      intro A33 c33
      refine Jl.pv (PR.assign rfl) ?_
      refine Jl.nil ?_
      refine Jq.blkN ?_
      refine Jq.thenN ?_
      refine Jc.region ?_
      refine Jl.pv (PR.add ((j + 1 : Nat) : Int) rfl rfl (by rw [w64 (by omega) (by omega)]; rfl)) ?_
      refine Jl.pv (PR.move rfl) ?_
      refine Jl.nil ?_
      refine Jq.again ⟨⟨j + 1, hlt'⟩, A33, c33⟩ (by simp only; omega) (by repeat (first | exact trivial | refine And.intro rfl ?_)) rfl (by repeat (first | exact trivial | refine And.intro (by repeat (first | exact Mem.here | apply Mem.there)) ?_))
    · try replace hlt2 := of_decide_eq_false hlt2
      have hke2 : zs.take j = zs := List.take_of_length_le (by omega)
      rw [hke2]
      refine Jc.exit ?_
      refine Jq.thenX ?_
      refine Jq.thenX ?_
      refine Jq.blkX ?_
      refine Jq.thenN ?_
      refine Jc.seq ?_
      refine Jc.region ?_
      refine Jl.pv (PR.move rfl) ?_
      refine Jl.pv (PR.assign rfl) ?_
      refine Jl.nil ?_
      refine Jq.thenN ?_
      refine Jc.ret ?_
      exact Jq.fin (A', c') (.inl rfl) rfl (RetVs.tmp rfl RetVs.nil) rfl (by repeat (first | exact Take.nil | apply Take.cons (by repeat (first | exact Del.here | apply Del.there)))) (by repeat (first | exact trivial | refine And.intro (by repeat (first | exact Mem.here | apply Mem.there)) ?_))
theorem iconcat_at {L : Option Addr} {cL m : Nat} {l : List Int} (zs : List Slc) (hn : zs.length ≤ 1000000) (hs : sumS zs ≤ 1000000) (hl : ∀ z ∈ zs, z.2.2.length = z.2.1) (h1 : ∀ z ∈ zs, ∀ u ∈ z.2.2, u.oneCell' = true) (hz : zs.length = m) (hf : flatS zs = i64s l) (hm : sumS zs = l.length) :
    Ct Tryd.prog 61 [.slice L m cL] [] [.rd L (slsV zs), .sls zs] (fun x : AdC => .slice x.1 l.length x.2) (fun x => [.row 3 1 (.slice x.1 l.length x.2) l.length (i64s l)]) (fun _ => []) := by
  subst hz
  have h0 := iconcat_ct L cL zs hn hs hl h1
  rw [hf, hm] at h0
  exact h0
end Go.Proofs.YtcohgnagffibcaaDoor
