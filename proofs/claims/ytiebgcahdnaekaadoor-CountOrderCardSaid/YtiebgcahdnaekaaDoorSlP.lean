/-
Rows of slices, plainly.
-/
import Derived.Test.YtiebgcahdnaekaaDoorJg
namespace Go.Proofs.YtiebgcahdnaekaaDoor
set_option linter.unusedVariables false
open Go.RowKit
abbrev AdC := Option Addr × Nat
/-- Slices: where each lies, how many it has, its cells. -/
abbrev Slc := AdC × Nat × List Value
abbrev i64s (l : List Int) : List Value := l.map (Value.int .i64)
def slsV (zs : List Slc) : List Value := zs.map fun z => .slice z.1.1 z.2.1 z.1.2
def Fact.sls (zs : List Slc) : Fact := ⟨fun X W => ∀ z ∈ zs, (Fact.rd z.1.1 z.2.2).p X W, fun X X' W W' h hf hx z hz => (Fact.rd z.1.1 z.2.2).fr X X' W W' (h z hz) hf hx⟩
def sumS (zs : List Slc) : Nat := (zs.map (·.2.1)).sum
def flatS (zs : List Slc) : List Value := zs.flatMap (·.2.2)
theorem sumS_take {zs : List Slc} {k : Nat} (h : k < zs.length) : sumS (zs.take (k + 1)) = sumS (zs.take k) + zs[k].2.1 := by
  rw [List.take_succ_eq_append_getElem h, sumS, List.map_append, List.sum_append]; simp [sumS]
theorem flatS_take {zs : List Slc} {k : Nat} (h : k < zs.length) : flatS (zs.take (k + 1)) = flatS (zs.take k) ++ zs[k].2.2 := by
  rw [List.take_succ_eq_append_getElem h, flatS, List.flatMap_append]; simp [flatS]
theorem sumS_le (zs : List Slc) (k : Nat) : sumS (zs.take k) ≤ sumS zs := by
  have : sumS zs = sumS (zs.take k) + sumS (zs.drop k) := by unfold sumS; rw [← List.sum_append, ← List.map_append, List.take_append_drop]
  omega
theorem getsls {zs : List Slc} {k : Nat} (h : k < zs.length) : (slsV zs)[k]? = some (.slice zs[k].1.1 zs[k].2.1 zs[k].1.2) := by simp [slsV, h]
theorem i64s_one (l : List Int) : ∀ u ∈ i64s l, u.oneCell' = true := by
  intro u hu
  obtain ⟨n, _, rfl⟩ := List.mem_map.1 hu
  rfl
theorem getDE {l : List Int} {k : Nat} (h : k < l.length) : l.getD k 0 = l[k] := by rw [List.getD_eq_getElem?_getD, List.getElem?_eq_getElem h]; rfl
theorem getd {l : List Int} {k : Nat} (h : k < l.length) : (i64s l)[k]? = some (.int .i64 (l.getD k 0)) := by rw [getDE h]; simp [i64s, h]
theorem not_true {b : Bool} (h : (!b) = true) : b = false := by simpa using h
theorem not_false {b : Bool} (h : (!b) = false) : b = true := by simpa using h
theorem putL_one : ∀ {cs : List Value} {j : Nat} {v : Value}, j < cs.length → putL cs j [v] = some (cs.set j v)
  | [], _, _, h => by simp at h
  | c :: cs, 0, v, h => by cases cs <;> rfl
  | c :: cs, j + 1, v, h => by simp only [putL]; rw [putL_one (by simpa using h)]; rfl
section
variable {P : Program} {r : Option Nat} {C : Cx} {n : Nat × List Nat} {Q : Exit → Act → World → Prop} {c : Code} {env : List (Nat × Value)} {R R' : List Res} {Φ : List Fact} {ops : Array Oper} {rest : List Oper}
theorem Jc.slNil (k : Jc P r C n Q c env R (.sls [] :: Φ)) : Jc P r C n Q c env R Φ := Jc.fact0 (.sls []) (fun X W => by intro z hz; simp at hz) k
theorem Jl.slNil (k : Jl P r C n ops Q rest env R (.sls [] :: Φ)) : Jl P r C n ops Q rest env R Φ := Jl.fact0 (.sls []) (fun X W => by intro z hz; simp at hz) k
theorem Jc.slCons {zs : List Slc} (z : Slc) (hm : Mem (.rd z.1.1 z.2.2) Φ) (hz : Mem (.sls zs) Φ) (k : Jc P r C n Q c env R (.sls (z :: zs) :: Φ)) : Jc P r C n Q c env R Φ := fun a W h1 h2 => k a W h1 (h2.add (φ := .sls (z :: zs)) fun y hy => by
  rcases List.mem_cons.1 hy with rfl | hy
  · exact h2.fact hm
  · exact h2.fact hz y hy)
theorem Jl.slCons {zs : List Slc} (z : Slc) (hm : Mem (.rd z.1.1 z.2.2) Φ) (hz : Mem (.sls zs) Φ) (k : Jl P r C n ops Q rest env R (.sls (z :: zs) :: Φ)) : Jl P r C n ops Q rest env R Φ := fun a W h1 h2 => k a W h1 (h2.add (φ := .sls (z :: zs)) fun y hy => by
  rcases List.mem_cons.1 hy with rfl | hy
  · exact h2.fact hm
  · exact h2.fact hz y hy)
theorem Jc.slAt {zs : List Slc} (k : Nat) (hk : k < zs.length) (hm : Mem (.sls zs) Φ) (j : Jc P r C n Q c env R (.rd zs[k].1.1 zs[k].2.2 :: Φ)) : Jc P r C n Q c env R Φ :=
  Jc.fact (.rd zs[k].1.1 zs[k].2.2) (φ := .sls zs) hm (fun X W h => h _ (List.getElem_mem _)) j
end
end Go.Proofs.YtiebgcahdnaekaaDoor
