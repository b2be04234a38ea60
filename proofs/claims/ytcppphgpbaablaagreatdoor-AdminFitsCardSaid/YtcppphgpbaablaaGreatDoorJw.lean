/-
The logic of walks: elements, and fields of elements, of rows of one's own and of what is only read.
Conditions: none; no program in sight.
-/
import Derived.Test.YtcppphgpbaablaaGreatDoorJm
namespace Go.Proofs.YtcppphgpbaablaaGreatDoor
set_option linter.unusedVariables false
open Go.RowKit
section
variable {P : Program} {r : Option Nat} {C : Cx} {n : Nat × List Nat} {ops : Array Oper} {Q : Exit → Act → World → Prop} {rest : List Oper} {env : List (Nat × Value)} {R R0 R' : List Res} {Φ : List Fact}
  {d : Nat} {T T' : TypeId} {pos : String} {af : Array Edge} {x y : Operand} {u v : Value} {A : Option Addr} {e : TypeId} {s m cap k : Nat} {xs : List Value}
/-- A row of one's own that is not empty. -/
theorem row_form {W : World} (h : (Res.row e s (.slice A m cap) m xs).says W) (hk : k < xs.length) : ∃ g cur, A = some ⟨g, 0, none⟩ ∧ W.heap[g]? = some (.cells cur e (0, 0)) ∧ cur.toList.take (m * s) = xs ∧ xs.length = m * s ∧ m ≤ cap ∧ cap ≤ maxLen ∧ cur.size = cap * s := by
  obtain ⟨h1, h2⟩ := h
  rcases h2 with ⟨_, h3⟩ | ⟨g, cap', cur, h3, _, h5, h6, h7, h8, h9⟩
  · subst h3; simp at h1; subst h1; simp at hk
  · simp only [Value.slice.injEq, true_and] at h3
    obtain ⟨rfl, rfl⟩ := h3
    exact ⟨g, cur, rfl, h5, h9, h1, h6, h7, h8⟩
theorem row_cell {W : World} {g : Nat} {cur : Array Value} (h1 : W.heap[g]? = some (.cells cur e (0, 0))) (h2 : cur.toList.take (m * s) = xs) {j : Nat} {v : Value} (hj : xs[j]? = some v) : W.cell? ⟨g, j, none⟩ = some v := by
  rw [cell_of_row W g j cur _ _ h1]
  rw [← h2] at hj
  have hlt := (List.getElem?_eq_some_iff.1 hj).1
  rw [List.getElem?_take_of_lt (by simp at hlt; omega)] at hj
  simpa using hj
theorem PR.idxO {len : Nat} {kd : IntKind} {i : Int} (j : Nat) (hx : opv env x = some (.slice A len cap)) (hy : opv env y = some (.int kd i)) (hT : tslice P T' = some (e, s))
    (hD : Del (.row e s (.slice A len cap) len xs) R R0) (hs : 0 < s) (hi : i = j) (hj : j < len) : PR P C n env R Φ (.indexAddr T' x y) T (.pointer (A.map (·.add (j * s)))) := fun a W he hsat d pos af g => by
  subst hi
  obtain ⟨hu, inf, hi, hk⟩ := tslice_spec hT
  obtain ⟨q1, _, _⟩ := hD.sep hsat.sep
  have hlen : xs.length = len * s := q1.1
  obtain ⟨g, cur, rfl, _⟩ := row_form (k := j * s) q1 (by rw [hlen]; exact Nat.mul_lt_mul_of_pos_right hj hs)
  have h1 : (0 : Int) ≤ j ∧ (j : Int) < len := by omega
  have h2 : ¬ len ≤ j := by omega
  simp [execOp, he.eval hx, he.eval hy, Instr.indexAt, asIntOf, run_underlying hu, sizeOf, typeInfo, hi, hk, h1, h2]
theorem PR.idxO1 {len : Nat} {kd : IntKind} {i : Int} (j : Nat) (hx : opv env x = some (.slice A len cap)) (hy : opv env y = some (.int kd i)) (hT : tslice P T' = some (e, 1))
    (hD : Del (.row e 1 (.slice A len cap) len xs) R R0) (hi : i = j) (hj : j < len) : PR P C n env R Φ (.indexAddr T' x y) T (.pointer (A.map (·.add j))) := by
  have := PR.idxO (P := P) (C := C) (n := n) (env := env) (R := R) (R0 := R0) (Φ := Φ) (T := T) j hx hy hT hD (by decide) hi hj
  simpa using this
theorem PR.loadO (hx : opv env x = some (.pointer (A.map (·.add k)))) (hT : tshape P T' = some (false, m)) {l : Nat} (hD : Del (.row e s (.slice A l cap) l xs) R R0) (hv : xs[k]? = some v) : PR P C n env R Φ (.load T' x) T v := fun a W he hs d pos af g => by
  obtain ⟨q1, _, _⟩ := hD.sep hs.sep
  obtain ⟨g, cur, rfl, h1, h2, _⟩ := row_form q1 (List.getElem?_eq_some_iff.1 hv).1
  have hc := row_cell h1 h2 hv
  simp [execOp, he.eval hx, Instr.loadAt, Instr.sureAddr, loadVar, run_isAgg_ts hT, add_none, hc]
theorem PR.loadOA {vs : List Value} (hx : opv env x = some (.pointer (A.map (·.add k)))) (hT : tshape P T' = some (true, m)) {l : Nat} (hD : Del (.row e s (.slice A l cap) l xs) R R0) (hm : 0 < m) (hv : takeL xs k m = some vs) : PR P C n env R Φ (.load T' x) T (.agg vs.toArray) := fun a W he hs d pos af g => by
  obtain ⟨hvl, hv⟩ := takeL_spec hv
  obtain ⟨q1, _, _⟩ := hD.sep hs.sep
  have h0 := hv 0 _ (List.getElem?_eq_getElem (by omega))
  obtain ⟨g, cur, rfl, h1, h2, _⟩ := row_form q1 (List.getElem?_eq_some_iff.1 h0).1
  have hl : (loadCells ⟨g, k, none⟩ m).run P W = .ok vs.toArray W := by
    have := run_loadCells_list (P := P) W ⟨g, k, none⟩ vs (fun i u hu => by
      rw [add_none]
      exact row_cell h1 h2 (hv i u hu))
    rwa [hvl] at this
  simp [execOp, he.eval hx, Instr.loadAt, Instr.sureAddr, loadVar, run_isAgg_ts hT, run_sizeOf_ts hT, add_none, hl]
theorem PR.loadRA {vs : List Value} (hx : opv env x = some (.pointer (A.map (·.add k)))) (hT : tshape P T' = some (true, m)) (hM : Mem (.rd A xs) Φ) (hm : 0 < m) (hv : takeL xs k m = some vs) : PR P C n env R Φ (.load T' x) T (.agg vs.toArray) := fun a W he hs d pos af g => by
  obtain ⟨hvl, hv⟩ := takeL_spec hv
  have hf := hs.fact hM
  obtain ⟨ad, rfl, _⟩ := hf k _ (hv 0 _ (List.getElem?_eq_getElem (by omega)))
  have hl : (loadCells (ad.add k) m).run P W = .ok vs.toArray W := by
    have := run_loadCells_list (P := P) W (ad.add k) vs (fun i u hu => by
      obtain ⟨ad', h1, _, _, h2⟩ := hf _ u (hv i u hu)
      cases h1
      rw [add_add]
      exact h2)
    rwa [hvl] at this
  simp [execOp, he.eval hx, Instr.loadAt, Instr.sureAddr, loadVar, run_isAgg_ts hT, run_sizeOf_ts hT, hl]
theorem PR.fieldAddrR {f o q : Nat} (hx : opv env x = some (.pointer (A.map (·.add k)))) (hf : tfield P T' f = some (o, q + 1)) (hM : Mem (.rd A xs) Φ) (hk : k < xs.length) : PR P C n env R Φ (.fieldAddr T' x f) T (.pointer (A.map (·.add (k + o)))) := fun a W he hs d pos af g => by
  obtain ⟨fs, fx, i, hu, hfx, hi, hk', ho⟩ := tfield_spec hf
  obtain ⟨ad, rfl, _⟩ := hs.fact hM k _ (List.getElem?_eq_getElem hk)
  simp [execOp, he.eval hx, Instr.fieldAt, run_underlying hu, hfx, Instr.sureAddr, fieldPlace, sizeOf, typeInfo, hi, hk', ho, add_add]
theorem PR.fieldAddrO {f o q l : Nat} (hx : opv env x = some (.pointer (A.map (·.add k)))) (hf : tfield P T' f = some (o, q + 1)) (hD : Del (.row e s (.slice A l cap) l xs) R R0) (hk : k < xs.length) : PR P C n env R Φ (.fieldAddr T' x f) T (.pointer (A.map (·.add (k + o)))) := fun a W he hs d pos af g => by
  obtain ⟨fs, fx, i, hu, hfx, hi, hk', ho⟩ := tfield_spec hf
  obtain ⟨q1, _, _⟩ := hD.sep hs.sep
  obtain ⟨b, cur, rfl, _⟩ := row_form q1 hk
  simp [execOp, he.eval hx, Instr.fieldAt, run_underlying hu, hfx, Instr.sureAddr, fieldPlace, sizeOf, typeInfo, hi, hk', ho, add_add]
theorem put_take {c vs : List Value} {k m N : Nat} (h1 : k + m ≤ N) (h2 : N ≤ c.length) (hl : vs.length = m) : (c.take k ++ vs ++ c.drop (k + m)).take N = (c.take N).take k ++ vs ++ (c.take N).drop (k + vs.length) := by
  subst hl
  have e1 : (c.take k).length = k := by simp; omega
  have e2 : (c.take k ++ vs).length = k + vs.length := by rw [List.length_append, e1]
  rw [List.take_append, e2, List.take_of_length_le (by rw [e2]; exact h1), List.take_take, Nat.min_eq_left (by omega), List.drop_take]
theorem Jl.storeOA {bb : Bool} {vs xs' : List Value} {l : Nat} (hx : opv env x = some (.pointer (A.map (·.add k)))) (hT : tshape P T' = some (bb, m)) (hy : opv env y = some v) (hv : v.cells = vs.toArray) (hl : vs.length = m) (hm : 0 < m) (h1 : ∀ u ∈ vs, u.oneCell' = true)
    (hw : Swap (.row e s (.slice A l cap) l xs) (.row e s (.slice A l cap) l xs') R R') (hc : putL xs k vs = some xs') (j : Jl P r C n ops Q rest env R' Φ) : Jl P r C n ops Q (⟨none, .store T' x y, T, pos, af, none⟩ :: rest) env R Φ :=
  Jl.act (by simp) fun a W he hs => by
    obtain ⟨hj, hcs⟩ := putL_spec hc
    have q1 := hw.old hs.sep
    obtain ⟨g, cur, rfl, g1, g2, g3, g4, g5, g6⟩ := row_form (k := k) q1 (by omega)
    have hsz : cur.size = cap * s := g6
    have hcl : cur.toList.length = cap * s := by simpa using g6
    have hle : l * s ≤ cap * s := Nat.mul_le_mul_right s g4
    obtain ⟨W', hr, h2, h3⟩ := storeAt_blk (P := P) (W := W) (b := g) (cs := cur.toList) (by simpa using g1) hT hv hl h1 (j := k) (by omega)
    refine ⟨W', R', Φ, by simp [execOp, he.eval hx, he.eval hy, hr, add_none], hs.swap hw ⟨h3.os, h3.tape, h3.output, h3.size, fun b hb hn => h3.block b hb fun e => hn ?_⟩ ⟨?_, .inr ⟨g, cap, _, rfl, Nat.zero_le _, h2, g4, g5, ?_, ?_⟩⟩ (fun b hb => .inl hb), j⟩
    · show some g = some b
      rw [show b = g from e]
    · rw [hcs]; simp; omega
    · simp; omega
    · rw [hcs, ← g2]
      exact put_take (by rw [← hl, ← g3]; exact hj) (by omega) hl
theorem Jl.storeO {l : Nat} {xs' : List Value} (hx : opv env x = some (.pointer (A.map (·.add k)))) (hT : tshape P T' = some (false, 1)) (hy : opv env y = some v) (h1 : v.oneCell' = true)
    (hw : Swap (.row e s (.slice A l cap) l xs) (.row e s (.slice A l cap) l xs') R R') (hk : k < xs.length) (hc : xs.set k v = xs') (j : Jl P r C n ops Q rest env R' Φ) : Jl P r C n ops Q (⟨none, .store T' x y, T, pos, af, none⟩ :: rest) env R Φ := by
  have hcc : v.cells = ([v] : List Value).toArray := by cases v <;> first | rfl | (simp [Value.oneCell'] at h1)
  refine Jl.storeOA (vs := [v]) hx hT hy hcc rfl (by omega) (by simpa using h1) hw ?_ j
  subst hc
  clear hw hx
  induction xs generalizing k with
  | nil => simp at hk
  | cons z zs ih =>
    cases k with
    | zero => cases zs <;> rfl
    | succ k => simp only [putL]; rw [ih (by simpa using hk)]; rfl
theorem PR.nilCheck {a : Addr} (hx : opv env x = some (.pointer (some a))) : PR P C n env R Φ (.nilCheck x) T (.pointer (some a)) := fun a' W he _ d pos af g => by
  simp [execOp, he.eval hx]
/-- A field of a struct's value. -/
theorem PR.field1 {f o m : Nat} {vs : List Value} (hx : opv env x = some (.agg vs.toArray)) (hf : tfield P T' f = some (o, m)) (hs : ∃ fs fx, P.underlying T' = some (.struct fs) ∧ fs[f]? = some fx ∧ tshape P fx.type = some (false, m)) (hv : vs[o]? = some v) : PR P C n env R Φ (.field T' x f) T v := fun a W he _ d pos af g => by
  obtain ⟨fs, fx, i, hu, hfx, hi, hk, ho⟩ := tfield_spec hf
  obtain ⟨fs', fx', h1, h2, h3⟩ := hs
  rw [hu] at h1; cases h1
  rw [hfx] at h2; cases h2
  have hp : (part fx.type vs.toArray fx.offset).run P W = .ok v W := by
    simp [part, run_isAgg_ts h3, ho, hv]
  simp [execOp, he.eval hx, Instr.field, run_underlying hu, hfx, asAgg, hp]
theorem PR.sneq {l l' : List UInt8} (t : Bool) (hx : opv env x = some (.string ⟨l.toArray⟩)) (hy : opv env y = some (.string ⟨l'.toArray⟩)) (ht : decide (l ≠ l') = t)  : PR P C n env R Φ (.binOp .neq T' x y T') T (.bool t) := fun a W he _ d pos af g => (by
    subst ht
    have : ((⟨l.toArray⟩ : ByteArray).toList == (⟨l'.toArray⟩ : ByteArray).toList) = decide (l = l') := by
      rw [Bool.eq_iff_iff]; simp [Array.getD]
    have h2 : (!decide (l = l')) = decide (l ≠ l') := by simp
    simp [execOp, he.eval hx, he.eval hy, eqGuard, binOp, Op.stringOp, this]
    rw [Bool.eq_iff_iff]; simp)
/-- An element of an array of one's own. -/
theorem PR.idxA {b j0 len s : Nat} {et : TypeId} {kd : IntKind} {i : Int} (j : Nat) (hx : opv env x = some (.pointer (some ⟨b, j0, none⟩))) (hy : opv env y = some (.int kd i)) (hT : tarray P T' = some (len, et, s)) (hi : i = j) (hj : j < len) :
    PR P C n env R Φ (.indexAddr T' x y) T (.pointer (some ⟨b, j0 + j * s, none⟩)) := fun a W he _ d pos af g => by
  subst hi
  obtain ⟨hu, inf, hin, hk⟩ := tarray_spec hT
  have h1 : (0 : Int) ≤ j ∧ (j : Int) < len := by omega
  simp [execOp, he.eval hx, he.eval hy, Instr.indexAt, asIntOf, run_underlying hu, Instr.sureAddr, sizeOf, typeInfo, hin, hk, h1, hj, add_none]
/-- A new slice of zeros. -/
theorem Jl.makeSlice {l : Operand} {m : Nat} {cs : List Value} (h : ∀ W : World, (Instr.makeSlice T' (.int .i64 (m : Int)) (.int .i64 (m : Int))).run P W = .ok (.slice (some ⟨W.heap.size, 0, none⟩) m m) (W.alloc (.cells cs.toArray e))) (hx : opv env x = some (.int .i64 (m : Int))) (hy : opv env l = some (.int .i64 (m : Int)))
    (k : ∀ b, Jl P r C n ops Q rest ((d, .slice (some ⟨b, 0, none⟩) m m) :: env) (.blk b e cs :: R) Φ) (hd : Nat.blt d n.1 = true := by rfl) : Jl P r C n ops Q (⟨some d, .makeSlice T' x l, T, pos, af, none⟩ :: rest) env R Φ :=
  Jl.valx hd (by simp) fun a W he hs => by
    refine ⟨_, _, _, _, ?_, hs.new cs e, k _⟩
    simp [execOp, he.eval hx, he.eval hy, h W]
end
end Go.Proofs.YtcppphgpbaablaaGreatDoor
