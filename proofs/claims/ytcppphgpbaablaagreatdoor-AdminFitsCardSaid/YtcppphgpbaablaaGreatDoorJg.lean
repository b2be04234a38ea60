/-
Rules: package-level variables, elements of arrays' values, rows that grow with zeros, capacities.
Conditions: none; no program in sight.
-/
import Derived.Test.YtcppphgpbaablaaGreatDoorJw
import Derived.Test.YtcppphgpbaablaaGreatDoorJt
import Derived.Test.YtcppphgpbaablaaGreatDoorJk
import Derived.Lib.AppendZerosOnto
namespace Go.Proofs.YtcppphgpbaablaaGreatDoor
set_option linter.unusedVariables false
open Go.RowKit
section
variable {P : Program} {r : Option Nat} {C : Cx} {n : Nat × List Nat} {ops : Array Oper} {Q : Exit → Act → World → Prop} {rest : List Oper} {env : List (Nat × Value)} {R R' : List Res} {Φ : List Fact} {d : Nat} {T T' : TypeId} {x y : Operand} {v : Value} {pos : String} {af : Array Edge}
/-- An element of an array's value. -/
theorem PR.index1 {len : Nat} {et : TypeId} {kd : IntKind} {i : Int} {vs : List Value} (j : Nat) (hx : opv env x = some (.agg vs.toArray)) (hy : opv env y = some (.int kd i)) (hT : tarray P T' = some (len, et, 1)) (hs : tshape P et = some (false, 1)) (hi : i = j) (hj : j < len) (hv : vs[j]? = some v) :
    PR P C n env R Φ (.index T' x y) T v := fun a W he _ d pos af g => by
  subst hi
  obtain ⟨hu, inf, hin, hk⟩ := tarray_spec hT
  have h1 : (0 : Int) ≤ j ∧ (j : Int) < len := by omega
  simp [execOp, he.eval hx, he.eval hy, Instr.index, asIntOf, run_underlying hu, part, run_isAgg_ts hs, sizeOf, typeInfo, hin, hk, h1, hj, hv]
/-- An element of an array that is only read. -/
theorem PR.idxRA {ad : Addr} {len s : Nat} {et : TypeId} {kd : IntKind} {i : Int} (j : Nat) (hx : opv env x = some (.pointer (some ad))) (hy : opv env y = some (.int kd i)) (hT : tarray P T' = some (len, et, s)) (hi : i = j) (hj : j < len) :
    PR P C n env R Φ (.indexAddr T' x y) T (.pointer ((some ad : Option Addr).map (·.add (j * s)))) := fun a W he _ d pos af g => by
  subst hi
  obtain ⟨hu, inf, hin, hk⟩ := tarray_spec hT
  have h1 : (0 : Int) ≤ j ∧ (j : Int) < len := by omega
  simp [execOp, he.eval hx, he.eval hy, Instr.indexAt, asIntOf, run_underlying hu, Instr.sureAddr, sizeOf, typeInfo, hin, hk, h1, hj]
/-- A package-level variable of one cell. -/
theorem PR.loadG {g m : Nat} {xs : List Value} (hx : opv env x = some (.pointer (some ⟨g, 0, none⟩))) (hT : tshape P T' = some (false, m)) (hm : Mem (.rd (some ⟨g, 0, none⟩) xs) Φ) (hv : xs[0]? = some v) : PR P C n env R Φ (.load T' x) T v :=
  PR.loadR (A := some ⟨g, 0, none⟩) (j := 0) (by rw [hx]; rfl) hT hm hv
/-- A look-up in a map that is only read. -/
theorem PR.lookupF {φ : Fact} {ok : Bool} {u mv key : Value} (hm : Mem φ Φ) (hx : opv env x = some mv) (hy : opv env y = some key) (h : ∀ X W, φ.p X W → (Instr.lookup T' mv key ok).run P W = .ok u W) : PR P C n env R Φ (.lookup T' x y ok) T u := fun a W he hs _ pos af g => by
  have := h _ _ (hs.fact hm)
  simp [execOp, he.eval hx, he.eval hy, this]
/-- How many more have room. -/
theorem PR.cap {A : Option Addr} {m c : Nat} {e : TypeId} {s : Nat} (hx : opv env x = some (.slice A m c)) (hT : tslice P T' = some (e, s))  : PR P C n env R Φ (.call { callee := .builtin .cap, args := #[x], argTypes := #[T'] }) T (.int .i64 c) := fun a W he _ d pos af g => (by
    simp [execOp, he.eval hx, resolve, invoke, builtin, Builtin.cap_, run_underlying (tslice_spec hT).1, goInt])
theorem zeroCells_size (z : Array Value) (k : Nat) : (Builtin.zeroCells z k).size = k * z.size := by simp [Builtin.zeroCells]
/-- Room for so many more, of nothing. -/
theorem Jl.growNil {mm : Nat} {tn e : TypeId} {s bytes : Nat} {zc : List Value} {kn kq : IntKind} (hx : opv env x = some (.slice none 0 0)) (hy : opv env y = some (.int kq (mm : Int))) (hT : tslice P T' = some (e, s)) (hn : P.underlying tn = some (.int kn)) (hz : tzero P e = some zc) (hzl : zc.length = s) (hs0 : 0 < s)
    (hb : P.bytesOf e = bytes) (h0 : 0 < mm) (h63 : mm ≤ 100000000) (hby : bytes ≤ 1000000) (k : ∀ A' c', mm ≤ c' → Jl P r C n ops Q rest ((d, .slice A' mm c') :: env) (.row e s (.slice A' 0 c') 0 [] :: R) Φ) (hd : Nat.blt d n.1 = true := by rfl) :
    Jl P r C n ops Q (⟨some d, .call { callee := .builtin .append, args := #[x, y], argTypes := #[T', tn] }, T, pos, af, none⟩ :: rest) env R Φ :=
  Jl.valx hd (by simp) fun a W he hs => by
    obtain ⟨hu, inf, hi, hk⟩ := tslice_spec hT
    have hzz : ∃ z, inf.zero = some z ∧ z.cells = zc.toArray := by
      unfold tzero at hz
      rw [hi] at hz
      cases h : inf.zero with
      | none => simp [h] at hz
      | some z => simp [h] at hz; exact ⟨z, rfl, by rw [← hz]⟩
    obtain ⟨z, hz1, hz2⟩ := hzz
    have hbb : inf.bytes = bytes := by simpa [Program.bytesOf, hi] using hb
    have hbnd : mm * bytes ≤ 140737488355328 := Nat.le_trans (Nat.mul_le_mul h63 hby) (by omega)
    have hfit : Builtin.nextslicecap mm 0 * bytes ≤ 281474976710656 := by
      refine Nat.le_trans (Nat.mul_le_mul_right _ (nextslicecap_le h0)) ?_
      rw [Nat.mul_assoc]; omega
    have hrun := Go.Lib.run_append_grow_zeros (P := P) W T' tn T e inf z kq kn hu hn hi hz1 none 0 0 [] (by exact run_firstCells_none _ _ _ _ _) mm h0 (by rw [hk]; exact hs0) (by omega) (by omega) (by rw [hbb]; omega) (by rw [hbb, Nat.zero_add]; exact hfit)
    have hge := grownCap_ge W (0 + mm) 0 e
    have hle := grownCap_le_maxLen W (0 + mm) 0 e (by unfold maxLen; omega)
    rw [Nat.zero_add] at hrun hge hle
    obtain ⟨cap, hcap⟩ : ∃ cap, grownCap W mm 0 e = cap := ⟨_, rfl⟩
    rw [hcap] at hrun hge hle
    refine ⟨_, W.drew.alloc (.cells (#[] ++ Builtin.zeroCells z.cells mm ++ Builtin.zeroCells z.cells (cap - mm)) e), .row e s (.slice (some ⟨W.heap.size, 0, none⟩) 0 cap) 0 [] :: R, Φ, ?_, ?_, k (some ⟨W.heap.size, 0, none⟩) cap hge⟩
    · simp only [execOp, resolve, invoke, builtin, Sem.run_bind, Sem.run_pure, Result.andThen_ok, List.map_toArray, List.map_cons, List.map_nil, he.eval hx, he.eval hy, hrun]
    · have hsz : (#[] ++ Builtin.zeroCells z.cells mm ++ Builtin.zeroCells z.cells (cap - mm)).size = cap * s := by
        rw [Array.size_append, Array.size_append, zeroCells_size, zeroCells_size, hz2]
        have h9 : mm * s + (cap - mm) * s = cap * s := by
          rw [← Nat.add_mul]
          congr 1
          omega
        simpa [hzl] using h9
      refine (hs.grow (Foreign.drew _ W)).step (W' := W.drew.alloc _) (Foreign.alloc _ W.drew _) ⟨⟨by simp, .inr ⟨W.heap.size, cap, _, rfl, Nat.zero_le _, World.alloc_heap_new W.drew _, Nat.zero_le _, hle, hsz, by simp⟩⟩, fun b hb => ?_, (hs.grow (Foreign.drew _ W)).sep.keep fun b hb => Below.heap_alloc W.drew _ b (hs.sep.lt b hb)⟩ fun b hb => ?_
      · have hb' : W.heap.size = b := by simpa [Res.row, Value.ownBlock] using hb
        subst hb'
        exact ⟨fun hx => absurd (hs.x0lt _ hx) (Nat.lt_irrefl _), fun hx => absurd (hs.sep.lt _ hx) (Nat.lt_irrefl _)⟩
      · rcases hb with hb | hb
        · have hb' : W.heap.size = b := by simpa [Res.row, Value.ownBlock] using hb
          exact .inr (Nat.le_of_eq hb')
        · exact .inl hb
/-- The beginning of a slice. -/
theorem PR.slice0 {A : Option Addr} {len cap s : Nat} {e : TypeId} {hi : Operand} (h : Nat) (hx : opv env x = some (.slice A len cap)) (hT : tslice P T' = some (e, s)) (hhi : opv env hi = some (.int .i64 (h : Int))) (h2 : h ≤ len) (h3 : len ≤ cap) :
    PR P C n env R Φ (.slice T' x none (some hi) none) T (.slice A h cap) := fun a W he _ d pos af g => by
  have := Dh.slice_run (P := P) (n := n) (l := 0) (h := h) (a := a) (W := W) (o := ⟨d, .slice T' x none (some hi) none, T, pos, af, g⟩) rfl he hx hT rfl hhi (Nat.zero_le _) h2 h3
  rw [this]
  cases A with
  | none => simp
  | some a => simp [Addr.add]
end
end Go.Proofs.YtcppphgpbaablaaGreatDoor
