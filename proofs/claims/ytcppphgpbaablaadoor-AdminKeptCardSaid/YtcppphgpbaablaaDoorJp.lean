/-
The logic of walks: maps from numbers to numbers that the call makes.
Conditions: none; no program in sight.
-/
import Derived.Test.YtcppphgpbaablaaDoorJg
import Derived.Maps.OwnOps
import Derived.Maps.OwnSet
namespace Go.Proofs.YtcppphgpbaablaaDoor
set_option linter.unusedVariables false
open Go.RowKit
/-- A map of one's own, from numbers to numbers: what it has at each key (0: nothing). -/
def Res.mapI (P : Program) (k e : TypeId) (b n : Nat) (f : Int → Int) : Res where
  own := fun g => g = b
  says := fun W => ∃ D : DataW Unit, W.ownsMap P k (plainElem P e) b n D ∧ ∀ a, (Lit.int .i64 a).wf = true → D.atKey (.int .i64 a) (.lit (.int .i64 0)) = .lit (.int .i64 (f a))
  dep := fun W W' h ⟨D, ⟨es, clock, h1, h2⟩, h3⟩ => ⟨D, ⟨es, clock, (h b rfl).trans h1, h2⟩, h3⟩
  lt := fun W ⟨D, h, _⟩ g hg => by subst hg; exact h.lt
theorem wf64 {a : Int} (h1 : -9223372036854775808 ≤ a) (h2 : a ≤ 9223372036854775807) : (Lit.int .i64 a).wf = true := by
  simp [Lit.wf, IntKind.min, IntKind.max, IntKind.signed, IntKind.bits]; omega
section
variable {P : Program} {r : Option Nat} {C : Cx} {n : Nat × List Nat} {ops : Array Oper} {Q : Exit → Act → World → Prop} {rest : List Oper} {env : List (Nat × Value)} {R R0 R' : List Res} {Φ : List Fact}
  {d : Nat} {T T' : TypeId} {pos : String} {af : Array Edge} {x y z : Operand} {k e : TypeId} {b m : Nat} {f : Int → Int}
theorem Jl.makeMapI (ht : P.underlying T' = some (.map k e)) (j : ∀ b, Jl P r C n ops Q rest ((d, .map (some b)) :: env) (.mapI P k e b 0 (fun _ => 0) :: R) Φ) (hd : Nat.blt d n.1 = true := by rfl) :
    Jl P r C n ops Q (⟨some d, .makeMap T' none, T, pos, af, none⟩ :: rest) env R Φ :=
  Jl.valx hd (by simp) fun a W he hs => by
    refine ⟨.map (some W.heap.size), W.alloc (.map #[] 0), .mapI P k e W.heap.size 0 (fun _ => 0) :: R, Φ, ?_, ?_, j _⟩
    · simp [execOp, run_makeMap]
    · refine hs.step (W' := W.alloc _) (Foreign.alloc _ W _) ⟨⟨.map [], World.ownsMap_made _ _ _ _, fun a _ => rfl⟩, fun b hb => ?_, hs.sep.keep fun b hb => Below.heap_alloc W _ b (hs.sep.lt b hb)⟩ fun b hb => ?_
      · have hb' : b = W.heap.size := hb
        subst hb'
        exact ⟨fun hx => absurd (hs.x0lt _ hx) (Nat.lt_irrefl _), fun hx => absurd (hs.sep.lt _ hx) (Nat.lt_irrefl _)⟩
      · rcases hb with hb | hb
        · exact .inr (Nat.le_of_eq (show b = W.heap.size from hb).symm)
        · exact .inl hb
theorem PR.lookupI {a : Int} (hx : opv env x = some (.map (some b))) (hy : opv env y = some (.int .i64 a)) (ht : P.underlying T' = some (.map k e)) (hk : P.underlying k = some (.int .i64)) (he : P.underlying e = some (.int .i64)) (hz : ∀ w, (zeroValue e).run P w = .ok (.int .i64 0) w)
    (hD : Del (.mapI P k e b m f) R R0) (hw : (Lit.int .i64 a).wf = true) : PR P C n env R Φ (.lookup T' x y false) T (.int .i64 (f a)) := fun a' W he' hs d pos af g => by
  obtain ⟨⟨D, h1, h2⟩, _⟩ := hD.sep hs.sep
  obtain ⟨c, hrun, hat, _⟩ := h1.lookup_int (Go.Maps.int_keyed hk) ht he (hz W) (Go.Maps.keyOf_int_mk hk hw)
  rw [h2 a hw] at hat
  simp only [DataW.lit.injEq, Lit.int.injEq, true_and] at hat
  subst hat
  simp [execOp, he'.eval hx, he'.eval hy, hrun]
theorem Jl.mapUpdateI {a v : Int} {f' : Int → Int} {m' : Nat} (hx : opv env x = some (.map (some b))) (hy : opv env y = some (.int .i64 a)) (hz : opv env z = some (.int .i64 v)) (ht : P.underlying T' = some (.map k e)) (hk : P.underlying k = some (.int .i64)) (he : P.underlying e = some (.int .i64))
    (hw : Swap (.mapI P k e b m f) (.mapI P k e b m' f') R R') (hwa : (Lit.int .i64 a).wf = true) (hwv : (Lit.int .i64 v).wf = true) (hm : m + 1 = m') (hm2 : m ≤ 1000000) (hf : ∀ q, (if q = a then v else f q) = f' q)
    (j : Jl P r C n ops Q rest env R' Φ) : Jl P r C n ops Q (⟨none, .mapUpdate T' x y z, T, pos, af, none⟩ :: rest) env R Φ :=
  Jl.act (by simp) fun a' W he' hs => by
    subst hm
    obtain ⟨D, h1, h2⟩ := hw.old hs.sep
    obtain ⟨W', hrun, g1, g2⟩ := h1.update (Go.Maps.int_keyed hk) ht (by unfold maxLen; omega) (Go.Maps.keyOf_int_mk hk hwa) (plainElem_int he hwv)
    refine ⟨W', R', Φ, by simp [execOp, he'.eval hx, he'.eval hy, he'.eval hz, hrun], hs.swap hw ⟨g2.os, g2.tape, g2.output, g2.size, fun q hq hn => g2.block q hq fun e => hn (show q = b by simpa using e)⟩ ⟨_, g1, fun q hq => ?_⟩ (fun q hq => .inl hq), j⟩
    rw [← hf q]
    split
    · rename_i e; subst e
      exact Go.Maps.atKey_put_same (k := .int .i64 q) h1.isMap trivial _ _
    · rename_i e
      rw [Go.Maps.atKey_put_other (by intro h; injection h with _ h; exact e h)]
      exact h2 q hq
section
variable {P : Program} {C : Cx} {n : Nat × List Nat} {env : List (Nat × Value)} {R R0 : List Res} {Φ : List Fact} {T : TypeId} {x : Operand} {A : Option Addr} {e : TypeId} {s l cap k : Nat} {xs : List Value}
theorem PR.nilCheckO (hx : opv env x = some (.pointer (A.map (·.add k)))) (hD : Del (.row e s (.slice A l cap) l xs) R R0) (hk : k < xs.length) : PR P C n env R Φ (.nilCheck x) T (.pointer (A.map (·.add k))) := fun a' W he hs d pos af g => by
  obtain ⟨q1, _, _⟩ := hD.sep hs.sep
  obtain ⟨b, cur, rfl, _⟩ := row_form q1 hk
  simp [execOp, he.eval hx]
theorem PR.nilCheckR (hx : opv env x = some (.pointer (A.map (·.add k)))) (hM : Mem (.rd A xs) Φ) (hk : k < xs.length) : PR P C n env R Φ (.nilCheck x) T (.pointer (A.map (·.add k))) := fun a' W he hs d pos af g => by
  obtain ⟨ad, rfl, _⟩ := hs.fact hM k _ (List.getElem?_eq_getElem hk)
  simp [execOp, he.eval hx]
end
end
end Go.Proofs.YtcppphgpbaablaaDoor
