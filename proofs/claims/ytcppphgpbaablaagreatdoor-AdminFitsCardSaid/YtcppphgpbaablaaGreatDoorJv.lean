/-
The logic of walks: maps from numbers to values of any kind that the call makes.
Conditions: none; no program in sight.
-/
import Derived.Test.YtcppphgpbaablaaGreatDoorJp
namespace Go.Proofs.YtcppphgpbaablaaGreatDoor
set_option linter.unusedVariables false
open Go.RowKit
/-- Every value reads as itself. -/
def rdV (v : Value) : Option (DataW Value × List MemPlace) := some (.held v, [])
/-- A map of one's own, from numbers of a kind to values: what it has at each key. -/
def Res.mapV (P : Program) (k : TypeId) (q : IntKind) (b n : Nat) (f : Int → Option Value) : Res where
  own := fun g => g = b
  says := fun W => ∃ D : DataW Value, W.ownsMap P k rdV b n D ∧ ∀ a, (Lit.int q a).wf = true → ∀ zd, D.atKey (.int q a) zd = match f a with | some v => .held v | none => zd
  dep := fun W W' h ⟨D, ⟨es, clock, h1, h2⟩, h3⟩ => ⟨D, ⟨es, clock, (h b rfl).trans h1, h2⟩, h3⟩
  lt := fun W ⟨D, h, _⟩ g hg => by subst hg; exact h.lt
section
variable {P : Program} {r : Option Nat} {C : Cx} {n : Nat × List Nat} {ops : Array Oper} {Q : Exit → Act → World → Prop} {rest : List Oper} {env : List (Nat × Value)} {R R0 R' : List Res} {Φ : List Fact}
  {d : Nat} {T T' : TypeId} {pos : String} {af : Array Edge} {x y z : Operand} {k e : TypeId} {b m : Nat} {f : Int → Option Value} {q : IntKind}
theorem Jl.makeMapV (q : IntKind) (ht : P.underlying T' = some (.map k e)) (j : ∀ b, Jl P r C n ops Q rest ((d, .map (some b)) :: env) (.mapV P k q b 0 (fun _ => none) :: R) Φ) (hd : Nat.blt d n.1 = true := by rfl) :
    Jl P r C n ops Q (⟨some d, .makeMap T' none, T, pos, af, none⟩ :: rest) env R Φ :=
  Jl.valx hd (by simp) fun a W he hs => by
    refine ⟨.map (some W.heap.size), W.alloc (.map #[] 0), .mapV P k q W.heap.size 0 (fun _ => none) :: R, Φ, ?_, ?_, j _⟩
    · simp [execOp, run_makeMap]
    · refine hs.step (W' := W.alloc _) (Foreign.alloc _ W _) ⟨⟨.map [], World.ownsMap_made _ _ _ _, fun a _ zd => rfl⟩, fun b hb => ?_, hs.sep.keep fun b hb => Below.heap_alloc W _ b (hs.sep.lt b hb)⟩ fun b hb => ?_
      · have hb' : b = W.heap.size := hb
        subst hb'
        exact ⟨fun hx => absurd (hs.x0lt _ hx) (Nat.lt_irrefl _), fun hx => absurd (hs.sep.lt _ hx) (Nat.lt_irrefl _)⟩
      · rcases hb with hb | hb
        · exact .inr (Nat.le_of_eq (show b = W.heap.size from hb).symm)
        · exact .inl hb
theorem mapV_look {W : World} (c : Bool) {T' : TypeId} {zv : Value} {a : Int} (h : (Res.mapV P k q b m f).says W) (ht : P.underlying T' = some (.map k e)) (hk : P.underlying k = some (.int q)) (hz : (zeroValue e).run P W = .ok zv W) (hw : (Lit.int q a).wf = true) :
    (Instr.lookup T' (.map (some b)) (.int q a) c).run P W = .ok (if c then .tuple #[(f a).getD zv, .bool (f a).isSome] else (f a).getD zv) W := by
  obtain ⟨D, ⟨es, clock, h1, h2, h3, h4⟩, h5⟩ := h
  have h6 := h5 a hw
  rw [h4] at h6
  rcases Go.Maps.fit_look c (Go.Maps.int_keyed hk) ht hz h1 h2 (Go.Maps.keyOf_int_mk hk hw) with ⟨g1, _, g2⟩ | ⟨e0, y, _, _, g1, g2, g3, _⟩
  · have hf : f a = none := by
      cases hf : f a with
      | none => rfl
      | some v =>
        have := (g2 .nil).symm.trans (h6 .nil)
        rw [hf] at this
        cases this
    rw [g1, hf]; rfl
  · have hy : y.1 = .held e0.val := by
      simp only [rdV, Option.some.injEq] at g2
      rw [← g2]
    have hf : f a = some e0.val := by
      have h7 := (g3 .nil).symm.trans (h6 .nil)
      cases hf : f a with
      | none => rw [hf, hy] at h7; cases h7
      | some v =>
        rw [hf, hy] at h7
        injection h7 with h7
        rw [h7]
    rw [g1, hf]; rfl
theorem PR.lookupV {a : Int} (zv : Value) (hx : opv env x = some (.map (some b))) (hy : opv env y = some (.int q a)) (ht : P.underlying T' = some (.map k e)) (hk : P.underlying k = some (.int q)) (hz : ∀ w, (zeroValue e).run P w = .ok zv w)
    (hD : Del (.mapV P k q b m f) R R0) (hw : (Lit.int q a).wf = true) : PR P C n env R Φ (.lookup T' x y false) T ((f a).getD zv) := fun a' W he' hs d pos af g => by
  have h := (hD.sep hs.sep).1
  simp [execOp, he'.eval hx, he'.eval hy, mapV_look false h ht hk (hz W) hw]
theorem PR.lookupVO {a : Int} (zv : Value) (hx : opv env x = some (.map (some b))) (hy : opv env y = some (.int q a)) (ht : P.underlying T' = some (.map k e)) (hk : P.underlying k = some (.int q)) (hz : ∀ w, (zeroValue e).run P w = .ok zv w)
    (hD : Del (.mapV P k q b m f) R R0) (hw : (Lit.int q a).wf = true) : PR P C n env R Φ (.lookup T' x y true) T (.tuple #[(f a).getD zv, .bool (f a).isSome]) := fun a' W he' hs d pos af g => by
  have h := (hD.sep hs.sep).1
  simp [execOp, he'.eval hx, he'.eval hy, mapV_look true h ht hk (hz W) hw]
theorem Jl.mapUpdateV {a : Int} {v : Value} (f' : Int → Option Value) {m' : Nat} (hx : opv env x = some (.map (some b))) (hy : opv env y = some (.int q a)) (hz : opv env z = some v) (ht : P.underlying T' = some (.map k e)) (hk : P.underlying k = some (.int q))
    (hw : Swap (.mapV P k q b m f) (.mapV P k q b m' f') R R') (hwa : (Lit.int q a).wf = true) (hm : m + 1 = m') (hm2 : m ≤ 1000000) (hf : ∀ p, (if p = a then some v else f p) = f' p)
    (j : Jl P r C n ops Q rest env R' Φ) : Jl P r C n ops Q (⟨none, .mapUpdate T' x y z, T, pos, af, none⟩ :: rest) env R Φ :=
  Jl.act (by simp) fun a' W he' hs => by
    subst hm
    obtain ⟨D, h1, h2⟩ := hw.old hs.sep
    obtain ⟨W', hrun, g1, g2⟩ := h1.update (Go.Maps.int_keyed hk) ht (by unfold maxLen; omega) (Go.Maps.keyOf_int_mk hk hwa) (show rdV v = some (.held v, []) from rfl)
    refine ⟨W', R', Φ, by simp [execOp, he'.eval hx, he'.eval hy, he'.eval hz, hrun], hs.swap hw ⟨g2.os, g2.tape, g2.output, g2.size, fun q hq hn => g2.block q hq fun e => hn (show q = b by simpa using e)⟩ ⟨_, g1, fun p hp zd => ?_⟩ (fun q hq => .inl hq), j⟩
    rw [← hf p]
    split
    · rename_i w hw'
      split at hw'
      · rename_i e
        subst e
        injection hw' with hw'
        subst hw'
        exact Go.Maps.atKey_put_same (k := .int q p) h1.isMap trivial _ _
      · rename_i e
        rw [Go.Maps.atKey_put_other (by intro h; injection h with _ h; exact e h), h2 p hp, hw']
    · rename_i hw'
      split at hw'
      · cases hw'
      · rename_i e
        rw [Go.Maps.atKey_put_other (by intro h; injection h with _ h; exact e h), h2 p hp, hw']
theorem Jl.insertV {a : Int} {v : Value} (f' : Int → Option Value) {m' : Nat} (hx : opv env x = some (.map (some b))) (hy : opv env y = some (.int q a)) (hz : opv env z = some v) (ht : P.underlying T' = some (.map k e)) (hk : P.underlying k = some (.int q))
    (hw : Swap (.mapV P k q b m f) (.mapV P k q b m' f') R R') (hwa : (Lit.int q a).wf = true) (hm : m + 1 = m') (hm2 : m ≤ 1000000) (hf : ∀ p, (if p = a then some v else f p) = f' p)
    (j : Jl P r C n ops Q rest env R' Φ) : Jl P r C n ops Q (⟨none, .insert T' x y z, T, pos, af, none⟩ :: rest) env R Φ :=
  Jl.act (by simp) fun a' W he' hs => by
    subst hm
    obtain ⟨D, h1, h2⟩ := hw.old hs.sep
    obtain ⟨W', hrun, g1, g2⟩ := h1.update (Go.Maps.int_keyed hk) ht (by unfold maxLen; omega) (Go.Maps.keyOf_int_mk hk hwa) (show rdV v = some (.held v, []) from rfl)
    refine ⟨W', R', Φ, by simp [execOp, he'.eval hx, he'.eval hy, he'.eval hz, hrun], hs.swap hw ⟨g2.os, g2.tape, g2.output, g2.size, fun q hq hn => g2.block q hq fun e => hn (show q = b by simpa using e)⟩ ⟨_, g1, fun p hp zd => ?_⟩ (fun q hq => .inl hq), j⟩
    rw [← hf p]
    split
    · rename_i w hw'
      split at hw'
      · rename_i e
        subst e
        injection hw' with hw'
        subst hw'
        exact Go.Maps.atKey_put_same (k := .int q p) h1.isMap trivial _ _
      · rename_i e
        rw [Go.Maps.atKey_put_other (by intro h; injection h with _ h; exact e h), h2 p hp, hw']
    · rename_i hw'
      split at hw'
      · cases hw'
      · rename_i e
        rw [Go.Maps.atKey_put_other (by intro h; injection h with _ h; exact e h), h2 p hp, hw']
theorem PR.andNot {kd : IntKind} {a b : Int} (c : Int) (hx : opv env x = some (.int kd a)) (hy : opv env y = some (.int kd b)) (hc : kd.wrap ((BitVec.ofInt kd.bits a &&& ~~~ BitVec.ofInt kd.bits b).toNat : Int) = c) : PR P C n env R Φ (.binOp .andNot T' x y T') T (.int kd c) := fun a' W he _ d pos af g => by
  subst hc; simp [execOp, he.eval hx, he.eval hy, eqGuard, binOp, Op.intBits]
end
section
variable {P : Program} {C : Cx} {n : Nat × List Nat} {Q : Exit → Act → World → Prop} {env : List (Nat × Value)} {R : List Res} {Φ : List Fact} {c : Code}
/-- A scope whose label is its end. -/
theorem Jc.scopeE {σ : Type} (E : σ → List (Nat × Value)) (Rs : σ → List Res) (Φs : σ → List Fact) {l : Nat} (hl : findLabel c l = some .skip) (pass : ∀ s, Jq C n Q .normal (E s) (Rs s) (Φs s))
    (first : Jc P none C n (Exit.jump l (fun a W => ∃ s', Env n (E s') a ∧ Sat C (Rs s') (Φs s') W) Q) c env R Φ) : Jc P none C n Q (.scope c) env R Φ := fun a W he hs => by
  refine wpIn_wide.2 (wp_scope_jumps l (fun a W => ∃ s', Env n (E s') a ∧ Sat C (Rs s') (Φs s') W) (fun _ _ => 0) hl (wpIn_wide.1 (first a W he hs)) ?_)
  rintro a' W' ⟨s, h1, h2⟩
  exact wp_skip (pass s a' W' h1 h2)
end
theorem wfu8 (k : UInt8) : (Lit.int .u8 ((k.toNat : Nat) : Int)).wf = true := by
  have := k.toNat_lt
  simp [Lit.wf, IntKind.min, IntKind.max, IntKind.signed, IntKind.bits]; omega
/-- A contract with more at hand. -/
theorem Ct.more {P : Program} {f : FuncId} {args : List Value} {Rin big R' : List Res} {pre : List Fact} {α : Type} {res : α → Value} {Rout : α → List Res} {post : α → List Fact} (ht : Take Rin big R') (h : Ct P f args Rin pre res Rout post) : Ct P f args big pre res Rout post := fun X W hX hs hp => by
  obtain ⟨h1, h2⟩ := ht.sep hs
  refine (h (fun b => X b ∨ ownL R' b) W (fun b hb => hb.elim (hX b) (h2.lt b)) h1 (fun φ hφ => φ.fr _ _ W W (hp φ hφ) (Foreign.refl _ _) (fun b hb => .inl (by
    rcases hb with (hb | hb) | hb
    · exact .inl hb
    · exact .inr ((ht.own b).2 (.inr hb))
    · exact .inr ((ht.own b).2 (.inl hb)))))).mono fun e W' ⟨x, e1, e2, e3, e4, e5⟩ => ?_
  exact ⟨x, e1, ⟨e2.os, e2.tape, e2.output, e2.size, fun b hb hn => e2.block b hb fun h => hn ((ht.own b).2 (.inl h))⟩, e3.less (fun b hb => .inl hb), fun b hb => (e4 b hb).imp (fun h => (ht.own b).2 (.inl h)) id, fun φ hφ => φ.fr _ _ W' W' (e5 φ hφ) (Foreign.refl _ _) fun b hb => .inl (by
    rcases hb with hb | hb
    · exact .inl (.inl hb)
    · exact .inr hb)⟩
/-- All bits but the lowest. -/
theorem andNot1 (v : BitVec 64) : (v &&& ~~~ BitVec.ofInt 64 1).toNat = v.toNat / 2 * 2 := by
  have e : v &&& ~~~ BitVec.ofInt 64 1 = (v >>> 1) <<< 1 := by
    refine BitVec.eq_of_getLsbD_eq fun i hi => ?_
    rcases Nat.eq_zero_or_pos i with rfl | hp
    · simp
    · have h1 : (BitVec.ofInt 64 1).getLsbD i = false := by
        show (1#64).getLsbD i = false
        rw [BitVec.getLsbD_one]; simp; omega
      have h2 : 1 + (i - 1) = i := by omega
      have h3 : ¬ i < 1 := by omega
      rw [BitVec.getLsbD_and, BitVec.getLsbD_not, h1, BitVec.getLsbD_shiftLeft, BitVec.getLsbD_ushiftRight, h2, decide_eq_true hi, decide_eq_false h3]
      simp
  rw [e, BitVec.toNat_shiftLeft, BitVec.toNat_ushiftRight, Nat.shiftRight_eq_div_pow, Nat.shiftLeft_eq]
  have := v.isLt
  omega
theorem andNot01 {n : Int} (h1 : -9223372036854775808 ≤ n) (h2 : n ≤ 9223372036854775807) : (IntKind.i64.wrap ((BitVec.ofInt IntKind.i64.bits n &&& ~~~ BitVec.ofInt IntKind.i64.bits 1).toNat : Int) = 0) ↔ 0 ≤ n ∧ n ≤ 1 := by
  have e := andNot1 (BitVec.ofInt 64 n)
  have e2 : (BitVec.ofInt IntKind.i64.bits n &&& ~~~ BitVec.ofInt IntKind.i64.bits 1).toNat = (BitVec.ofInt 64 n).toNat / 2 * 2 := e
  rw [e2, IntKind.wrap_i64, BitVec.toNat_ofInt]
  omega
end Go.Proofs.YtcppphgpbaablaaGreatDoor
