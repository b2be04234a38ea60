/-
The rules of the logic of walks: operations that touch no memory, loads, stores, new blocks.
Conditions: none; no program in sight.
-/
import Derived.Test.YtcppphgpbaablaaDoorJa
import Derived.Test.YtcppphgpbaablaaDoorStr
namespace Go.Proofs.YtcppphgpbaablaaDoor
set_option linter.unusedVariables false
open Go.RowKit

/-- Is a type's value in many cells; and in how many. -/
def tshape (P : Program) (t : TypeId) : Option (Bool × Nat) :=
  match P.underlying t, P.info? t with
  | some (.struct _), some i => some (true, i.size)
  | some (.array _ _), some i => some (true, i.size)
  | some _, some i => some (false, i.size)
  | _, _ => none
/-- A type's zero, by its cells. -/
def tzero (P : Program) (t : TypeId) : Option (List Value) := ((P.info? t).bind (·.zero)).map (·.cells.toList)
/-- A slice's elements: their type, and how many cells they have. -/
def tslice (P : Program) (t : TypeId) : Option (TypeId × Nat) :=
  match P.underlying t with
  | some (.slice e) => (P.info? e).map fun i => (e, i.size)
  | _ => none
/-- An array's length, its elements' type, and how many cells they have. -/
def tarray (P : Program) (t : TypeId) : Option (Nat × TypeId × Nat) :=
  match P.underlying t with
  | some (.array n e) => (P.info? e).map fun i => (n, e, i.size)
  | _ => none
/-- Where a field's cells begin, and how many they are. -/
def tfield (P : Program) (t : TypeId) (f : Nat) : Option (Nat × Nat) :=
  match P.underlying t with
  | some (.struct fs) => (fs[f]?).bind fun x => (P.info? x.type).map fun i => (x.offset, i.size)
  | _ => none

/-- What operands say. -/
def opvs (env : List (Nat × Value)) : List Operand → Option (List Value)
  | [] => some []
  | x :: l => match opv env x, opvs env l with
    | some v, some vs => some (v :: vs)
    | _, _ => none
theorem opvs_eval {n : Nat × List Nat} {env : List (Nat × Value)} {a : Act} (he : Env n env a) : ∀ {l : List Operand} {vs : List Value}, opvs env l = some vs → l.map a.eval = vs
  | [], vs, h => by simp [opvs] at h; simp [h]
  | x :: l, vs, h => by
    simp only [opvs] at h
    split at h
    · rename_i v vs' h1 h2
      simp at h
      subst h
      simp [he.eval h1, opvs_eval he h2]
    · cases h

section sems
variable {P : Program} {w : World}
theorem tshape_spec {t : TypeId} {b : Bool} {k : Nat} (h : tshape P t = some (b, k)) : ∃ d i, P.underlying t = some d ∧ P.info? t = some i ∧ i.size = k ∧ (match d with | .struct _ | .array _ _ => true | _ => false) = b := by
  unfold tshape at h
  cases hu : P.underlying t with
  | none => rw [hu] at h; cases h
  | some d =>
    cases hi : P.info? t with
    | none => rw [hu, hi] at h; cases d <;> cases h
    | some i =>
      rw [hu, hi] at h
      refine ⟨d, i, rfl, rfl, ?_⟩
      cases d <;> simp at h <;> simp [h]
theorem run_isAgg_ts {t : TypeId} {b : Bool} {k : Nat} (h : tshape P t = some (b, k)) : (isAgg t).run P w = .ok b w := by
  obtain ⟨d, i, hu, _, _, hd⟩ := tshape_spec h
  unfold isAgg
  rw [Sem.run_bind, run_underlying hu w]
  cases d <;> simp_all
theorem run_sizeOf_ts {t : TypeId} {b : Bool} {k : Nat} (h : tshape P t = some (b, k)) : (sizeOf t).run P w = .ok k w := by
  obtain ⟨d, i, _, hi, hk, _⟩ := tshape_spec h
  simp [sizeOf, typeInfo, hi, hk]
theorem tslice_spec {t e : TypeId} {k : Nat} (h : tslice P t = some (e, k)) : P.underlying t = some (.slice e) ∧ ∃ i, P.info? e = some i ∧ i.size = k := by
  unfold tslice at h
  cases hu : P.underlying t with
  | none => rw [hu] at h; cases h
  | some d =>
    rw [hu] at h
    cases d <;> simp at h
    obtain ⟨i, hi, h1, h2⟩ := h
    subst h1
    exact ⟨rfl, i, hi, h2⟩
theorem tarray_spec {t e : TypeId} {m k : Nat} (h : tarray P t = some (m, e, k)) : P.underlying t = some (.array m e) ∧ ∃ i, P.info? e = some i ∧ i.size = k := by
  unfold tarray at h
  cases hu : P.underlying t with
  | none => rw [hu] at h; cases h
  | some d =>
    rw [hu] at h
    cases d <;> simp at h
    obtain ⟨i, hi, h0, h1, h2⟩ := h
    subst h0 h1
    exact ⟨rfl, i, hi, h2⟩
theorem tfield_spec {t : TypeId} {f o k : Nat} (h : tfield P t f = some (o, k)) : ∃ fs x i, P.underlying t = some (.struct fs) ∧ fs[f]? = some x ∧ P.info? x.type = some i ∧ i.size = k ∧ x.offset = o := by
  unfold tfield at h
  split at h
  · rename_i fs hu
    cases hx : fs[f]? with
    | none => rw [hx] at h; cases h
    | some x =>
      rw [hx] at h
      simp at h
      obtain ⟨i, hi, h1, h2⟩ := h
      exact ⟨fs, x, i, hu, hx, hi, h2, h1⟩
  · cases h
theorem tzero_spec {t : TypeId} {cs : List Value} (h : tzero P t = some cs) : ∃ z, (zeroValue t).run P w = .ok z w ∧ z.cells = cs.toArray := by
  unfold tzero at h
  cases hi : P.info? t with
  | none => rw [hi] at h; cases h
  | some i =>
    rw [hi] at h
    cases hz : i.zero with
    | none => simp [hz] at h
    | some z =>
      simp [hz] at h
      refine ⟨z, by simp [zeroValue, typeInfo, hi, hz], ?_⟩
      rw [← h]
end sems

section rules
variable {P : Program} {r : Option Nat} {C : Cx} {n : Nat × List Nat} {ops : Array Oper} {Q : Exit → Act → World → Prop} {rest : List Oper} {env : List (Nat × Value)} {R : List Res} {Φ : List Fact}
  {d : Nat} {T T' : TypeId} {pos : String} {af : Array Edge} {x y z : Operand} {u v : Value}

theorem PR.move (hx : opv env x = some v)  : PR P C n env R Φ (.move x) T (v) := fun a W he _ d pos af g => (by simp [execOp, he.eval hx])
theorem PR.assign (hx : opv env x = some v)  : PR P C n env R Φ (.assign x) T (v) := fun a W he _ d pos af g => (by simp [execOp, he.eval hx])
theorem PR.pickT (hx : opv env x = some (.bool true)) (hy : opv env y = some v)  : PR P C n env R Φ (.pick x y z) T (v) := fun a W he _ d pos af g => (by simp [execOp, he.eval hx, he.eval hy, asBool])
theorem PR.pickF (hx : opv env x = some (.bool false)) (hz : opv env z = some v)  : PR P C n env R Φ (.pick x y z) T (v) := fun a W he _ d pos af g => (by simp [execOp, he.eval hx, he.eval hz, asBool])
theorem PR.extract {i : Nat} {vs : List Value} (hx : opv env x = some (.tuple vs.toArray)) (hv : vs[i]? = some v)  : PR P C n env R Φ (.extract x i) T (v) := fun a W he _ d pos af g => (by simp [execOp, he.eval hx, Instr.extract, hv])
theorem PR.makeFunc {fn : Fn} {first captured : Array Operand} {fs cs : List Value} (h1 : opvs env first.toList = some fs) (h2 : opvs env captured.toList = some cs)
     : PR P C n env R Φ (.makeFunc fn first captured) T (.func fn fs.toArray cs.toArray) := fun a W he _ d pos af g => (by
    have key : ∀ (l : Array Operand) (vs : List Value), opvs env l.toList = some vs → l.map a.eval = vs.toArray := fun l vs h => by
      apply Array.toList_inj.1
      simpa using opvs_eval he h
    simp [execOp, key first fs h1, key captured cs h2, Instr.makeFunc])
theorem PR.not {b : Bool} (hx : opv env x = some (.bool b))  : PR P C n env R Φ (.unOp .not T' x) T (.bool (!b)) := fun a W he _ d pos af g => (by simp [execOp, he.eval hx, Op.unary])

/- comparisons of numbers: the answer is said as b -/
section cmp
variable {kd : IntKind} {a b : Int} {t : Bool}
theorem PR.lss (t : Bool) (hx : opv env x = some (.int kd a)) (hy : opv env y = some (.int kd b)) (ht : decide (a < b) = t)  : PR P C n env R Φ (.binOp .lss T' x y T') T (.bool t) := fun a' W he _ d pos af g => (by subst ht; simp [execOp, he.eval hx, he.eval hy, eqGuard, binOp, Op.intCmp])
theorem PR.leq (t : Bool) (hx : opv env x = some (.int kd a)) (hy : opv env y = some (.int kd b)) (ht : decide (a ≤ b) = t)  : PR P C n env R Φ (.binOp .leq T' x y T') T (.bool t) := fun a' W he _ d pos af g => (by subst ht; simp [execOp, he.eval hx, he.eval hy, eqGuard, binOp, Op.intCmp])
theorem PR.gtr (t : Bool) (hx : opv env x = some (.int kd a)) (hy : opv env y = some (.int kd b)) (ht : decide (b < a) = t)  : PR P C n env R Φ (.binOp .gtr T' x y T') T (.bool t) := fun a' W he _ d pos af g => (by subst ht; simp [execOp, he.eval hx, he.eval hy, eqGuard, binOp, Op.intCmp])
theorem PR.geq (t : Bool) (hx : opv env x = some (.int kd a)) (hy : opv env y = some (.int kd b)) (ht : decide (b ≤ a) = t)  : PR P C n env R Φ (.binOp .geq T' x y T') T (.bool t) := fun a' W he _ d pos af g => (by subst ht; simp [execOp, he.eval hx, he.eval hy, eqGuard, binOp, Op.intCmp])
theorem PR.eql (t : Bool) (hx : opv env x = some (.int kd a)) (hy : opv env y = some (.int kd b)) (ht : decide (a = b) = t)  : PR P C n env R Φ (.binOp .eql T' x y T') T (.bool t) := fun a' W he _ d pos af g => (by
    subst ht
    have : (a == b) = decide (a = b) := by by_cases h : a = b <;> simp [h]
    simp [execOp, he.eval hx, he.eval hy, eqGuard, binOp, Op.intCmp, this])
theorem PR.neq (t : Bool) (hx : opv env x = some (.int kd a)) (hy : opv env y = some (.int kd b)) (ht : decide (a ≠ b) = t)  : PR P C n env R Φ (.binOp .neq T' x y T') T (.bool t) := fun a' W he _ d pos af g => (by
    subst ht
    have : (a != b) = decide (a ≠ b) := by by_cases h : a = b <;> simp [h]
    simp [execOp, he.eval hx, he.eval hy, eqGuard, binOp, Op.intCmp, this])
theorem PR.add (c : Int) (hx : opv env x = some (.int kd a)) (hy : opv env y = some (.int kd b)) (hc : kd.wrap (a + b) = c)  : PR P C n env R Φ (.binOp .add T' x y T') T (.int kd c) := fun a' W he _ d pos af g => (by subst hc; simp [execOp, he.eval hx, he.eval hy, eqGuard, binOp, Op.intArith])
theorem PR.sub (c : Int) (hx : opv env x = some (.int kd a)) (hy : opv env y = some (.int kd b)) (hc : kd.wrap (a - b) = c)  : PR P C n env R Φ (.binOp .sub T' x y T') T (.int kd c) := fun a' W he _ d pos af g => (by subst hc; simp [execOp, he.eval hx, he.eval hy, eqGuard, binOp, Op.intArith])
theorem PR.mul (c : Int) (hx : opv env x = some (.int kd a)) (hy : opv env y = some (.int kd b)) (hc : kd.wrap (a * b) = c)  : PR P C n env R Φ (.binOp .mul T' x y T') T (.int kd c) := fun a' W he _ d pos af g => (by subst hc; simp [execOp, he.eval hx, he.eval hy, eqGuard, binOp, Op.intArith])
theorem PR.quo (c : Int) (hx : opv env x = some (.int kd a)) (hy : opv env y = some (.int kd b)) (hb : b ≠ 0) (hc : kd.wrap (a.tdiv b) = c)  : PR P C n env R Φ (.binOp .quo T' x y T') T (.int kd c) := fun a' W he _ d pos af g => (by subst hc; simp [execOp, he.eval hx, he.eval hy, eqGuard, binOp, Op.intDiv, hb])
theorem PR.rem (c : Int) (hx : opv env x = some (.int kd a)) (hy : opv env y = some (.int kd b)) (hb : b ≠ 0) (hc : a.tmod b = c)  : PR P C n env R Φ (.binOp .rem T' x y T') T (.int kd c) := fun a' W he _ d pos af g => (by subst hc; simp [execOp, he.eval hx, he.eval hy, eqGuard, binOp, Op.intDiv, hb])
theorem PR.min2 (c : Int) (hx : opv env x = some (.int kd a)) (hy : opv env y = some (.int kd b)) (hc : min a b = c)  {ts : Array TypeId} : PR P C n env R Φ (.call { callee := .builtin .min, args := #[x, y], argTypes := ts }) T (.int kd c) := fun a' W he _ d pos af g => (by
    have hm : (if b < a then b else a) = c := by rw [← hc]; split <;> omega
    simp [execOp, he.eval hx, he.eval hy, resolve, invoke, builtin, Builtin.min_, Builtin.min2, hm])
theorem PR.max2 (c : Int) (hx : opv env x = some (.int kd a)) (hy : opv env y = some (.int kd b)) (hc : max a b = c)  {ts : Array TypeId} : PR P C n env R Φ (.call { callee := .builtin .max, args := #[x, y], argTypes := ts }) T (.int kd c) := fun a' W he _ d pos af g => (by
    have hm : (if a < b then b else a) = c := by rw [← hc]; split <;> omega
    simp [execOp, he.eval hx, he.eval hy, resolve, invoke, builtin, Builtin.max_, Builtin.max2, hm])
theorem PR.beql {a b : Bool} (t : Bool) (hu : P.underlying T' = some .bool) (hx : opv env x = some (.bool a)) (hy : opv env y = some (.bool b)) (ht : (a == b) = t)  : PR P C n env R Φ (.binOp .eql T' x y T') T (.bool t) := fun a' W he _ d pos af g => (by
    subst ht
    simp [execOp, he.eval hx, he.eval hy, eqGuard, binOp, run_equal_bool _ T' a b hu])
theorem PR.bneq {a b : Bool} (t : Bool) (hu : P.underlying T' = some .bool) (hx : opv env x = some (.bool a)) (hy : opv env y = some (.bool b)) (ht : (a != b) = t)  : PR P C n env R Φ (.binOp .neq T' x y T') T (.bool t) := fun a' W he _ d pos af g => (by
    subst ht
    simp [execOp, he.eval hx, he.eval hy, eqGuard, binOp, run_equal_bool _ T' a b hu]; cases a <;> cases b <;> rfl)
end cmp

section bits
variable {kd ky : IntKind} {a b : Int}
theorem PR.shr (c : Int) (hx : opv env x = some (.int kd a)) (hy : opv env y = some (.int ky b)) (hb : decide (0 ≤ b) = true) (hc : a.fdiv (2 ^ (min b.toNat kd.bits)) = c) {Ty : TypeId} : PR P C n env R Φ (.binOp .shr T' x y Ty) T (.int kd c) := fun a' W he _ d pos af g => by
  have hb' : ¬ b < 0 := by have := of_decide_eq_true hb; omega
  subst hc; simp [execOp, he.eval hx, he.eval hy, eqGuard, binOp, Op.shift, hb']
theorem PR.shl (c : Int) (hx : opv env x = some (.int kd a)) (hy : opv env y = some (.int ky b)) (hb : decide (0 ≤ b) = true) (hc : kd.wrap (a * 2 ^ (min b.toNat kd.bits)) = c) {Ty : TypeId} : PR P C n env R Φ (.binOp .shl T' x y Ty) T (.int kd c) := fun a' W he _ d pos af g => by
  have hb' : ¬ b < 0 := by have := of_decide_eq_true hb; omega
  subst hc; simp [execOp, he.eval hx, he.eval hy, eqGuard, binOp, Op.shift, hb']
theorem PR.and (c : Int) (hx : opv env x = some (.int kd a)) (hy : opv env y = some (.int kd b)) (hc : kd.wrap ((BitVec.ofInt kd.bits a &&& BitVec.ofInt kd.bits b).toNat : Int) = c) : PR P C n env R Φ (.binOp .and T' x y T') T (.int kd c) := fun a' W he _ d pos af g => by
  subst hc; simp [execOp, he.eval hx, he.eval hy, eqGuard, binOp, Op.intBits]
theorem PR.or (c : Int) (hx : opv env x = some (.int kd a)) (hy : opv env y = some (.int kd b)) (hc : kd.wrap ((BitVec.ofInt kd.bits a ||| BitVec.ofInt kd.bits b).toNat : Int) = c) : PR P C n env R Φ (.binOp .or T' x y T') T (.int kd c) := fun a' W he _ d pos af g => by
  subst hc; simp [execOp, he.eval hx, he.eval hy, eqGuard, binOp, Op.intBits]
theorem PR.xor (c : Int) (hx : opv env x = some (.int kd a)) (hy : opv env y = some (.int kd b)) (hc : kd.wrap ((BitVec.ofInt kd.bits a ^^^ BitVec.ofInt kd.bits b).toNat : Int) = c) : PR P C n env R Φ (.binOp .xor T' x y T') T (.int kd c) := fun a' W he _ d pos af g => by
  subst hc; simp [execOp, he.eval hx, he.eval hy, eqGuard, binOp, Op.intBits]
theorem PR.conv {src dst : TypeId} {ds : TypeDesc} {k' : IntKind} (c : Int) (hx : opv env x = some (.int kd a)) (hs : P.underlying src = some ds) (hd : P.underlying dst = some (.int k')) (hc : k'.wrap a = c) : PR P C n env R Φ (.convert src dst x) T (.int k' c) := fun a' W he _ d pos af g => by
  subst hc; simp [execOp, he.eval hx, convert, run_underlying hs, run_underlying hd, Conv.intToInt]
theorem PR.neg (c : Int) (hx : opv env x = some (.int kd a)) (hc : kd.wrap (0 - a) = c) : PR P C n env R Φ (.unOp .neg T' x) T (.int kd c) := fun a' W he _ d pos af g => by
  subst hc; simp [execOp, he.eval hx, Op.unary, Op.intArith]
end bits
theorem PR.eqlNil {A : Option Addr} {m c : Nat} {e : TypeId} {s : Nat} (t : Bool) (hx : opv env x = some (.slice A m c)) (hT : tslice P T' = some (e, s)) (ht : A.isNone = t) : PR P C n env R Φ (.binOp .eql T' x (.const (.slice none 0 0)) T') T (.bool t) := fun a' W he _ d pos af g => by
  have h2 : a'.eval (.const (.slice none 0 0)) = .slice none 0 0 := rfl
  have hu := (tslice_spec hT).1
  have hq : ∀ d : Nat, (Op.equalIn (d + 1) T' (.slice A m c) (.slice none 0 0)).run P W = .ok A.isNone W := fun d => by
    cases A <;> simp [Op.equalIn, run_underlying hu]
  have hb : (binOp .eql T' (.slice A m c) (.slice none 0 0)).run P W = .ok (.bool A.isNone) W := by
    simp only [binOp]
    simp [Op.equal, Op.maxDepth, hq 9999]
  subst ht
  simp [execOp, he.eval hx, h2, eqGuard, hb]

theorem PR.len {A : Option Addr} {m c : Nat} {e : TypeId} {s : Nat} (hx : opv env x = some (.slice A m c)) (hT : tslice P T' = some (e, s))  : PR P C n env R Φ (.call { callee := .builtin .len, args := #[x], argTypes := #[T'] }) T (.int .i64 m) := fun a W he _ d pos af g => (by
    simp [execOp, he.eval hx, resolve, invoke, builtin, Builtin.len_, run_underlying (tslice_spec hT).1, goInt])

/- lists of cells, written out -/
def takeL : List Value → Nat → Nat → Option (List Value)
  | _, 0, 0 => some []
  | [], _, _ => none
  | c :: cs, 0, m + 1 => match takeL cs 0 m with
    | some l => some (c :: l)
    | none => none
  | _ :: cs, j + 1, m => takeL cs j m
theorem takeL_spec : ∀ {cs : List Value} {j m : Nat} {vs : List Value}, takeL cs j m = some vs → vs.length = m ∧ ∀ (i : Nat) u, vs[i]? = some u → cs[j + i]? = some u
  | [], 0, 0, vs, h => by simp [takeL] at h; subst h; simp
  | [], 0, m + 1, vs, h => by simp [takeL] at h
  | [], j + 1, m, vs, h => by simp [takeL] at h
  | c :: cs, 0, 0, vs, h => by simp [takeL] at h; subst h; simp
  | c :: cs, 0, m + 1, vs, h => by
    simp only [takeL] at h
    split at h
    · rename_i l hl
      obtain ⟨h1, h2⟩ := takeL_spec hl
      simp at h
      subst h
      refine ⟨by simp [h1], fun i u hu => ?_⟩
      cases i with
      | zero => simpa using hu
      | succ i => have := h2 i u (by simpa using hu); simpa [Nat.add_comm] using this
    · cases h
  | c :: cs, j + 1, m, vs, h => by
    simp only [takeL] at h
    obtain ⟨h1, h2⟩ := takeL_spec h
    exact ⟨h1, fun i u hu => by have := h2 i u hu; rw [show j + 1 + i = (j + i) + 1 by omega]; simpa using this⟩
def putL : List Value → Nat → List Value → Option (List Value)
  | cs, 0, [] => some cs
  | c :: cs, 0, v :: vs => match putL cs 0 vs with
    | some l => some (v :: l)
    | none => none
  | c :: cs, j + 1, vs => match putL cs j vs with
    | some l => some (c :: l)
    | none => none
  | [], _, _ => none
theorem putL_spec : ∀ {cs : List Value} {j : Nat} {vs l : List Value}, putL cs j vs = some l → j + vs.length ≤ cs.length ∧ l = cs.take j ++ vs ++ cs.drop (j + vs.length)
  | cs, 0, [], l, h => by simp [putL] at h; simp [h]
  | [], 0, v :: vs, l, h => by simp [putL] at h
  | [], j + 1, vs, l, h => by simp [putL] at h
  | c :: cs, 0, v :: vs, l, h => by
    simp only [putL] at h
    split at h
    · rename_i l' hl
      obtain ⟨h1, h2⟩ := putL_spec hl
      simp at h h1 h2
      subst h h2
      exact ⟨by simp; omega, by simp⟩
    · cases h
  | c :: cs, j + 1, vs, l, h => by
    simp only [putL] at h
    split at h
    · rename_i l' hl
      obtain ⟨h1, h2⟩ := putL_spec hl
      simp at h
      subst h
      refine ⟨by simp; omega, ?_⟩
      rw [h2, show j + 1 + vs.length = (j + vs.length) + 1 by omega]
      simp
    · cases h

/- memory -/
theorem add_none (b k o : Nat) : (⟨b, k, none⟩ : Addr).add o = ⟨b, k + o, none⟩ := by unfold Addr.add; split <;> simp_all

theorem PR.fieldAddr {b j o s f : Nat} (hx : opv env x = some (.pointer (some ⟨b, j, none⟩))) (hf : tfield P T' f = some (o, s + 1))  : PR P C n env R Φ (.fieldAddr T' x f) T (.pointer (some ⟨b, j + o, none⟩)) := fun a W he _ d pos af g => (by
    obtain ⟨fs, fx, i, hu, hfx, hi, hk, ho⟩ := tfield_spec hf
    simp [execOp, he.eval hx, Instr.fieldAt, run_underlying hu, hfx, Instr.sureAddr, fieldPlace, sizeOf, typeInfo, hi, hk, ho, add_none])

theorem PR.load1 {b j m : Nat} {Tb : TypeId} {cs : List Value} (hx : opv env x = some (.pointer (some ⟨b, j, none⟩))) (hT : tshape P T' = some (false, m)) (hB : Has b Tb cs R) (hv : cs[j]? = some v)
     : PR P C n env R Φ (.load T' x) T (v) := fun a W he hs d pos af g => (by
    have hc : W.cell? ⟨b, j, none⟩ = some v := by rw [cell_of_row W b j _ _ _ (hB.says hs.sep)]; simpa using hv
    simp [execOp, he.eval hx, Instr.loadAt, Instr.sureAddr, loadVar, run_isAgg_ts hT, hc])
/-- A whole block. -/
theorem PR.loadW {b m : Nat} {Tb : TypeId} {cs : List Value} (hx : opv env x = some (.pointer (some ⟨b, 0, none⟩))) (hT : tshape P T' = some (true, m)) (hB : Has b Tb cs R) (hm : cs.length = m)
     : PR P C n env R Φ (.load T' x) T (.agg cs.toArray) := fun a W he hs d pos af g => (by
    obtain ⟨dd, i, hu, hi, hk, hdd⟩ := tshape_spec hT
    have := run_loadVar_row (P := P) W b Tb T' cs.toArray (0, 0) dd (hB.says hs.sep) hu (by revert hdd; cases dd <;> simp) (by simp [hi, hk, hm])
    simp [execOp, he.eval hx, Instr.loadAt, Instr.sureAddr, this])
theorem PR.loadA {b j m : Nat} {Tb : TypeId} {cs vs : List Value} (hx : opv env x = some (.pointer (some ⟨b, j, none⟩))) (hT : tshape P T' = some (true, m)) (hB : Has b Tb cs R)
    (hv : takeL cs j m = some vs)
     : PR P C n env R Φ (.load T' x) T (.agg vs.toArray) := fun a W he hs d pos af g => (by
    obtain ⟨hvl, hv⟩ := takeL_spec hv
    have hl : (loadCells ⟨b, j, none⟩ m).run P W = .ok vs.toArray W := by
      have := run_loadCells_list (P := P) W ⟨b, j, none⟩ vs (fun i u hu => by
        rw [add_none, cell_of_row W b (j + i) _ _ _ (hB.says hs.sep)]
        have := hv i u hu
        simpa using this)
      rwa [hvl] at this
    simp [execOp, he.eval hx, Instr.loadAt, Instr.sureAddr, loadVar, run_isAgg_ts hT, run_sizeOf_ts hT, hl])
/-- A cell that is only read. -/
theorem PR.loadR {A : Option Addr} {j m : Nat} {xs : List Value} (hx : opv env x = some (.pointer (A.map (·.add j)))) (hT : tshape P T' = some (false, m)) (hm : Mem (.rd A xs) Φ) (hv : xs[j]? = some v)
     : PR P C n env R Φ (.load T' x) T (v) := fun a W he hs d pos af g => (by
    obtain ⟨ad, rfl, _, _, hc⟩ := hs.fact hm j v hv
    simp [execOp, he.eval hx, Instr.loadAt, Instr.sureAddr, loadVar, run_isAgg_ts hT, hc])
theorem PR.idx {A : Option Addr} {len c s : Nat} {e : TypeId} {kd : IntKind} {i : Int} {xs : List Value} (j : Nat) (hx : opv env x = some (.slice A len c)) (hy : opv env y = some (.int kd i)) (hT : tslice P T' = some (e, s))
    (hm : Mem (.rd A xs) Φ) (hl : xs.length = len * s) (hs : 0 < s) (hi : i = j) (hj : j < len)
     : PR P C n env R Φ (.indexAddr T' x y) T (.pointer (A.map (·.add (j * s)))) := fun a W he hsat d pos af g => (by
    subst hi
    obtain ⟨hu, inf, hi, hk⟩ := tslice_spec hT
    have hlt : j * s < xs.length := by rw [hl]; exact Nat.mul_lt_mul_of_pos_right hj hs
    obtain ⟨ad, rfl, _, _, _⟩ := hsat.fact hm (j * s) _ (List.getElem?_eq_getElem hlt)
    have h1 : (0 : Int) ≤ j ∧ (j : Int) < len := by omega
    have h2 : ¬ len ≤ j := by omega
    simp [execOp, he.eval hx, he.eval hy, Instr.indexAt, asIntOf, run_underlying hu, sizeOf, typeInfo, hi, hk, h1, h2])

theorem Jl.alloc {cs : List Value} (hz : tzero P T' = some cs) (k : ∀ b, Jl P r C n ops Q rest ((d, .pointer (some ⟨b, 0, none⟩)) :: env) (.blk b T' cs :: R) Φ) (hd : Nat.blt d n.1 = true := by rfl) :
    Jl P r C n ops Q (⟨some d, .alloc T', T, pos, af, none⟩ :: rest) env R Φ :=
  Jl.valx hd (by simp) fun a W he hs => by
    obtain ⟨z, hz1, hz2⟩ := tzero_spec (w := W) hz
    refine ⟨_, _, _, _, ?_, hs.new cs T', k _⟩
    simp [execOp, Instr.alloc, hz1, newVar, newRow, hz2]
theorem Jl.box {cs : List Value} (hx : opv env x = some v) (hc : v.cells = cs.toArray) (k : ∀ b, Jl P r C n ops Q rest ((d, .pointer (some ⟨b, 0, none⟩)) :: env) (.blk b T' cs :: R) Φ) (hd : Nat.blt d n.1 = true := by rfl) :
    Jl P r C n ops Q (⟨some d, .box T' x, T, pos, af, none⟩ :: rest) env R Φ :=
  Jl.valx hd (by simp) fun a W he hs => by
    refine ⟨_, _, _, _, ?_, hs.new cs T', k _⟩
    simp [execOp, he.eval hx, Instr.box, newVar, newRow, hc]

theorem run_storeCells_at' {P : Program} (W : World) (b j : Nat) (Tb : TypeId) : ∀ (vs : List Value) (i : Nat) (cs : List Value), W.heap[b]? = some (.cells cs.toArray Tb (0, 0)) → j + i + vs.length ≤ cs.length → (∀ u ∈ vs, u.oneCell' = true) →
    ∃ W', (storeCells ⟨b, j, none⟩ vs i).run P W = .ok () W' ∧ W'.heap[b]? = some (.cells (cs.take (j + i) ++ vs ++ cs.drop (j + i + vs.length)).toArray Tb (0, 0)) ∧ Foreign (fun g => g = b) W W' := by
  intro vs
  induction vs generalizing W with
  | nil => intro i cs hb _ _; exact ⟨W, by simp [storeCells], by simpa using hb, Foreign.refl _ _⟩
  | cons v vs ih =>
    intro i cs hb hle h1
    have hlt : j + i < cs.length := by simp at hle; omega
    have hc : W.cell? ⟨b, j + i, none⟩ = some cs[j + i] := by rw [cell_of_row W b (j + i) _ _ _ hb]; simp [hlt]
    have hf : W.frozen? ⟨b, j + i, none⟩ = false := by simp [World.frozen?, hb]
    have hb' : (W.setCell ⟨b, j + i, none⟩ v).heap[b]? = some (.cells (cs.set (j + i) v).toArray Tb (0, 0)) := by
      simp [World.setCell, Array.getElem?_modify, hb]
    obtain ⟨W', hr, h2, h3⟩ := ih (W.setCell ⟨b, j + i, none⟩ v) (i + 1) (cs.set (j + i) v) hb' (by simp at hle ⊢; omega) (fun u hu => h1 u (by simp [hu]))
    refine ⟨W', ?_, ?_, (Foreign.setCell (X := fun g => g = b) (p := ⟨b, j + i, none⟩) v rfl).trans h3⟩
    · simp [storeCells, run_store _ _ _ _ _ (h1 v (by simp)), add_none, hc, hf, hr]
    · rw [h2]
      have e1 : (cs.set (j + i) v).take (j + (i + 1)) = cs.take (j + i) ++ [v] := by
        rw [show j + (i + 1) = (j + i) + 1 by omega, List.take_succ_eq_append_getElem (by simpa using hlt)]
        simp [List.take_set_of_le]
      have e2 : (cs.set (j + i) v).drop (j + (i + 1) + vs.length) = cs.drop (j + i + (v :: vs).length) := by
        rw [List.drop_set_of_lt (by omega)]
        simp; congr 1; omega
      rw [e1, e2]
      simp

theorem storeAt_blk {W : World} {b j : Nat} {Tb : TypeId} {cs vs : List Value} (hb : W.heap[b]? = some (.cells cs.toArray Tb (0, 0))) {bb : Bool} {m : Nat} (hT : tshape P T' = some (bb, m)) {v : Value} (hv : v.cells = vs.toArray) (hl : vs.length = m)
    (h1 : ∀ u ∈ vs, u.oneCell' = true) (hj : j + m ≤ cs.length) :
    ∃ W', (Instr.storeAt T' (.pointer (some ⟨b, j, none⟩)) v).run P W = .ok () W' ∧ W'.heap[b]? = some (.cells (cs.take j ++ vs ++ cs.drop (j + m)).toArray Tb (0, 0)) ∧ Foreign (fun g => g = b) W W' := by
  obtain ⟨W', hr, h2, h3⟩ := run_storeCells_at' (P := P) W b j Tb vs 0 cs hb (by omega) h1
  refine ⟨W', ?_, by simpa [hl] using h2, h3⟩
  simp [Instr.storeAt, Instr.sureAddr, storeVar, hv, run_sizeOf_ts hT, hl, hr]
theorem Jl.store1 {b j : Nat} {Tb : TypeId} {cs cs' : List Value} {R' : List Res} (hx : opv env x = some (.pointer (some ⟨b, j, none⟩))) (hT : tshape P T' = some (false, 1)) (hy : opv env y = some v) (h1 : v.oneCell' = true)
    (hw : Swap (.blk b Tb cs) (.blk b Tb cs') R R') (hc : putL cs j [v] = some cs') (k : Jl P r C n ops Q rest env R' Φ) : Jl P r C n ops Q (⟨none, .store T' x y, T, pos, af, none⟩ :: rest) env R Φ :=
  Jl.act (by simp) fun a W he hs => by
    obtain ⟨hj, hcs⟩ := putL_spec hc
    have hcc : v.cells = ([v] : List Value).toArray := by cases v <;> first | rfl | (simp [Value.oneCell'] at h1)
    obtain ⟨W', hr, h2, h3⟩ := storeAt_blk (P := P) (hw.old hs.sep) hT hcc rfl (by simpa using h1) (j := j) (by simpa using hj)
    exact ⟨W', R', Φ, by simp [execOp, he.eval hx, he.eval hy, hr], hs.swap hw h3 (by rw [hcs]; exact h2) (fun b hb => .inl hb), k⟩
/-- A whole block. -/
theorem Jl.storeW {b m : Nat} {Tb : TypeId} {cs vs : List Value} {R' : List Res} (hx : opv env x = some (.pointer (some ⟨b, 0, none⟩))) (hT : tshape P T' = some (true, m)) (hy : opv env y = some (.agg vs.toArray)) (hl : vs.length = m)
    (h1 : ∀ u ∈ vs, u.oneCell' = true) (hw : Swap (.blk b Tb cs) (.blk b Tb vs) R R') (hm : cs.length = m) (k : Jl P r C n ops Q rest env R' Φ) : Jl P r C n ops Q (⟨none, .store T' x y, T, pos, af, none⟩ :: rest) env R Φ :=
  Jl.act (by simp) fun a W he hs => by
    obtain ⟨W', hr, h2, h3⟩ := storeAt_blk (P := P) (hw.old hs.sep) hT (v := .agg vs.toArray) rfl hl h1 (j := 0) (by omega)
    refine ⟨W', R', Φ, ?_, hs.swap hw h3 ?_ (fun b hb => .inl hb), k⟩
    · simp [execOp, he.eval hx, he.eval hy, hr]
    · show W'.heap[b]? = _
      rw [h2]
      simp [← hm]
theorem Jl.storeA {b j m : Nat} {Tb : TypeId} {cs cs' vs : List Value} {R' : List Res} (hx : opv env x = some (.pointer (some ⟨b, j, none⟩))) (hT : tshape P T' = some (true, m)) (hy : opv env y = some (.agg vs.toArray)) (hl : vs.length = m)
    (h1 : ∀ u ∈ vs, u.oneCell' = true) (hw : Swap (.blk b Tb cs) (.blk b Tb cs') R R') (hc : putL cs j vs = some cs') (k : Jl P r C n ops Q rest env R' Φ) : Jl P r C n ops Q (⟨none, .store T' x y, T, pos, af, none⟩ :: rest) env R Φ :=
  Jl.act (by simp) fun a W he hs => by
    obtain ⟨hj, hcs⟩ := putL_spec hc
    obtain ⟨W', hr, h2, h3⟩ := storeAt_blk (P := P) (hw.old hs.sep) hT (v := .agg vs.toArray) rfl hl h1 (j := j) (by omega)
    exact ⟨W', R', Φ, by simp [execOp, he.eval hx, he.eval hy, hr], hs.swap hw h3 (by rw [hcs, hl]; exact h2) (fun b hb => .inl hb), k⟩

end rules
end Go.Proofs.YtcppphgpbaablaaDoor
