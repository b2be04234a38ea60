/-
Rules: structs and arrays of numbers and bools, held against each other.
Conditions: none; no program in sight.
-/
import Derived.Test.YtcppphgpbaablaaDoorJg
import Derived.ChangeKeysEq
import Derived.Laws.StructEq
namespace Go.Proofs.YtcppphgpbaablaaDoor
set_option linter.unusedVariables false
open Go.RowKit
/-- A type of one cell: a number (true), a bool (false). -/
def tone (P : Program) (t : TypeId) : Option Bool := match P.underlying t with
  | some (.int _) => some true
  | some .bool => some false
  | _ => none
def tonesF (P : Program) : List Field → Nat → Option (List Bool)
  | [], _ => some []
  | f :: fs, i => match tone P f.type, tonesF P fs (i + 1) with
    | some b, some bs => if f.name ≠ "_" ∧ f.offset = i then some (b :: bs) else none
    | _, _ => none
def teq (P : Program) (t : TypeId) : Option (List Bool) :=
  if P.eqGuardType P.depth t = false then match P.underlying t with
    | some (.struct fs) => if P.stoodInHeld t = false then tonesF P fs.toList 0 else none
    | some (.array n e) => match tone P e, P.info? e with
      | some b, some _ => if P.cellsOf e = 1 then some (List.replicate n b) else none
      | _, _ => none
    | _ => none
  else none
def eqKs : List Bool → List Value → List Value → Bool
  | [], [], [] => true
  | true :: ks, .int k _ :: xs, .int k' _ :: ys => (match k, k' with
    | .i64, .i64 => true | .u8, .u8 => true | _, _ => false) && eqKs ks xs ys
  | false :: ks, .bool _ :: xs, .bool _ :: ys => eqKs ks xs ys
  | _, _, _ => false
section
variable {P : Program} (w : World)
theorem part_one {t : TypeId} {b : Bool} (h : tone P t = some b) (xs : Array Value) (i : Nat) (u : Value) (hu : xs[i]? = some u) : (part t xs i).run P w = .ok u w := by
  unfold tone at h
  have : (isAgg t).run P w = .ok false w := by
    split at h
    · rename_i hh; simp [isAgg, run_underlying hh]
    · rename_i hh; simp [isAgg, run_underlying hh]
    · cases h
  simp [part, this, hu]
theorem eq_one {t : TypeId} {b : Bool} (h : tone P t = some b) (d : Nat) (u v : Value) (hk : eqKs [b] [u] [v] = true) : ∃ r : Bool, (Op.equalIn (d + 1) t u v).run P w = .ok r w ∧ (r = true ↔ u = v) := by
  unfold tone at h
  split at h
  · rename_i k hh
    cases h
    cases u <;> cases v <;> simp only [eqKs, Bool.false_eq_true] at hk
    rename_i k1 a k2 c
    have hkk : k1 = k2 := by cases k1 <;> cases k2 <;> simp_all
    subst hkk
    exact ⟨a == c, run_equalIn_int w d t k1 k a c hh, by simp⟩
  · rename_i hh
    cases h
    cases u <;> cases v <;> simp only [eqKs, Bool.false_eq_true] at hk
    exact ⟨_, run_equalIn_bool w d t _ _ hh, by simp⟩
  · cases h
theorem eqKs_head {b : Bool} {ks : List Bool} {xs ys : List Value} (h : eqKs (b :: ks) xs ys = true) : ∃ u v xs' ys', xs = u :: xs' ∧ ys = v :: ys' ∧ eqKs [b] [u] [v] = true ∧ eqKs ks xs' ys' = true := by
  cases b <;> cases xs <;> cases ys
  all_goals first | (simp only [eqKs, Bool.false_eq_true] at h; done) | skip
  · rename_i u xs v ys
    cases u <;> cases v <;> simp only [eqKs, Bool.false_eq_true] at h
    exact ⟨_, _, _, _, rfl, rfl, rfl, h⟩
  · rename_i u xs v ys
    cases u <;> cases v <;> simp only [eqKs, Bool.false_eq_true, Bool.and_eq_true] at h
    exact ⟨_, _, _, _, rfl, rfl, by simp only [eqKs, h.1]; rfl, h.2⟩
theorem eq_fields (d : Nat) (xs ys : Array Value) : ∀ (fs : List Field) (i : Nat) (ks : List Bool) (us vs : List Value), tonesF P fs i = some ks → eqKs ks us vs = true → (∀ j u, us[j]? = some u → xs[i + j]? = some u) → (∀ j u, vs[j]? = some u → ys[i + j]? = some u) →
    ∃ r : Bool, (Op.eqFields (d + 1) xs ys fs).run P w = .ok r w ∧ (r = true ↔ us = vs)
  | [], i, ks, us, vs, h1, h2, _, _ => by
    simp only [tonesF, Option.some.injEq] at h1
    subst h1
    cases us <;> cases vs <;> simp only [eqKs, Bool.false_eq_true] at h2
    exact ⟨true, by simp [Op.eqFields], by simp⟩
  | f :: fs, i, ks, us, vs, h1, h2, h3, h4 => by
    simp only [tonesF] at h1
    cases hb : tone P f.type with
    | none => simp [hb] at h1
    | some b =>
      cases hbs : tonesF P fs (i + 1) with
      | none => simp [hb, hbs] at h1
      | some bs =>
        simp only [hb, hbs] at h1
        split at h1
        · rename_i hn
          cases h1
          obtain ⟨u, v, us', vs', rfl, rfl, k1, k2⟩ := eqKs_head h2
          obtain ⟨r, hr, hiff⟩ := eq_one w hb d u v k1
          obtain ⟨r', hr', hiff'⟩ := eq_fields d xs ys fs (i + 1) bs us' vs' hbs k2 (fun j u hu => by have := h3 (j + 1) u (by simpa using hu); rwa [show i + (j + 1) = i + 1 + j by omega] at this) (fun j u hu => by have := h4 (j + 1) u (by simpa using hu); rwa [show i + (j + 1) = i + 1 + j by omega] at this)
          have p1 := part_one w hb xs f.offset u (by rw [hn.2]; exact h3 0 u rfl)
          have p2 := part_one w hb ys f.offset v (by rw [hn.2]; exact h4 0 v rfl)
          simp only [Op.eqFields, hn.1, ne_eq, not_false_eq_true, if_true, Sem.run_bind, p1, p2, hr, Result.andThen_ok]
          cases r
          · exact ⟨false, by simp, by simp; intro e; exact absurd (hiff.2 e) (by simp)⟩
          · exact ⟨r', by simpa using hr', by rw [hiff']; simp [hiff.1 rfl]⟩
        · cases h1
theorem eq_items (d : Nat) {e : TypeId} {b : Bool} (hb : tone P e = some b) (xs ys : Array Value) : ∀ (m i : Nat) (us vs : List Value), eqKs (List.replicate m b) us vs = true → (∀ j u, us[j]? = some u → xs[i + j]? = some u) → (∀ j u, vs[j]? = some u → ys[i + j]? = some u) →
    ∃ r : Bool, (Op.eqItems (d + 1) e 1 xs ys (List.range' i m)).run P w = .ok r w ∧ (r = true ↔ us = vs)
  | 0, i, us, vs, h2, _, _ => by
    cases us <;> cases vs <;> simp only [eqKs, List.replicate, Bool.false_eq_true] at h2
    exact ⟨true, by simp [Op.eqItems], by simp⟩
  | m + 1, i, us, vs, h2, h3, h4 => by
    rw [List.replicate_succ] at h2
    obtain ⟨u, v, us', vs', rfl, rfl, k1, k2⟩ := eqKs_head h2
    obtain ⟨r, hr, hiff⟩ := eq_one w hb d u v k1
    obtain ⟨r', hr', hiff'⟩ := eq_items d hb xs ys m (i + 1) us' vs' k2 (fun j u hu => by have := h3 (j + 1) u (by simpa using hu); rwa [show i + (j + 1) = i + 1 + j by omega] at this) (fun j u hu => by have := h4 (j + 1) u (by simpa using hu); rwa [show i + (j + 1) = i + 1 + j by omega] at this)
    have p1 := part_one w hb xs (i * 1) u (by rw [Nat.mul_one]; exact h3 0 u rfl)
    have p2 := part_one w hb ys (i * 1) v (by rw [Nat.mul_one]; exact h4 0 v rfl)
    rw [List.range'_succ]
    simp only [Op.eqItems, Sem.run_bind, p1, p2, hr, Result.andThen_ok]
    cases r
    · exact ⟨false, by simp, by simp; intro e; exact absurd (hiff.2 e) (by simp)⟩
    · exact ⟨r', by simpa using hr', by rw [hiff']; simp [hiff.1 rfl]⟩
theorem eq_agg {t : TypeId} {ks : List Bool} (h : teq P t = some ks) (xs ys : List Value) (hk : eqKs ks xs ys = true) : P.eqGuardType P.depth t = false ∧ ∃ r : Bool, (Op.equalIn 10000 t (.agg xs.toArray) (.agg ys.toArray)).run P w = .ok r w ∧ (r = true ↔ xs = ys) := by
  unfold teq at h
  split at h
  · rename_i hg
    refine ⟨hg, ?_⟩
    split at h
    · rename_i fs hu
      split at h
      · rename_i hs
        have hfs : P.fieldsOf t = fs := by simp [Program.fieldsOf, hu]
        obtain ⟨r, h1, h2⟩ := eq_fields (P := P) w 9998 xs.toArray ys.toArray fs.toList 0 ks xs ys h hk (fun j u hu => by simpa using hu) (fun j u hu => by simpa using hu)
        exact ⟨r, by rw [run_equalIn_struct w 9999 t _ _ (by rw [hfs]; exact hu) hs, hfs]; exact h1, h2⟩
      · cases h
    · rename_i n e hu
      split at h
      · rename_i b i hb hi
        split at h
        · rename_i hc
          cases h
          obtain ⟨r, h1, h2⟩ := eq_items (P := P) w 9998 hb xs.toArray ys.toArray n 0 xs ys hk (fun j u hu => by simpa using hu) (fun j u hu => by simpa using hu)
          exact ⟨r, by rw [run_equalIn_array w 9999 _ _ hu hi, hc, List.range_eq_range']; exact h1, h2⟩
        · cases h
      · cases h
    · cases h
  · cases h
end
section
variable {P : Program} {C : Cx} {n : Nat × List Nat} {env : List (Nat × Value)} {R : List Res} {Φ : List Fact} {T T' : TypeId} {x y : Operand}
theorem PR.eqlA {xs ys : List Value} {ks : List Bool} (t : Bool) (hx : opv env x = some (.agg xs.toArray)) (hy : opv env y = some (.agg ys.toArray)) (hT : teq P T' = some ks) (hk : eqKs ks xs ys = true) (ht : t = true ↔ xs = ys) :
    PR P C n env R Φ (.binOp .eql T' x y T') T (.bool t) := fun a W he _ d pos af g => by
  obtain ⟨hg, r, hr, hiff⟩ := eq_agg W hT xs ys hk
  have hrt : r = t := by rw [Bool.eq_iff_iff]; exact hiff.trans ht.symm
  subst hrt
  simp only [execOp, he.eval hx, he.eval hy, Sem.run_bind, run_eqGuard_agg W .eql T' x y _ _ hg, Result.andThen_ok, run_eql_struct, hr]
  simp
theorem PR.neqA {xs ys : List Value} {ks : List Bool} (t : Bool) (hx : opv env x = some (.agg xs.toArray)) (hy : opv env y = some (.agg ys.toArray)) (hT : teq P T' = some ks) (hk : eqKs ks xs ys = true) (ht : t = true ↔ xs ≠ ys) :
    PR P C n env R Φ (.binOp .neq T' x y T') T (.bool t) := fun a W he _ d pos af g => by
  obtain ⟨hg, r, hr, hiff⟩ := eq_agg W hT xs ys hk
  have hrt : (!r) = t := by rw [Bool.eq_iff_iff, ht, ne_eq, ← hiff]; simp
  subst hrt
  simp only [execOp, he.eval hx, he.eval hy, Sem.run_bind, run_eqGuard_agg W .neq T' x y _ _ hg, Result.andThen_ok, run_neq_struct, hr]
  simp
end
end Go.Proofs.YtcppphgpbaablaaDoor
