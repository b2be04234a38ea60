/-
The logic of walks: calls by contract, slices, rows that grow, the end of a function.
Conditions: none; no program in sight.
-/
import Derived.Test.YtcppphgpbaablaaGreatDoorJc
namespace Go.Proofs.YtcppphgpbaablaaGreatDoor
set_option linter.unusedVariables false
open Go.RowKit

/- taking resources out -/
def Del (r : Res) : List Res → List Res → Prop
  | x :: R, R' => (x = r ∧ R = R') ∨ ∃ R1, R' = x :: R1 ∧ Del r R R1
  | [], _ => False
theorem Del.here {r : Res} {R : List Res} : Del r (r :: R) R := .inl ⟨rfl, rfl⟩
theorem Del.there {r x : Res} {R R' : List Res} (h : Del r R R') : Del r (x :: R) (x :: R') := .inr ⟨_, rfl, h⟩
theorem Del.own {r : Res} : ∀ {R R' : List Res}, Del r R R' → ∀ b, ownL R b ↔ r.own b ∨ ownL R' b
  | x :: R, R', h, b => by
    rcases h with ⟨rfl, rfl⟩ | ⟨R1, rfl, h⟩
    · rfl
    · have := h.own b
      simp only [ownL, this]
      exact ⟨fun h => by rcases h with h | h | h <;> simp [h], fun h => by rcases h with h | h | h <;> simp [h]⟩
theorem Del.sep {r : Res} {X : Nat → Prop} {W : World} : ∀ {R R' : List Res}, Del r R R' → Sep X W R → r.says W ∧ (∀ b, r.own b → ¬ X b ∧ ¬ ownL R' b) ∧ Sep X W R'
  | x :: R, R', h, hs => by
    rcases h with ⟨rfl, rfl⟩ | ⟨R1, rfl, h⟩
    · exact hs
    · obtain ⟨h1, h2, h3⟩ := h.sep hs.2.2
      refine ⟨h1, fun b hb => ⟨(h2 b hb).1, fun hx => ?_⟩, hs.1, fun b hb => ⟨(hs.2.1 b hb).1, fun hx => (hs.2.1 b hb).2 ((h.own b).2 (.inr hx))⟩, h3⟩
      rcases hx with hx | hx
      · exact (hs.2.1 b hx).2 ((h.own b).2 (.inl hb))
      · exact (h2 b hb).2 hx
def Take : List Res → List Res → List Res → Prop
  | [], R, R' => R = R'
  | r :: rs, R, R' => ∃ R1, Del r R R1 ∧ Take rs R1 R'
theorem Take.nil {R : List Res} : Take [] R R := rfl
theorem Take.cons {r : Res} {rs R R1 R' : List Res} (h : Del r R R1) (k : Take rs R1 R') : Take (r :: rs) R R' := ⟨R1, h, k⟩
theorem ownL_app {A B : List Res} {b : Nat} : ownL (A ++ B) b ↔ ownL A b ∨ ownL B b := by
  induction A with
  | nil => simp [ownL]
  | cons r A ih => simp [ownL, ih, or_assoc]
theorem Take.own : ∀ {rs R R' : List Res}, Take rs R R' → ∀ b, ownL R b ↔ ownL rs b ∨ ownL R' b
  | [], R, R', h, b => by cases h; simp [ownL]
  | r :: rs, R, R', ⟨R1, h, k⟩, b => by rw [h.own b, k.own b]; simp [ownL, or_assoc]
theorem Take.sep {X : Nat → Prop} {W : World} : ∀ {rs R R' : List Res}, Take rs R R' → Sep X W R → Sep (fun b => X b ∨ ownL R' b) W rs ∧ Sep X W R'
  | [], R, R', h, hs => by cases h; exact ⟨trivial, hs⟩
  | r :: rs, R, R', ⟨R1, h, k⟩, hs => by
    obtain ⟨h1, h2, h3⟩ := h.sep hs
    obtain ⟨h4, h5⟩ := k.sep h3
    refine ⟨⟨h1, fun b hb => ⟨fun hx => ?_, fun hx => (h2 b hb).2 ((k.own b).2 (.inl hx))⟩, h4⟩, h5⟩
    rcases hx with hx | hx
    · exact (h2 b hb).1 hx
    · exact (h2 b hb).2 ((k.own b).2 (.inr hx))
theorem sep_app {X : Nat → Prop} {W : World} : ∀ {A B : List Res}, Sep (fun b => X b ∨ ownL B b) W A → Sep X W B → Sep X W (A ++ B)
  | [], B, _, h => h
  | r :: A, B, h, h' => ⟨h.1, fun b hb => ⟨fun hx => (h.2.1 b hb).1 (.inl hx), fun hx => by
      rcases ownL_app.1 hx with hx | hx
      · exact (h.2.1 b hb).2 hx
      · exact (h.2.1 b hb).1 (.inr hx)⟩, sep_app h.2.2 h'⟩

theorem Sat.take {C : Cx} {R rs R' : List Res} {Φ : List Fact} {W : World} (h : Sat C R Φ W) (ht : Take rs R R') : Sat C R' Φ W :=
  h.step ⟨rfl, rfl, rfl, Nat.le_refl _, fun _ _ _ => rfl⟩ (ht.sep h.sep).2 fun b hb => .inl ((ht.own b).2 (.inr hb))

theorem Sep.less {X X' : Nat → Prop} {W : World} : ∀ {R : List Res}, Sep X W R → (∀ b, X' b → X b) → Sep X' W R
  | [], _, _ => trivial
  | q :: R, h, hx => ⟨h.1, fun b hb => ⟨fun h' => (h.2.1 b hb).1 (hx b h'), (h.2.1 b hb).2⟩, h.2.2.less hx⟩
theorem Sep.more {X X' : Nat → Prop} {W : World} : ∀ {R : List Res}, Sep X W R → (∀ b, ownL R b → X' b → X b ∨ False) → Sep X' W R
  | [], _, _ => trivial
  | q :: R, h, hx => ⟨h.1, fun b hb => ⟨fun h' => (h.2.1 b hb).1 ((hx b (.inl hb) h').elim id False.elim), (h.2.1 b hb).2⟩, h.2.2.more fun b hb => hx b (.inr hb)⟩
/-- What a resource says to one who only reads. -/
def Lends : List Res → List Fact → Prop
  | [], lf => lf = []
  | q :: ls, lf => ∃ φ lf', lf = φ :: lf' ∧ (∀ X W, q.says W → (∀ b, q.own b → ¬ X b) → φ.p X W) ∧ Lends ls lf'
theorem Lends.mem {X Y : Nat → Prop} {W : World} : ∀ {ls : List Res} {lf : List Fact}, Lends ls lf → Sep Y W ls → (∀ b, ownL ls b → ¬ X b) → ∀ φ ∈ lf, φ.p X W
  | [], _, h, _, _, φ, hm => by cases h; simp at hm
  | q :: ls, _, ⟨ψ, lf', rfl, h1, h2⟩, hs, hx, φ, hm => by
    rcases List.mem_cons.1 hm with rfl | hm
    · exact h1 X W hs.1 fun b hb => hx b (.inl hb)
    · exact h2.mem hs.2.2 (fun b hb => hx b (.inr hb)) φ hm

/- literals -/
def fillL : List Value → List ((Nat × Nat) × Value) → Option (List Value)
  | z, [] => some z
  | z, ((off, sz), v) :: r => match Nat.beq v.cells.toList.length sz with
    | true => match putL z off v.cells.toList with
      | some z' => fillL z' r
      | none => none
    | false => none
/-- Where the fields' cells are. -/
def tplaces (P : Program) (t : TypeId) (l : List Nat) : Option (List (Nat × Nat)) :=
  match P.underlying t with
  | some (.struct fs) => if fs.all (fun x => (P.info? x.type).isSome) then l.mapM fun f => (fs.map fun x => (x.offset, P.cellsOf x.type))[f]? else none
  | some (.array _ e) => (P.info? e).map fun i => l.map fun j => (j * i.size, i.size)
  | _ => none
/-- A row of zeros. -/
def zrow (P : Program) (t : TypeId) (m : Nat) : Option (List Value) :=
  match P.underlying t with
  | some (.slice e) => (P.info? e).bind fun i => if m * i.size = 0 then some [] else i.zero.map fun z => ((Array.range (m * i.size)).map (z.cells[· % z.cells.size]!)).toList
  | _ => none

theorem fold_put : ∀ (vs : List Value) (k off : Nat) (cs : List Value), off + k + vs.length ≤ cs.length →
    (vs.zipIdx k).foldl (fun (cs : Array Value) (x : Value × Nat) => cs.setIfInBounds (off + x.2) x.1) cs.toArray = (cs.take (off + k) ++ vs ++ cs.drop (off + k + vs.length)).toArray
  | [], k, off, cs, h => by simp
  | v :: vs, k, off, cs, h => by
    simp only [List.zipIdx_cons, List.foldl_cons, List.setIfInBounds_toArray]
    rw [fold_put vs (k + 1) off (cs.set (off + k) v) (by simp at h ⊢; omega)]
    have hlt : off + k < cs.length := by simp at h; omega
    have e1 : (cs.set (off + k) v).take (off + (k + 1)) = cs.take (off + k) ++ [v] := by
      rw [show off + (k + 1) = (off + k) + 1 by omega, List.take_succ_eq_append_getElem (by simpa using hlt)]
      simp [List.take_set_of_le]
    have e2 : (cs.set (off + k) v).drop (off + (k + 1) + vs.length) = cs.drop (off + k + (v :: vs).length) := by
      rw [List.drop_set_of_lt (by omega)]
      simp; congr 1; omega
    rw [e1, e2]
    simp
theorem fill_spec {place : Nat → Option (Nat × Nat)} (plf : Nat → Nat × Nat) : ∀ (is : List Nat) (vs zs cs : List Value), fillL zs ((is.map plf).zip vs) = some cs → (∀ i ∈ is, place i = some (plf i)) →
    Instr.fill place zs.toArray (is.zip vs) = some cs.toArray
  | [], vs, zs, cs, h, _ => by simp [fillL] at h; simp [Instr.fill, h]
  | i :: is, [], zs, cs, h, _ => by simp [fillL] at h; simp [Instr.fill, h]
  | i :: is, v :: vs, zs, cs, h, hp => by
    simp only [List.map_cons, List.zip_cons_cons, fillL] at h
    split at h
    · rename_i hb
      have hsz := Nat.eq_of_beq_eq_true hb
      split at h
      · rename_i z' hz'
        obtain ⟨h1, h2⟩ := putL_spec hz'
        have ih := fill_spec (place := place) plf is vs z' cs h (fun i hi => hp i (by simp [hi]))
        have hs : v.cells.size = (plf i).2 := by rw [← hsz]; simp
        have hle : ¬ ((plf i).1 + v.cells.size > zs.toArray.size) := by simp at h1 ⊢; omega
        have hf : (v.cells.zipIdx.foldl (fun (cs : Array Value) (x : Value × Nat) => cs.setIfInBounds ((plf i).1 + x.2) x.1) zs.toArray) = z'.toArray := by
          have := fold_put v.cells.toList 0 (plf i).1 zs (by simpa using h1)
          rw [h2, ← Array.foldl_toList, Array.toList_zipIdx, this]
          simp
        have hc : ¬ ((decide (v.cells.size ≠ (plf i).2) || decide ((plf i).1 + v.cells.size > zs.toArray.size)) = true) := by simp only [Bool.or_eq_true, decide_eq_true_eq, not_or]; exact ⟨fun h => h hs, hle⟩
        simp only [List.zip_cons_cons, Instr.fill, hp i (by simp)]
        rw [if_neg hc]
        exact (congrArg (fun x => Instr.fill place x (is.zip vs)) hf).trans ih
      · cases h
    · cases h
theorem run_buildSlice {P : Program} {w : World} {t e : TypeId} {m s : Nat} {is : List Nat} {vs zs cs : List Value} (hT : tslice P t = some (e, s)) (h : zrow P t m = some zs) (hm : m * s ≤ 16777216)
    (hf : fillL zs ((is.map fun i => (i * s, s)).zip vs) = some cs) :
    (Instr.buildSlice t m (is.zip vs).toArray).run P w = .ok (.slice (some ⟨w.heap.size, 0, none⟩) m m) (w.alloc (.cells cs.toArray e)) := by
  obtain ⟨hu, i, hi, hk⟩ := tslice_spec hT
  subst hk
  have hf' := fill_spec (place := fun j => some (j * i.size, i.size)) _ is vs zs cs hf (fun _ _ => rfl)
  have hle : ¬ 16777216 < m * i.size := by omega
  unfold zrow at h
  simp only [hu, hi, Option.bind_some] at h
  by_cases h0 : m * i.size = 0
  · rw [if_pos h0] at h
    simp at h
    subst h
    have er : (Array.range 0).map (fun _ : Nat => (default : Value)) = #[] := by simp
    simp [Instr.buildSlice, run_underlying hu, sizeOf, typeInfo, hi, h0, er, hf', newRow]
  · rw [if_neg h0] at h
    cases hz : i.zero with
    | none => simp [hz] at h
    | some z =>
      simp only [hz, Option.map_some, Option.some.injEq] at h
      have e1 : (Array.range (m * i.size)).map (z.cells[· % z.cells.size]!) = zs.toArray := by rw [← h]
      simp [Instr.buildSlice, run_underlying hu, sizeOf, typeInfo, hi, h0, hle, zeroValue, hz, e1, hf', newRow]
theorem mapM_places {P : Program} {w : World} : ∀ (fs : List Field), (∀ x ∈ fs, ∃ i, P.info? x.type = some i) →
    (fs.mapM fun (f : Field) => do pure (f.offset, ← sizeOf f.type) : Sem (List (Nat × Nat))).run P w = .ok (fs.map fun x => (x.offset, P.cellsOf x.type)) w
  | [], _ => by simp
  | f :: fs, h => by
    obtain ⟨i, hi⟩ := h f (by simp)
    have ih := mapM_places (P := P) (w := w) fs (fun x hx => h x (by simp [hx]))
    rw [List.mapM_cons, Sem.run_bind]
    simp [sizeOf, typeInfo, hi, Program.cellsOf] at ih ⊢
    simp [ih]
theorem run_build {P : Program} {T' : TypeId} {is : List Nat} {vs cs zs : List Value} {pl : List (Nat × Nat)} (hz : tzero P T' = some zs) (hp : tplaces P T' is = some pl) (hf : fillL zs (pl.zip vs) = some cs) {W : World} :
    (Instr.build T' (is.zip vs).toArray).run P W = .ok (.agg cs.toArray) W := by
  obtain ⟨z, hz1, hz2⟩ := tzero_spec (w := W) hz
  unfold tplaces at hp
  cases hu : P.underlying T' with
  | none => simp [hu] at hp
  | some d =>
    cases d with
    | struct fs =>
      simp only [hu] at hp
      split at hp
      · rename_i hall
        have hall' : ∀ x ∈ fs.toList, ∃ i, P.info? x.type = some i := fun x hx => by
          have := Array.all_eq_true'.1 hall x (by simpa using hx)
          exact Option.isSome_iff_exists.1 this
        have e1 := mapM_places (P := P) (w := W) fs.toList hall'
        have e2 : (fs.mapM fun (f : Field) => do pure (f.offset, ← sizeOf f.type) : Sem (Array (Nat × Nat))).run P W = .ok (fs.map fun x => (x.offset, P.cellsOf x.type)) W := by
          rw [← Array.toArray_toList (xs := fs), List.mapM_toArray, map_eq_pure_bind, Sem.run_bind, e1]
          simp only [Result.andThen_ok, Sem.run_pure, Result.ok.injEq, and_true]
          apply Array.toList_inj.1; simp
        obtain ⟨plf, hplf⟩ : ∃ plf : Nat → Nat × Nat, plf = fun i => ((fs.map fun x => (x.offset, P.cellsOf x.type))[i]?).getD (0, 0) := ⟨_, rfl⟩
        have e3 : pl = is.map plf ∧ ∀ i ∈ is, (fs.map fun x => (x.offset, P.cellsOf x.type))[i]? = some (plf i) := by
          subst hplf
          clear hf
          induction is generalizing pl with
          | nil => simp at hp; simp [hp]
          | cons j is ih =>
            rw [List.mapM_cons] at hp
            cases hj : (fs.map fun x => (x.offset, P.cellsOf x.type))[j]? with
            | none => simp [hj] at hp
            | some q =>
              rw [hj] at hp
              simp only [Option.bind_eq_bind, Option.bind_some, Option.bind_eq_some_iff, Option.pure_def, Option.some.injEq] at hp
              obtain ⟨l, hl, rfl⟩ := hp
              obtain ⟨h1, h2⟩ := ih hl
              refine ⟨by rw [List.map_cons, ← h1, hj]; rfl, fun i hi => ?_⟩
              rcases List.mem_cons.1 hi with rfl | hi
              · show _ = some (Option.getD _ _); rw [hj]; rfl
              · exact h2 i hi
        obtain ⟨e3, e4⟩ := e3
        subst e3
        have hf' := fill_spec plf is vs zs cs hf e4
        simp only [Instr.build, Sem.run_bind, hz1, Result.andThen_ok, run_underlying hu, e2, hz2, hf', Sem.run_pure]
      · cases hp
    | array m e =>
      simp only [hu] at hp
      cases hi : P.info? e with
      | none => simp [hi] at hp
      | some i =>
        simp only [hi, Option.map_some, Option.some.injEq] at hp
        subst hp
        have hf' := fill_spec (place := fun j => some (j * i.size, i.size)) _ is vs zs cs hf (fun _ _ => rfl)
        simp only [Instr.build, Sem.run_bind, hz1, Result.andThen_ok, run_underlying hu, sizeOf, typeInfo, run_program, hi, Sem.run_pure, hz2, hf']
    | _ => simp [hu] at hp

section rules
variable {P : Program} {r : Option Nat} {C : Cx} {n : Nat × List Nat} {ops : Array Oper} {Q : Exit → Act → World → Prop} {rest : List Oper} {env : List (Nat × Value)} {R : List Res} {Φ : List Fact}
  {d : Nat} {T T' : TypeId} {pos : String} {af : Array Edge} {x y z : Operand} {u v : Value} {c : Code}

/-- A call of a function, or of a function value. -/
theorem Jl.callv {f : FuncId} {fs cs vs : List Value} {as : Array Operand} {ts : Array TypeId} {args : List Value} {Rin R' : List Res} {pre : List Fact} {α : Type} {res : α → Value} {Rout : α → List Res} {post : α → List Fact}
    (hct : Ct P f args Rin pre res Rout post) (hen : ∀ args w, (callFunc f args).run P w = .ok (.enter f args) w)
    (hx : opv env x = some (.func (.func f) fs.toArray cs.toArray)) (ha : opvs env as.toList = some vs) (hv : fs ++ vs ++ cs = args) (ht : Take Rin R R') (hp : FSub pre Φ)
    (k : ∀ x, Jl P r C n ops Q rest ((d, res x) :: env) (Rout x ++ R') (post x ++ Φ)) (hd : Nat.blt d n.1 = true := by rfl) :
    Jl P r C n ops Q (⟨some d, .call { callee := .value x, args := as, argTypes := ts }, T, pos, af, none⟩ :: rest) env R Φ := fun a W he hs => by
  refine wpListIn_plain rfl fun K hK => oper_plain (by simp) ?_
  have hrun : (execOp a.eval ⟨some d, .call { callee := .value x, args := as, argTypes := ts }, T, pos, af, none⟩).run P W = .ok (.enter f args.toArray) W := by
    have e1 : as.map a.eval = vs.toArray := by
      apply Array.toList_inj.1
      simpa using opvs_eval he ha
    subst hv
    simp [execOp, resolve, he.eval hx, e1, Deferred.ofValue, invoke, hen]
  rw [hrun]
  refine ⟨fun h => by simp [Fence.wide] at h, ?_⟩
  obtain ⟨h1, h2⟩ := ht.sep hs.sep
  have hcall := hct (fun b => C.X0 b ∨ ownL R' b) W (fun b hb => hb.elim (hs.x0lt b) (h2.lt b)) h1 (fun φ hφ => φ.fr _ _ W W (hs.facts φ (hp.mem φ hφ)) (Foreign.refl _ _) (fun b hb => .inl (by
    rcases hb with (hb | hb) | hb
    · exact .inl hb
    · exact .inr ((ht.own b).2 (.inr hb))
    · exact .inr ((ht.own b).2 (.inl hb)))))
  have hc2 : CallsIn (Fz r) (0 - 1) P f args.toArray W _ := (callsIn_wide (n := 0 - 1)).2 hcall
  refine CallsIn.mono (F := Fz r) hc2 ?_
  rintro e W' ⟨x, rfl, hf, hsep, hown, hpost⟩
  have hnR : ∀ b, ownL R' b → ¬ ownL Rin b := fun b hb hb' => h1.notX b hb' (.inr hb)
  have hsat : Sat C (Rout x ++ R') Φ W' := by
    refine hs.step ⟨hf.os, hf.tape, hf.output, hf.size, fun b hb hx => hf.block b hb fun h => hx ((ht.own b).2 (.inl h))⟩ (sep_app hsep (h2.keep fun b hb => hf.block b (h2.lt b hb) (hnR b hb))) fun b hb => ?_
    rcases ownL_app.1 hb with hb | hb
    · exact (hown b hb).imp (fun h => (ht.own b).2 (.inl h)) id
    · exact .inl ((ht.own b).2 (.inr hb))
  refine hK _ _ (k x _ W' (he.put (Nat.le_of_ble_eq_true hd) _) ⟨hsat.ev, hsat.sep, hsat.ours, hsat.x0, fun φ hφ => ?_⟩)
  rcases List.mem_append.1 hφ with hφ | hφ
  · exact φ.fr _ _ W' W' (hpost φ hφ) (Foreign.refl _ _) fun b hb => .inl (by
      rcases hb with hb | hb
      · exact .inl (.inl hb)
      · rcases ownL_app.1 hb with hb | hb
        · exact .inr hb
        · exact .inl (.inr hb))
  · exact hsat.facts φ hφ
/-- A call that reads what its caller may write. -/
theorem Jl.calll {f : FuncId} {fs cs vs : List Value} {as : Array Operand} {ts : Array TypeId} {args : List Value} {Rin R' R'' ls : List Res} {lf pre : List Fact} {α : Type} {res : α → Value} {Rout : α → List Res}
    (hct : Ct P f args Rin pre res Rout (fun _ => [])) (hen : ∀ args w, (callFunc f args).run P w = .ok (.enter f args) w)
    (hx : opv env x = some (.func (.func f) fs.toArray cs.toArray)) (ha : opvs env as.toList = some vs) (hv : fs ++ vs ++ cs = args) (ht : Take Rin R R') (hl : Take ls R' R'') (hlf : Lends ls lf) (hp : FSub pre (lf ++ Φ))
    (k : ∀ x, Jl P r C n ops Q rest ((d, res x) :: env) (Rout x ++ R') Φ) (hd : Nat.blt d n.1 = true := by rfl) :
    Jl P r C n ops Q (⟨some d, .call { callee := .value x, args := as, argTypes := ts }, T, pos, af, none⟩ :: rest) env R Φ := fun a W he hs => by
  refine wpListIn_plain rfl fun K hK => oper_plain (by simp) ?_
  have hrun : (execOp a.eval ⟨some d, .call { callee := .value x, args := as, argTypes := ts }, T, pos, af, none⟩).run P W = .ok (.enter f args.toArray) W := by
    have e1 : as.map a.eval = vs.toArray := by
      apply Array.toList_inj.1
      simpa using opvs_eval he ha
    subst hv
    simp [execOp, resolve, he.eval hx, e1, Deferred.ofValue, invoke, hen]
  rw [hrun]
  refine ⟨fun h => by simp [Fence.wide] at h, ?_⟩
  obtain ⟨h1, h2⟩ := ht.sep hs.sep
  obtain ⟨h3, h4⟩ := hl.sep h2
  have hin : ∀ b, ownL Rin b → ¬ ownL R' b := fun b hb hb' => h1.notX b hb (.inr hb')
  have hls : ∀ b, ownL ls b → ¬ C.X0 b ∧ ¬ ownL R'' b ∧ ¬ ownL Rin b := fun b hb => ⟨fun hx => h3.notX b hb (.inl hx), fun hx => h3.notX b hb (.inr hx), fun hx => hin b hx ((hl.own b).2 (.inl hb))⟩
  have h1' : Sep (fun b => C.X0 b ∨ ownL R'' b) W Rin := h1.less fun b hb => hb.imp id fun h => (hl.own b).2 (.inr h)
  have hcall := hct (fun b => C.X0 b ∨ ownL R'' b) W (fun b hb => hb.elim (hs.x0lt b) (h4.lt b)) h1' (fun φ hφ => by
    rcases List.mem_append.1 (hp.mem φ hφ) with hm | hm
    · refine hlf.mem h3 (fun b hb => ?_) φ hm
      obtain ⟨q1, q2, q3⟩ := hls b hb
      rintro ((h | h) | h)
      · exact q1 h
      · exact q2 h
      · exact q3 h
    · exact φ.fr _ _ W W (hs.facts φ hm) (Foreign.refl _ _) (fun b hb => .inl (by
        rcases hb with (hb | hb) | hb
        · exact .inl hb
        · exact .inr ((ht.own b).2 (.inr ((hl.own b).2 (.inr hb))))
        · exact .inr ((ht.own b).2 (.inl hb)))))
  have hc2 : CallsIn (Fz r) (0 - 1) P f args.toArray W _ := (callsIn_wide (n := 0 - 1)).2 hcall
  refine CallsIn.mono (F := Fz r) hc2 ?_
  rintro e W' ⟨x, rfl, hf, hsep, hown, _⟩
  have hsep' : Sep (fun b => C.X0 b ∨ ownL R' b) W' (Rout x) := hsep.more fun b hb h => by
    rcases h with h | h
    · exact .inl (.inl h)
    · rcases (hl.own b).1 h with h | h
      · exfalso
        rcases hown b hb with h5 | h5
        · exact (hls b h).2.2 h5
        · have := h3.lt b h; omega
      · exact .inl (.inr h)
  refine hK _ _ (k x _ W' (he.put (Nat.le_of_ble_eq_true hd) _) (hs.step ⟨hf.os, hf.tape, hf.output, hf.size, fun b hb hx => hf.block b hb fun h => hx ((ht.own b).2 (.inl h))⟩ (sep_app hsep' (h2.keep fun b hb => hf.block b (h2.lt b hb) (fun h => hin b h hb))) fun b hb => ?_))
  rcases ownL_app.1 hb with hb | hb
  · exact (hown b hb).imp (fun h => (ht.own b).2 (.inl h)) id
  · exact .inl ((ht.own b).2 (.inr hb))
theorem Jl.call {f : FuncId} {as : Array Operand} {ts : Array TypeId} {args : List Value} {Rin R' : List Res} {pre : List Fact} {α : Type} {res : α → Value} {Rout : α → List Res} {post : α → List Fact}
    (hct : Ct P f args Rin pre res Rout post) (hen : ∀ args w, (callFunc f args).run P w = .ok (.enter f args) w) (ha : opvs env as.toList = some args) (ht : Take Rin R R') (hp : FSub pre Φ)
    (k : ∀ x, Jl P r C n ops Q rest ((d, res x) :: env) (Rout x ++ R') (post x ++ Φ)) (hd : Nat.blt d n.1 = true := by rfl) :
    Jl P r C n ops Q (⟨some d, .call { callee := .value (.func f), args := as, argTypes := ts }, T, pos, af, none⟩ :: rest) env R Φ :=
  Jl.callv (fs := []) (cs := []) hct hen rfl ha (by simp) ht hp k hd

/- what may be written becomes what is read -/
theorem sat_seal {W : World} {q : Res} {R' : List Res} {φ : Fact} (hs : Sat C R Φ W) (hd : Del q R R') (h : ∀ X, (∀ b, q.own b → ¬ X b) → φ.p X W) : Sat C R' (φ :: Φ) W := by
  have h1 : Sat C R' Φ W := hs.take (rs := [q]) ⟨_, hd, rfl⟩
  refine h1.add (h _ fun b hb hx => ?_)
  have := (hd.sep hs.sep).2.1 b hb
  exact hx.elim this.1 this.2
theorem rd_of_blk {W : World} {b : Nat} {Tb : TypeId} {cs : List Value} (h : W.heap[b]? = some (.cells cs.toArray Tb (0, 0))) {X : Nat → Prop} (hX : ¬ X b) : (Fact.rd (some ⟨b, 0, none⟩) cs).p X W := fun j u hu =>
  ⟨_, rfl, (Array.getElem?_eq_some_iff.1 h).1, hX, by rw [show (⟨b, 0, none⟩ : Addr).add j = ⟨b, j, none⟩ by rw [add_none]; simp, cell_of_row W b j _ _ _ h]; simpa using hu⟩
theorem rd_of_row {W : World} {e : TypeId} {s m k : Nat} {A : Option Addr} {xs : List Value} (h : W.ownsRow 0 e s (.slice A m k) m xs) {X : Nat → Prop} (hX : ∀ b, (Value.slice A m k).ownBlock = some b → ¬ X b) : (Fact.rd A xs).p X W := fun j u hu => by
  obtain ⟨a, rfl, _, h2, h3⟩ := Rd.of_own h j u hu
  exact ⟨a, rfl, h2, hX _ rfl, h3⟩
theorem Lends.nil : Lends [] [] := rfl
theorem Lends.row {e : TypeId} {s m cap : Nat} {A : Option Addr} {xs : List Value} {ls : List Res} {lf : List Fact} (h : Lends ls lf) : Lends (.row e s (.slice A m cap) m xs :: ls) (.rd A xs :: lf) :=
  ⟨_, _, rfl, fun X W hs hx => rd_of_row hs hx, h⟩
theorem Lends.blk {b : Nat} {Tb : TypeId} {cs : List Value} {ls : List Res} {lf : List Fact} (h : Lends ls lf) : Lends (.blk b Tb cs :: ls) (.rd (some ⟨b, 0, none⟩) cs :: lf) :=
  ⟨_, _, rfl, fun X W hs hx => rd_of_blk hs (hx b rfl), h⟩
theorem Jl.seal {b : Nat} {Tb : TypeId} {cs : List Value} {R' : List Res} (hd : Del (.blk b Tb cs) R R') (k : Jl P r C n ops Q rest env R' (.rd (some ⟨b, 0, none⟩) cs :: Φ)) : Jl P r C n ops Q rest env R Φ := fun a W he hs =>
  k a W he (sat_seal hs hd fun X hX => rd_of_blk (hd.sep hs.sep).1 (hX b rfl))
theorem Jl.sealR {e : TypeId} {s m cap : Nat} {A : Option Addr} {xs : List Value} {R' : List Res} (hd : Del (.row e s (.slice A m cap) m xs) R R') (k : Jl P r C n ops Q rest env R' (.rd A xs :: Φ)) : Jl P r C n ops Q rest env R Φ := fun a W he hs =>
  k a W he (sat_seal hs hd fun X hX => rd_of_row (hd.sep hs.sep).1 hX)
theorem row_cap {e : TypeId} {s m cap : Nat} {A : Option Addr} {xs : List Value} {W : World} (h : (Res.row e s (.slice A m cap) m xs).says W) : m ≤ cap := by
  have h' : W.ownsRow 0 e s (.slice A m cap) m xs := h
  rcases h'.2 with ⟨_, h1⟩ | ⟨_, _, _, h1, _, _, h2, _⟩
  · omega
  · cases h1; exact h2
/-- A row of one's own is written no more; it has room. -/
theorem Jl.sealC {e : TypeId} {s m cap : Nat} {A : Option Addr} {xs : List Value} {R' : List Res} (hd : Del (.row e s (.slice A m cap) m xs) R R') (k : m ≤ cap → Jl P r C n ops Q rest env R' (.rd A xs :: Φ)) : Jl P r C n ops Q rest env R Φ := fun a W he hs =>
  k (row_cap (hd.sep hs.sep).1) a W he (sat_seal hs hd fun X hX => rd_of_row (hd.sep hs.sep).1 hX)
theorem Jc.seal {b : Nat} {Tb : TypeId} {cs : List Value} {R' : List Res} (hd : Del (.blk b Tb cs) R R') (k : Jc P r C n Q c env R' (.rd (some ⟨b, 0, none⟩) cs :: Φ)) : Jc P r C n Q c env R Φ := fun a W he hs =>
  k a W he (sat_seal hs hd fun X hX => rd_of_blk (hd.sep hs.sep).1 (hX b rfl))
theorem Jc.sealR {e : TypeId} {s m cap : Nat} {A : Option Addr} {xs : List Value} {R' : List Res} (hd : Del (.row e s (.slice A m cap) m xs) R R') (k : Jc P r C n Q c env R' (.rd A xs :: Φ)) : Jc P r C n Q c env R Φ := fun a W he hs =>
  k a W he (sat_seal hs hd fun X hX => rd_of_row (hd.sep hs.sep).1 hX)
theorem Jc.drop {q : Res} {R' : List Res} (hd : Del q R R') (k : Jc P r C n Q c env R' Φ) : Jc P r C n Q c env R Φ := fun a W he hs => k a W he (hs.take (rs := [q]) ⟨_, hd, rfl⟩)
theorem Jl.drop {q : Res} {R' : List Res} (hd : Del q R R') (k : Jl P r C n ops Q rest env R' Φ) : Jl P r C n ops Q rest env R Φ := fun a W he hs => k a W he (hs.take (rs := [q]) ⟨_, hd, rfl⟩)
/-- A resource said in another way. -/
theorem Jl.rsay {q q' : Res} {R' : List Res} (hw : Swap q q' R R') (h : ∀ W, q.says W → q'.says W) (ho : ∀ b, q'.own b → q.own b) (k : Jl P r C n ops Q rest env R' Φ) : Jl P r C n ops Q rest env R Φ := fun a W he hs =>
  k a W he (hs.swap hw (Foreign.refl _ _) (h W (hw.old hs.sep)) fun b hb => .inl (ho b hb))
theorem Jc.rsay {q q' : Res} {R' : List Res} (hw : Swap q q' R R') (h : ∀ W, q.says W → q'.says W) (ho : ∀ b, q'.own b → q.own b) (k : Jc P r C n Q c env R' Φ) : Jc P r C n Q c env R Φ := fun a W he hs =>
  k a W he (hs.swap hw (Foreign.refl _ _) (h W (hw.old hs.sep)) fun b hb => .inl (ho b hb))
theorem blk_row {b : Nat} {e : TypeId} {cs : List Value} (s m : Nat) (hl : cs.length = m * s) (hm : m ≤ 1000000) (W : World) (h : (Res.blk b e cs).says W) : (Res.row e s (.slice (some ⟨b, 0, none⟩) m m) m cs).says W :=
  ⟨hl, .inr ⟨b, m, cs.toArray, rfl, Nat.zero_le _, h, Nat.le_refl _, by unfold maxLen; omega, by simpa using hl, by rw [← hl]; simp⟩⟩
theorem Jl.toRow {b : Nat} {e : TypeId} {cs : List Value} {R' : List Res} (s m : Nat) (hw : Swap (.blk b e cs) (.row e s (.slice (some ⟨b, 0, none⟩) m m) m cs) R R') (hl : cs.length = m * s) (hm : Nat.ble m 1000000 = true)
    (k : Jl P r C n ops Q rest env R' Φ) : Jl P r C n ops Q rest env R Φ :=
  Jl.rsay hw (blk_row s m hl (Nat.le_of_ble_eq_true hm)) (fun g hg => by simpa [Res.row, Value.ownBlock, Res.blk, eq_comm] using hg) k
/-- A nil slice is a row of one's own. -/
theorem Jl.nilRow (e : TypeId) (s : Nat) (k : Jl P r C n ops Q rest env (.row e s (.slice none 0 0) 0 [] :: R) Φ) : Jl P r C n ops Q rest env R Φ := fun a W he hs => by
  have hno : ∀ b, ¬ (Res.row e s (.slice none 0 0) 0 []).own b := fun b h => by simp [Res.row, Value.ownBlock] at h
  exact k a W he (hs.step (W' := W) (Foreign.refl _ _) ⟨World.ownsRow_nil _ _ _ _, fun b hb => (hno b hb).elim, hs.sep⟩ fun b hb => hb.elim (fun h => (hno b h).elim) .inl)
theorem Jc.nilRow (e : TypeId) (s : Nat) (k : Jc P r C n Q c env (.row e s (.slice none 0 0) 0 [] :: R) Φ) : Jc P r C n Q c env R Φ := fun a W he hs => by
  have hno : ∀ b, ¬ (Res.row e s (.slice none 0 0) 0 []).own b := fun b h => by simp [Res.row, Value.ownBlock] at h
  exact k a W he (hs.step (W' := W) (Foreign.refl _ _) ⟨World.ownsRow_nil _ _ _ _, fun b hb => (hno b hb).elim, hs.sep⟩ fun b hb => hb.elim (fun h => (hno b h).elim) .inl)

/-- A slice of literals. -/
theorem Jl.buildSlice {m : Nat} {ps : Array (Nat × Operand)} {vs cs zs : List Value} {e : TypeId} {s : Nat} (hv : opvs env (ps.toList.map (·.2)) = some vs) (hT : tslice P T' = some (e, s)) (hz : zrow P T' m = some zs)
    (hm : Nat.ble (m * s) 16777216 = true) (hf : fillL zs ((ps.toList.map fun p => (p.1 * s, s)).zip vs) = some cs)
    (k : ∀ b, Jl P r C n ops Q rest ((d, .slice (some ⟨b, 0, none⟩) m m) :: env) (.blk b e cs :: R) Φ) (hd : Nat.blt d n.1 = true := by rfl) :
    Jl P r C n ops Q (⟨some d, .buildSlice T' m ps, T, pos, af, none⟩ :: rest) env R Φ :=
  Jl.valx hd (by simp) fun a W he hs => by
    refine ⟨_, _, _, _, ?_, hs.new cs e, k _⟩
    have e1 : ps.map (fun (i, x) => (i, a.eval x)) = ((ps.toList.map (·.1)).zip vs).toArray := by
      apply Array.toList_inj.1
      simp only [Array.toList_map, ← opvs_eval he hv]
      induction ps.toList with
      | nil => rfl
      | cons p l ih => simp [ih]
    have hb := run_buildSlice (P := P) (w := W) (is := ps.toList.map (·.1)) (vs := vs) hT hz (Nat.le_of_ble_eq_true hm) (by simpa [Function.comp_def] using hf)
    simp only [execOp, e1, Sem.run_bind, hb, Result.andThen_ok, Sem.run_pure]
theorem PR.build {ps : Array (Nat × Operand)} {vs cs zs : List Value} {pl : List (Nat × Nat)} (hv : opvs env (ps.toList.map (·.2)) = some vs) (hz : tzero P T' = some zs) (hp : tplaces P T' (ps.toList.map (·.1)) = some pl)
    (hf : fillL zs (pl.zip vs) = some cs)
     : PR P C n env R Φ (.build T' ps) T (.agg cs.toArray) := fun a W he hs d pos af g => (by
    have e1 : ps.map (fun (i, x) => (i, a.eval x)) = ((ps.toList.map (·.1)).zip vs).toArray := by
      apply Array.toList_inj.1
      simp only [Array.toList_map, ← opvs_eval he hv]
      induction ps.toList with
      | nil => rfl
      | cons p l ih => simp [ih]
    simp only [execOp, e1, Sem.run_bind, run_build hz hp hf, Result.andThen_ok, Sem.run_pure])

/-- append to a row of one's own. -/
theorem Jl.append {s m cap mm c' bytes : Nat} {A B : Option Addr} {e : TypeId} {xs news : List Value} {zc : List Value} {R' : Option Addr → Nat → List Res} {ts : Array TypeId} (tot : Nat) (ys : List Value)
    (hx : opv env x = some (.slice A m cap)) (hy : opv env y = some (.slice B mm c')) (hts : ts = #[T', T'])
    (hT : tslice P T' = some (e, s)) (hz : tzero P e = some zc) (hzl : zc.length = s) (hs0 : 0 < s) (hb : P.bytesOf e = bytes)
    (hw : ∀ A' c', Swap (.row e s (.slice A m cap) m xs) (.row e s (.slice A' tot c') tot ys) R (R' A' c')) (hm : Mem (.rd B news) Φ) (htot : m + mm = tot) (hys : xs ++ news = ys) (hl : news.length = mm * s) (h1 : ∀ u ∈ news, u.oneCell' = true)
    (h63 : m + mm ≤ 100000000) (hby : bytes ≤ 1000000)
    (k : ∀ A' c', Jl P r C n ops Q rest ((d, .slice A' tot c') :: env) (R' A' c') Φ) (hd : Nat.blt d n.1 = true := by rfl) :
    Jl P r C n ops Q (⟨some d, .call { callee := .builtin .append, args := #[x, y], argTypes := ts }, T, pos, af, none⟩ :: rest) env R Φ :=
  Jl.valx hd (by simp) fun a W he hs => by
    subst hts htot hys
    obtain ⟨hu, inf, hi, hk⟩ := tslice_spec hT
    have hown : W.ownsRow 0 e s (.slice A m cap) m xs := (hw none 0).old hs.sep
    have hrd : Rd W 0 W.heap.size B news := fun j u hu => by
      obtain ⟨ad, h1, h2, _, h3⟩ := hs.fact hm j u hu
      exact ⟨ad, h1, Nat.zero_le _, h2, h3⟩
    have hzz : ∃ z, inf.zero = some z ∧ z.cells = zc.toArray := by
      unfold tzero at hz
      rw [hi] at hz
      cases h : inf.zero with
      | none => simp [h] at hz
      | some z => simp [h] at hz; exact ⟨z, rfl, by rw [← hz]⟩
    obtain ⟨z, hz1, hz2⟩ := hzz
    have hbb : inf.bytes = bytes := by simpa [Program.bytesOf, hi] using hb
    have hbnd : (m + mm) * bytes ≤ 140737488355328 := Nat.le_trans (Nat.mul_le_mul h63 hby) (by omega)
    obtain ⟨v', W', hrun, h2, h3, h4⟩ := run_append_src (P := P) W 0 T' T e inf z s bytes hu hi hz1 hk hbb (by rw [hz2]; simpa using hzl) hs0 (.slice A m cap) m xs hown 0 W.heap.size B mm c' news hl hrd h1
      (by unfold maxLen; omega) hbnd (Nat.zero_le _)
    obtain ⟨A', k', rfl, _⟩ := own_form h2
    refine ⟨_, W', R' A' k', Φ, ?_, hs.swap (hw A' k') ⟨h3.os, h3.tape, h3.output, h3.size, fun b hb hne => h3.block b hb fun e => hne (by simpa [Res.row] using e.symm)⟩ h2 (fun b hb => ?_), k A' k'⟩
    · simp only [execOp, resolve, invoke, builtin, Sem.run_bind, Sem.run_pure, Result.andThen_ok, List.map_toArray, List.map_cons, List.map_nil, he.eval hx, he.eval hy, hrun]
    · have hb' : (Value.slice A' (m + mm) k').ownBlock = some b := hb
      rcases h4 with h4 | h4
      · rw [h4] at hb'; exact .inl hb'
      · rw [h4] at hb'; injection hb' with hb'; exact .inr (Nat.le_of_eq hb')

/- parts of slices -/
theorem Jl.slice {A : Option Addr} {len cap s : Nat} {e : TypeId} {xs : List Value} {lo hi : Option Operand} (l h m : Nat) (ys : List Value) (hx : opv env x = some (.slice A len cap)) (hT : tslice P T' = some (e, s))
    (hlo : (match lo with | none => some (Value.int .i64 0) | some o => opv env o) = some (.int .i64 l)) (hhi : (match hi with | none => some (Value.int .i64 len) | some o => opv env o) = some (.int .i64 h))
    (hm : Mem (.rd A xs) Φ) (h1 : l ≤ h) (h2 : h ≤ len) (h3 : len ≤ cap) (hme : h - l = m) (hys : (xs.drop (l * s)).take (m * s) = ys)
    (k : ∀ A' c', c' = cap - l → Jl P r C n ops Q rest ((d, .slice A' m c') :: env) R (.rd A' ys :: Φ)) (hd : Nat.blt d n.1 = true := by rfl) :
    Jl P r C n ops Q (⟨some d, .slice T' x lo hi none, T, pos, af, none⟩ :: rest) env R Φ :=
  Jl.valx hd (by simp) fun a W he hs => by
    obtain ⟨hu, inf, hi', hk⟩ := tslice_spec hT
    subst hme hys
    refine ⟨_, W, R, _, ?_, hs.add ?_, k (if cap = l then A else A.map (·.add (l * s))) _ rfl⟩
    · have e1 : (Instr.sliceBounds true len cap (lo.map a.eval) (hi.map a.eval) none).run P W = .ok (l, h, cap) W := by
        have h5 : (0 : Int) ≤ h ∧ (h : Int) ≤ cap := by omega
        have h6 : (0 : Int) ≤ l ∧ (l : Int) ≤ h := by omega
        have h5' : h ≤ cap := by omega
        cases lo with
        | none =>
          have hl0 : l = 0 := by simp at hlo; omega
          subst hl0
          cases hi with
          | none =>
            have : h = len := by simp at hhi; omega
            subst this
            simp [Instr.sliceBounds]
          | some o => simp [Instr.sliceBounds, he.eval hhi, Instr.sliceBound, asIntOf, h5']
        | some o' =>
          cases hi with
          | none =>
            have : h = len := by simp at hhi; omega
            subst this
            simp [Instr.sliceBounds, he.eval hlo, Instr.sliceBound, asIntOf, h1]
          | some o => simp [Instr.sliceBounds, he.eval hhi, he.eval hlo, Instr.sliceBound, asIntOf, h5', h1]
      simp [execOp, he.eval hx, Instr.sliceAt, Instr.slice, run_underlying hu, e1, sizeOf, typeInfo, hi', hk]
    · intro j u hu'
      have hj : j < (h - l) * s := by
        have := (List.getElem?_eq_some_iff.1 hu').1
        simp at this
        omega
      rw [List.getElem?_take, if_pos hj, List.getElem?_drop] at hu'
      obtain ⟨ad, rfl, q1, q2, q3⟩ := hs.fact hm _ u hu'
      have hne : cap ≠ l := by
        intro e
        have : h - l = 0 := by omega
        rw [this] at hj
        simp at hj
      rw [if_neg hne]
      exact ⟨_, rfl, by rw [add_block]; exact q1, by rw [add_block]; exact q2, by rw [add_add]; exact q3⟩

/-- Bytes turned into a string. -/
theorem PR.str {A : Option Addr} {len cap : Nat} {e : TypeId} {l : List UInt8} {src dst : TypeId} (hx : opv env x = some (.slice A len cap)) (hs : P.underlying src = some (.slice e)) (he : P.underlying e = some (.int .u8)) (hdt : P.underlying dst = some .string)
    (hm : Mem (.rd A (u8s l)) Φ) (hl : l.length = len)  : PR P C n env R Φ (.convert src dst x) T (.string ⟨l.toArray⟩) := fun a W he' hsat d pos af g => (by
    subst hl
    have hrd : Rd W 0 W.heap.size A (u8s l) := fun j u hu => by
      obtain ⟨ad, h1, h2, _, h3⟩ := hsat.fact hm j u hu
      exact ⟨ad, h1, Nat.zero_le _, h2, h3⟩
    have := run_string (P := P) hs he hdt hrd cap
    simp [execOp, he'.eval hx, this])
theorem PR.seql {l l' : List UInt8} (t : Bool) (hx : opv env x = some (.string ⟨l.toArray⟩)) (hy : opv env y = some (.string ⟨l'.toArray⟩)) (ht : decide (l = l') = t)  : PR P C n env R Φ (.binOp .eql T' x y T') T (.bool t) := fun a W he _ d pos af g => (by
    subst ht
    have : ((⟨l.toArray⟩ : ByteArray).toList == (⟨l'.toArray⟩ : ByteArray).toList) = decide (l = l') := by
      rw [Bool.eq_iff_iff]; simp [Array.getD]
    simp [execOp, he.eval hx, he.eval hy, eqGuard, binOp, Op.stringOp, this]
    rw [Bool.eq_iff_iff]; simp)
end rules

/- the end of a function -/
def RetV (P : Program) (env : List (Nat × Value)) (R : List Res) : ResultVar → Value → Prop
  | .tmp t, v => elook t env = some v
  | .cell p ty, v => ∃ b T cs m, elook p env = some (.pointer (some ⟨b, 0, none⟩)) ∧ Has b T cs R ∧ ((tshape P ty = some (true, m) ∧ cs.length = m ∧ v = .agg cs.toArray) ∨ (tshape P ty = some (false, m) ∧ cs[0]? = some v))
def RetVs (P : Program) (env : List (Nat × Value)) (R : List Res) : List ResultVar → List Value → Prop
  | [], vs => vs = []
  | rv :: rvs, vs => ∃ v vs', vs = v :: vs' ∧ RetV P env R rv v ∧ RetVs P env R rvs vs'
theorem RetVs.nil {P : Program} {env : List (Nat × Value)} {R : List Res} : RetVs P env R [] [] := rfl
theorem RetVs.tmp {P : Program} {env : List (Nat × Value)} {R : List Res} {t : Nat} {v : Value} {rvs : List ResultVar} {vs : List Value} (h : elook t env = some v) (k : RetVs P env R rvs vs) : RetVs P env R (.tmp t :: rvs) (v :: vs) := ⟨v, vs, rfl, h, k⟩
theorem RetVs.cellA {P : Program} {env : List (Nat × Value)} {R : List Res} {p ty b m : Nat} {T : TypeId} {cs : List Value} {rvs : List ResultVar} {vs : List Value} (h : elook p env = some (.pointer (some ⟨b, 0, none⟩))) (hB : Has b T cs R)
    (hT : tshape P ty = some (true, m)) (hm : cs.length = m) (k : RetVs P env R rvs vs) : RetVs P env R (.cell p ty :: rvs) (.agg cs.toArray :: vs) := ⟨_, vs, rfl, ⟨b, T, cs, m, h, hB, .inl ⟨hT, hm, rfl⟩⟩, k⟩
theorem RetVs.cell1 {P : Program} {env : List (Nat × Value)} {R : List Res} {p ty b m : Nat} {T : TypeId} {cs : List Value} {v : Value} {rvs : List ResultVar} {vs : List Value} (h : elook p env = some (.pointer (some ⟨b, 0, none⟩))) (hB : Has b T cs R)
    (hT : tshape P ty = some (false, m)) (hv : cs[0]? = some v) (k : RetVs P env R rvs vs) : RetVs P env R (.cell p ty :: rvs) (v :: vs) := ⟨_, vs, rfl, ⟨b, T, cs, m, h, hB, .inr ⟨hT, hv⟩⟩, k⟩
def retval : List Value → Value
  | [v] => v
  | vs => .tuple vs.toArray

/-- A result, as it is read. -/
def rvSem (tmps : Array Value) : ResultVar → Sem Value
  | .tmp t => pure (tmps.getD t undef)
  | .cell a t => do loadVar t (← asAddr (tmps.getD a undef))
theorem results_rv (fn : Func) (tmps : Array Value) : results fn tmps = (do
    let vs ← fn.results.mapM (rvSem tmps)
    pure (if h : vs.size = 1 then vs[0] else .tuple vs)) := by
  have : (fun x => match x with
      | ResultVar.tmp t => pure (tmps.getD t undef)
      | ResultVar.cell a t => do loadVar t (← asAddr (tmps.getD a undef))) = rvSem tmps := by
    funext x; cases x <;> rfl
  unfold results
  rw [← this]
  rfl

theorem ret_run {P : Program} {n : Nat × List Nat} {env : List (Nat × Value)} {R : List Res} {X : Nat → Prop} {a : Act} {W W' : World} (he : Env n env a) (hs : Sep X W R) (hc : ∀ p, W'.cell? p = W.cell? p) :
    ∀ (rvs : List ResultVar) (vs : List Value), RetVs P env R rvs vs → (rvs.mapM (rvSem a.tmps)).run P W' = .ok vs W'
  | [], vs, h => by cases h; simp
  | rv :: rvs, _, ⟨v, vs, rfl, h, k⟩ => by
    have ih := ret_run he hs hc rvs vs k
    have hv : (rvSem a.tmps rv).run P W' = .ok v W' := by
      cases rv with
      | tmp t =>
        have := he.at_ t v h
        simp [rvSem, Array.getD_eq_getD_getElem?, this]
      | cell p ty =>
        obtain ⟨b, T, cs, m, h1, hB, h2⟩ := h
        have ht : a.tmps.getD p undef = .pointer (some ⟨b, 0, none⟩) := by
          have := he.at_ p _ h1
          simp [Array.getD_eq_getD_getElem?, this]
        have hb := hB.says hs
        have hl : (loadVar ty ⟨b, 0, none⟩).run P W' = .ok v W' := by
          rcases h2 with ⟨hT, hm, rfl⟩ | ⟨hT, hv⟩
          · have hl : (loadCells ⟨b, 0, none⟩ m).run P W' = .ok cs.toArray W' := by
              have := run_loadCells_list (P := P) W' ⟨b, 0, none⟩ cs (fun i u hu => by
                rw [add_none, hc, cell_of_row W b (0 + i) _ _ _ hb]
                simpa using hu)
              rwa [hm] at this
            simp [loadVar, run_isAgg_ts hT, run_sizeOf_ts hT, hl]
          · have hcell : W'.cell? ⟨b, 0, none⟩ = some v := by rw [hc, cell_of_row W b 0 _ _ _ hb]; simpa using hv
            simp [loadVar, run_isAgg_ts hT, hcell]
        show (do loadVar ty (← asAddr (a.tmps.getD p undef)) : Sem Value).run P W' = _
        rw [ht]
        simp [asAddr, hl]
    rw [List.mapM_cons, Sem.run_bind, hv]
    simp only [Result.andThen_ok, Sem.run_bind, ih, Sem.run_pure]

theorem Jq.fin {P : Program} {C : Cx} {nt : Nat} {env : List (Nat × Value)} {R : List Res} {Φ : List Fact} {fn : Func} {α : Type} {res : α → Value} {Rout : α → List Res} {post : α → List Fact} {R' : List Res} {rvs : List ResultVar} {vs : List Value} {e : Exit}
    (x : α) (he' : e = .ret ∨ e = .normal) (hrv : fn.results = rvs.toArray) (hr : RetVs P env R rvs vs) (hv : res x = retval vs) (ht : Take (Rout x) R R') (hp : FSub (post x) Φ) :
    Jq C (nt, []) (bodyPostM Fence.wide 0 P fn (Fin C res Rout post)) e env R Φ := fun a W he hs => by
  have key : LeavesInM Fence.wide 0 P fn a.tmps (Fin C res Rout post) a.defers .returning W := by
    rw [he.defers]
    refine marks_ret a.tmps [] W (by simp) (by simp) fun W' h1 h2 h3 h4 h5 h6 h7 => ?_
    have hrun := ret_run (P := P) he hs.sep h5 rvs vs hr
    have hre : (results fn a.tmps).run P W' = .ok (res x) W' := by
      rw [results_rv, hrv, Sem.run_bind, List.mapM_toArray, map_eq_pure_bind, Sem.run_bind, hrun, hv]
      simp only [Result.andThen_ok, Sem.run_pure]
      cases vs with
      | nil => simp [retval]
      | cons v vs => cases vs <;> simp [retval]
    have hfor : Foreign (ownL R) W W' := ⟨h1, h2, h3, Nat.le_of_eq h4.symm, fun b _ _ => h7 b (by simp)⟩
    have hs' : Sat C R Φ W' := hs.step hfor (hs.sep.keep fun b _ => h7 b (by simp)) fun b hb => .inl hb
    obtain ⟨h8, h9⟩ := ht.sep hs'.sep
    refine ⟨res x, hre, x, rfl, hs'.ev, ?_, fun b hb => hs'.ours b ((ht.own b).2 (.inl hb)), fun φ hφ => ?_⟩
    · have : ∀ {rs : List Res}, Sep (fun b => C.X0 b ∨ ownL R' b) W' rs → Sep C.X0 W' rs := by
        intro rs
        induction rs with
        | nil => exact id
        | cons q rs ih => exact fun h => ⟨h.1, fun b hb => ⟨fun hx => (h.2.1 b hb).1 (.inl hx), (h.2.1 b hb).2⟩, ih h.2.2⟩
      exact this h8
    · exact φ.fr _ _ W' W' (hs'.facts φ (hp.mem φ hφ)) (Foreign.refl _ _) fun b hb => .inl (hb.imp id fun h => (ht.own b).2 (.inl h))
  rcases he' with rfl | rfl <;> exact key
theorem Fact.rd_nil (A : Option Addr) (X : Nat → Prop) (W : World) : (Fact.rd A []).p X W := fun j u h => by simp at h
theorem Fact.rd_none {xs : List Value} {X : Nat → Prop} {W : World} (h : (Fact.rd none xs).p X W) : xs = [] := by
  cases xs with
  | nil => rfl
  | cons x xs => obtain ⟨a, h1, _⟩ := h 0 x rfl; cases h1
theorem Jq.nilRow {C : Cx} {n : Nat × List Nat} {Q : Exit → Act → World → Prop} {x : Exit} {env : List (Nat × Value)} {R : List Res} {Φ : List Fact} (e : TypeId) (s : Nat) (k : Jq C n Q x env (.row e s (.slice none 0 0) 0 [] :: R) Φ) : Jq C n Q x env R Φ := fun a W he hs => by
  have hno : ∀ b, ¬ (Res.row e s (.slice none 0 0) 0 []).own b := fun b h => by simp [Res.row, Value.ownBlock] at h
  exact k a W he (hs.step (W' := W) (Foreign.refl _ _) ⟨World.ownsRow_nil _ _ _ _, fun b hb => (hno b hb).elim, hs.sep⟩ fun b hb => hb.elim (fun h => (hno b h).elim) .inl)
theorem Jq.sealR {C : Cx} {n : Nat × List Nat} {Q : Exit → Act → World → Prop} {x : Exit} {env : List (Nat × Value)} {R : List Res} {Φ : List Fact} {e : TypeId} {s m cap : Nat} {A : Option Addr} {xs : List Value} {R' : List Res} (hd : Del (.row e s (.slice A m cap) m xs) R R') (k : Jq C n Q x env R' (.rd A xs :: Φ)) : Jq C n Q x env R Φ := fun a W he hs =>
  k a W he (sat_seal hs hd fun X hX => rd_of_row (hd.sep hs.sep).1 hX)
section more
variable {P : Program} {r : Option Nat} {C : Cx} {n : Nat × List Nat} {ops : Array Oper} {Q : Exit → Act → World → Prop} {rest : List Oper} {env : List (Nat × Value)} {R : List Res} {Φ : List Fact}
  {d : Nat} {T T' : TypeId} {pos : String} {af : Array Edge} {x y z : Operand} {u v : Value} {c : Code}
theorem Jl.bsplit {b : Bool} (h1 : b = true → Jl P r C n ops Q rest ((d, .bool true) :: env) R Φ) (h2 : b = false → Jl P r C n ops Q rest ((d, .bool false) :: env) R Φ) : Jl P r C n ops Q rest ((d, .bool b) :: env) R Φ := by
  cases b
  · exact h2 rfl
  · exact h1 rfl
theorem w64 {a : Int} (h1 : -9223372036854775808 ≤ a) (h2 : a ≤ 9223372036854775807) : IntKind.i64.wrap a = a := by rw [IntKind.wrap_i64]; omega
theorem getm {α : Type} {f : α → Value} {l : List α} {k : Nat} (h : k < l.length) : (l.map f)[k]? = some (f l[k]) := by simp [h]
theorem PR.idx1 {A : Option Addr} {len c : Nat} {e : TypeId} {kd : IntKind} {i : Int} {xs : List Value} (j : Nat) (hx : opv env x = some (.slice A len c)) (hy : opv env y = some (.int kd i)) (hT : tslice P T' = some (e, 1))
    (hm : Mem (.rd A xs) Φ) (hl : xs.length = len) (hi : i = j) (hj : j < len) : PR P C n env R Φ (.indexAddr T' x y) T (.pointer (A.map (·.add j))) := by
  have := PR.idx (P := P) (C := C) (n := n) (env := env) (R := R) (Φ := Φ) (T := T) j hx hy hT hm (by simpa using hl) (by decide) hi hj
  simpa using this
end more

end Go.Proofs.YtcppphgpbaablaaGreatDoor
