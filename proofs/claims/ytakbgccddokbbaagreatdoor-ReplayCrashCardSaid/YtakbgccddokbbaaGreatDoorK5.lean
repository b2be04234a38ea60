import Derived.Lib.Overlaps
import Derived.Lib.AppendZerosOnto
import Derived.KernelRfl
import Derived.Test.YtakbgccddokbbaaGreatDoorK4
set_option linter.unusedVariables false
namespace Go.Proofs.YtakbgccddokbbaaGreatDoor
open Go.RowKit
section
variable {P : Program} {r : Option Nat} {C : Cx} {n : Nat × List Nat} {ops : Array Oper} {Q : Exit → Act → World → Prop} {rest : List Oper} {env : List (Nat × Value)} {R R0 : List Res} {Φ : List Fact} {c : Code}
  {d : Nat} {T T' : TypeId} {pos : String} {af : Array Edge} {x y z : Operand} {e : TypeId} {g o s len cap : Nat} {cs cs' : List Value}
theorem Jc.openRow {A : Option Addr} {m : Nat} {xs : List Value} {R' : Nat → List Value → List Res} (hpos : 0 < xs.length) (hw : ∀ g cur, Swap (.row e s (.slice A m cap) m xs) (.blk g e cur) R (R' g cur))
 (k : ∀ g cur, A = some ⟨g, 0, none⟩ → cur.length = cap * s → cur.take (m * s) = xs → m ≤ cap → cap ≤ maxLen → Jc P r C n Q c env (R' g cur) Φ) : Jc P r C n Q c env R Φ := fun a W he hs => by
 have q1 := (hw 0 []).old hs.sep
 obtain ⟨g, cur, rfl, g1, g2, g3, g4, g5, g6⟩ := row_form (k := 0) q1 hpos
 refine k g cur.toList rfl (by simpa using g6) g2 g4 g5 a W he (hs.swap (hw g cur.toList) (Foreign.refl _ _) (by show _ = _; rw [g1]) fun b hb => .inl ?_)
 have hb' : b = g := hb
 subst hb'
 rfl
theorem blk_close {W : World} {ys : List Value} {m : Nat} (h : (Res.blk g e cs).says W) (hl : cs.length = cap * s) (hy : cs.take (m * s) = ys) (hm : m ≤ cap) (hc : cap ≤ maxLen) : (Res.row e s (.slice (some ⟨g, 0, none⟩) m cap) m ys).says W := by
 refine ⟨?_, .inr ⟨g, cap, cs.toArray, rfl, Nat.zero_le _, h, hm, hc, by simpa using hl, by simpa using hy⟩⟩
 rw [← hy, List.length_take, hl, Nat.min_eq_left (Nat.mul_le_mul_right s hm)]
theorem Jl.closeRow {ys : List Value} {R' : List Res} (m cap : Nat) (hw : Swap (.blk g e cs) (.row e s (.slice (some ⟨g, 0, none⟩) m cap) m ys) R R') (hl : cs.length = cap * s) (hy : cs.take (m * s) = ys) (hm : m ≤ cap) (hc : cap ≤ maxLen)
 (k : Jl P r C n ops Q rest env R' Φ) : Jl P r C n ops Q rest env R Φ :=
 Jl.rsay hw (fun W h => blk_close h hl hy hm hc) (fun b hb => by simpa [Res.row, Value.ownBlock, Res.blk, eq_comm] using hb) k
theorem Jq.closeRow {X : Exit} {ys : List Value} {R' : List Res} (m cap : Nat) (hw : Swap (.blk g e cs) (.row e s (.slice (some ⟨g, 0, none⟩) m cap) m ys) R R') (hl : cs.length = cap * s) (hy : cs.take (m * s) = ys) (hm : m ≤ cap) (hc : cap ≤ maxLen)
 (k : Jq C n Q X env R' Φ) : Jq C n Q X env R Φ := fun a W he hs =>
 k a W he (hs.swap hw (Foreign.refl _ _) (blk_close (hw.old hs.sep) hl hy hm hc) fun b hb => .inl (by simpa [Res.row, Value.ownBlock, Res.blk, eq_comm] using hb))
theorem PR.sliceB {lo hi mx : Option Operand} (l h m len' cap' o' : Nat) (hx : opv env x = some (.slice (some ⟨g, o, none⟩) len cap)) (hT : tslice P T' = some (e, s))
    (hlo : (match lo with | none => some (Value.int .i64 0) | some q => opv env q) = some (.int .i64 l)) (hhi : (match hi with | none => some (Value.int .i64 len) | some q => opv env q) = some (.int .i64 h))
    (hmx : (match mx with | none => some (Value.int .i64 cap) | some q => opv env q) = some (.int .i64 m)) (hhm : mx = none ∨ hi ≠ none) (h1 : l ≤ h) (h2 : h ≤ m) (h3 : m ≤ cap) (hl' : h - l = len') (hc' : m - l = cap') (ho : (if m = l then o else o + l * s) = o') :
    PR P C n env R Φ (.slice T' x lo hi mx) T (.slice (some ⟨g, o', none⟩) len' cap') := fun a W he _ d pos af gd => by
  obtain ⟨hu, inf, hi', hk⟩ := tslice_spec hT
  subst hl' hc' ho
  have e1 : (Instr.sliceBounds true len cap (lo.map a.eval) (hi.map a.eval) (mx.map a.eval)).run P W = .ok (l, h, m) W := by
    have em : (match mx.map a.eval with | some v => Instr.sliceBound v cap .slice3Acap | none => pure cap).run P W = .ok m W := by
      cases mx with
      | none => simp at hmx; have : m = cap := by omega
                subst this; rfl
      | some q => simp [he.eval hmx, Instr.sliceBound, asIntOf, h3]
    cases lo with
    | none =>
      have hl0 : l = 0 := by simp at hlo; omega
      subst hl0
      cases hi with
      | none =>
        have hm : mx = none := hhm.resolve_right (by simp)
        subst hm
        have : h = len := by simp at hhi; omega
        subst this
        have : m = cap := by simp at hmx; omega
        subst this
        simp [Instr.sliceBounds]
      | some q =>
        cases mx with
        | none =>
          have : m = cap := by simp at hmx; omega
          subst this
          simp [Instr.sliceBounds, he.eval hhi, Instr.sliceBound, asIntOf, h2]
        | some q2 => simp [Instr.sliceBounds, he.eval hhi, he.eval hmx, Instr.sliceBound, asIntOf, h2, h3]
    | some q' =>
      cases hi with
      | none =>
        have hm : mx = none := hhm.resolve_right (by simp)
        subst hm
        have : h = len := by simp at hhi; omega
        subst this
        have : m = cap := by simp at hmx; omega
        subst this
        simp [Instr.sliceBounds, he.eval hlo, Instr.sliceBound, asIntOf, h1]
      | some q =>
        cases mx with
        | none =>
          have : m = cap := by simp at hmx; omega
          subst this
          simp [Instr.sliceBounds, he.eval hhi, he.eval hlo, Instr.sliceBound, asIntOf, h1, h2]
        | some q2 => simp [Instr.sliceBounds, he.eval hhi, he.eval hlo, he.eval hmx, Instr.sliceBound, asIntOf, h1, h2, h3]
  have e2 : (if m = l then (some ⟨g, o, none⟩ : Option Addr) else (some ⟨g, o, none⟩ : Option Addr).map (·.add (l * s))) = some ⟨g, if m = l then o else o + l * s, none⟩ := by
    split
    · rfl
    · simp [add_none]
  simp [execOp, he.eval hx, Instr.sliceAt, Instr.slice, run_underlying hu, e1, sizeOf, typeInfo, hi', hk]
  simpa using e2
def over (cs : List Value) (o : Nat) (vs : List Value) : List Value := cs.take o ++ vs ++ cs.drop (o + vs.length)
theorem over_len {cs vs : List Value} {o : Nat} (h : o + vs.length ≤ cs.length) : (over cs o vs).length = cs.length := by simp [over]; omega
theorem store_run {W : World} {vs : List Value} (hb : W.heap[g]? = some (.cells cs.toArray e (0, 0))) (h1 : ∀ u ∈ vs, u.oneCell' = true) (hj : o + vs.length ≤ cs.length) :
 ∃ W', (storeCells ⟨g, o, none⟩ vs).run P W = .ok () W' ∧ W'.heap[g]? = some (.cells (over cs o vs).toArray e (0, 0)) ∧ Foreign (fun q => q = g) W W' := by
 obtain ⟨W', hr, h2, h3⟩ := run_storeCells_at' (P := P) W g o e vs 0 cs hb (by omega) h1
 exact ⟨W', hr, by simpa [over] using h2, h3⟩
inductive Src (R : List Res) (Φ : List Fact) : Value → List Value → Prop
 | rd {B : Option Addr} {m c : Nat} {vs : List Value} (h : Mem (.rd B vs) Φ) (hne : 0 < vs.length) : Src R Φ (.slice B m c) vs
 | blk {g2 o2 m c : Nat} {T2 : TypeId} {cs2 : List Value} (k : Nat) (h : Has g2 T2 cs2 R) (hk : o2 + k ≤ cs2.length) : Src R Φ (.slice (some ⟨g2, o2, none⟩) m c) ((cs2.drop o2).take k)
theorem Src.first {v : Value} {vs : List Value} (h : Src R Φ v vs) {W : World} (hs : Sat C R Φ W) {size k : Nat} (hl : vs.length = k * size) : (Builtin.firstCells size k v).run P W = .ok vs.toArray W := by
  cases h with
  | rd h hne =>
    obtain ⟨ad, rfl, _⟩ := hs.fact h 0 _ (List.getElem?_eq_getElem hne)
    refine run_firstCells_some W size k ad _ _ vs hl fun j v hj => ?_
    obtain ⟨ad', e1, _, _, q3⟩ := hs.fact h j v hj
    injection e1 with e1
    subst e1
    exact q3
  | blk k' h hk =>
    rename_i g2 o2 m c T2 cs2
    refine run_firstCells_some W size k ⟨g2, o2, none⟩ _ _ _ hl fun j v hj => ?_
    rw [add_none, cell_of_row W g2 (o2 + j) _ _ _ (h.says hs.sep)]
    rw [List.getElem?_take] at hj
    split at hj
    · rw [List.getElem?_drop] at hj; simpa using hj
    · cases hj
theorem Jl.copyB {vs : List Value} {R' : List Res} {dl dc ml mc : Nat} {B : Option Addr} {ts : Array TypeId} (k : Nat) (hx : opv env x = some (.slice (some ⟨g, o, none⟩) dl dc)) (hy : opv env y = some (.slice B ml mc)) (hts : ts = #[T', T']) (hT : tslice P T' = some (e, s))
 (hsrc : Src R Φ (.slice B ml mc) vs) (hk : Nat.min ml dl = k) (hl : vs.length = k * s) (h1 : ∀ u ∈ vs, u.oneCell' = true) (hj : o + vs.length ≤ cs.length) (hw : Swap (.blk g e cs) (.blk g e cs') R R') (hc : over cs o vs = cs')
 (j : Jl P r C n ops Q rest ((d, .int .i64 (k : Int)) :: env) R' Φ) (hd : Nat.blt d n.1 = true := by rfl) :
 Jl P r C n ops Q (⟨some d, .call { callee := .builtin .copy, args := #[x, y], argTypes := ts }, T, pos, af, none⟩ :: rest) env R Φ :=
 Jl.valx hd (by simp) fun a W he hs => by
  subst hts hk hc
  obtain ⟨hu, inf, hi, hsz⟩ := tslice_spec hT
  have hf := hsrc.first (P := P) hs hl
  obtain ⟨W', hr, h2, h3⟩ := store_run (P := P) (hw.old hs.sep) h1 hj
  refine ⟨_, W', R', Φ, ?_, hs.swap hw h3 h2 (fun b hb => .inl hb), j⟩
  have hrun : (Builtin.copy_ #[T', T'] T #[.slice (some ⟨g, o, none⟩) dl dc, .slice B ml mc]).run P W = .ok (goInt (Nat.min ml dl)) W' := by
   simp [Builtin.copy_, run_underlying hu, Builtin.lenOf, sizeOf, typeInfo, hi, hsz, hf, hr]
  simp only [execOp, resolve, invoke, builtin, Sem.run_bind, Sem.run_pure, Result.andThen_ok, List.map_toArray, List.map_cons, List.map_nil, he.eval hx, he.eval hy, hrun, goInt]
theorem Jl.appendB {vs : List Value} {R' : List Res} {m c0 mm mc : Nat} {B : Option Addr} {ts : Array TypeId} (tot : Nat) (hx : opv env x = some (.slice (some ⟨g, o, none⟩) m c0)) (hy : opv env y = some (.slice B mm mc)) (hts : ts = #[T', T']) (hT : tslice P T' = some (e, s))
 (hsrc : Src R Φ (.slice B mm mc) vs) (hfit : m + mm ≤ c0) (htot : m + mm = tot) (hl : vs.length = mm * s) (h1 : ∀ u ∈ vs, u.oneCell' = true) (hj : o + m * s + vs.length ≤ cs.length) (hw : Swap (.blk g e cs) (.blk g e cs') R R') (hc : over cs (o + m * s) vs = cs')
 (j : Jl P r C n ops Q rest ((d, .slice (some ⟨g, o, none⟩) tot c0) :: env) R' Φ) (hd : Nat.blt d n.1 = true := by rfl) :
 Jl P r C n ops Q (⟨some d, .call { callee := .builtin .append, args := #[x, y], argTypes := ts }, T, pos, af, none⟩ :: rest) env R Φ :=
 Jl.valx hd (by simp) fun a W he hs => by
  subst hts htot hc
  obtain ⟨hu, inf, hi, hsz⟩ := tslice_spec hT
  have hf := hsrc.first (P := P) hs hl
  obtain ⟨W', hr, h2, h3⟩ := store_run (P := P) (hw.old hs.sep) h1 hj
  refine ⟨_, W', R', Φ, ?_, hs.swap hw h3 h2 (fun b hb => .inl hb), j⟩
  have hrun : (Builtin.append_ #[T', T'] T #[.slice (some ⟨g, o, none⟩) m c0, .slice B mm mc]).run P W = .ok (.slice (some ⟨g, o, none⟩) (m + mm) c0) W' := by
   have hr' : (storeCells ((⟨g, o, none⟩ : Addr).add (m * s)) vs).run P W = .ok () W' := by rw [add_none]; exact hr
   simp [Builtin.append_, run_underlying hu, Builtin.lenOf, sizeOf, typeInfo, hi, hsz, hf, hfit, hr']
  simp only [execOp, resolve, invoke, builtin, Sem.run_bind, Sem.run_pure, Result.andThen_ok, List.map_toArray, List.map_cons, List.map_nil, he.eval hx, he.eval hy, hrun]
theorem Jl.actV {op : Op} {v : Value} (hnd : ∀ c, op ≠ .defer c)
 (hrun : ∀ a W, Env n env a → Sat C R Φ W → ∃ W' R' Φ', (execOp a.eval ⟨none, op, T, pos, af, none⟩).run P W = .ok (.value v) W' ∧ Sat C R' Φ' W' ∧ Jl P r C n ops Q rest env R' Φ') :
 Jl P r C n ops Q (⟨none, op, T, pos, af, none⟩ :: rest) env R Φ := fun a W he hs => by
 obtain ⟨W', R', Φ', h1, h2, h3⟩ := hrun a W he hs
 exact wpListIn_plain rfl fun K hK => oper_plain hnd (by rw [h1]; exact hK _ _ (h3 _ W' (he.skip _) h2))
theorem Jl.clearB {zc : List Value} {R' : List Value → List Res} {m c0 : Nat} {ts : Array TypeId} (hx : opv env x = some (.slice (some ⟨g, o, none⟩) m c0)) (hts : ts = #[T']) (hT : tslice P T' = some (e, s)) (hz : tzero P e = some zc) (hzl : zc.length = s) (hm : 0 < m)
 (h1 : ∀ u ∈ zc, u.oneCell' = true) (hj : o + m * s ≤ cs.length) (hw : ∀ cs', Swap (.blk g e cs) (.blk g e cs') R (R' cs'))
 (j : ∀ cs', cs'.length = cs.length → cs'.take o = cs.take o → Jl P r C n ops Q rest env (R' cs') Φ) :
 Jl P r C n ops Q (⟨none, .call { callee := .builtin .clear, args := #[x], argTypes := ts }, T, pos, af, none⟩ :: rest) env R Φ :=
 Jl.actV (v := .tuple #[]) (by simp) fun a W he hs => by
  subst hts
  obtain ⟨hu, inf, hi, hk⟩ := tslice_spec hT
  have hzz : ∃ z, inf.zero = some z ∧ z.cells = zc.toArray := by
   unfold tzero at hz
   rw [hi] at hz
   cases h : inf.zero with
   | none => simp [h] at hz
   | some z => simp [h] at hz; exact ⟨z, rfl, by rw [← hz]⟩
  obtain ⟨z, hz1, hz2⟩ := hzz
  have hzs : (Builtin.zeroCells zc.toArray m).toList.length = m * s := by rw [Array.length_toList, zeroCells_size]; simp [hzl]
  have hone : ∀ u ∈ (Builtin.zeroCells zc.toArray m).toList, u.oneCell' = true := by
   intro u hu
   simp only [Builtin.zeroCells, Array.toList_map, List.mem_map, Array.toList_range, List.mem_range] at hu
   obtain ⟨i, hi2, rfl⟩ := hu
   have hpos : 0 < zc.length := by
    rcases Nat.eq_zero_or_pos zc.length with h0 | h0
    · simp [h0] at hi2
    · exact h0
   have hlt : i % zc.toArray.size < zc.toArray.size := Nat.mod_lt _ (by simpa using hpos)
   rw [getElem!_pos zc.toArray _ hlt]
   exact h1 _ (by simp)
  have hb := (hw []).old hs.sep
  have hb' : W.heap[g]? = some (.cells cs.toArray e (0, 0)) := hb
  obtain ⟨W', hr, h2, h3⟩ := store_run (P := P) (o := o) hb' hone (by rw [hzs]; exact hj)
  refine ⟨W', _, Φ, ?_, hs.swap (hw (over cs o (Builtin.zeroCells zc.toArray m).toList)) h3 h2 (fun b hb => .inl hb), j _ (over_len (by rw [hzs]; exact hj)) ?_⟩
  · have hrun : (Builtin.clear_ #[T'] T #[.slice (some ⟨g, o, none⟩) m c0]).run P W = .ok (.tuple #[]) W' := by
     obtain ⟨m', rfl⟩ : ∃ m', m = m' + 1 := ⟨m - 1, by omega⟩
     simp [Builtin.clear_, run_underlying hu, zeroValue, typeInfo, hi, hz1, hz2, hr]
    simp only [execOp, resolve, invoke, builtin, Sem.run_bind, Sem.run_pure, Result.andThen_ok, List.map_toArray, List.map_cons, List.map_nil, he.eval hx, hrun]
  · simp [over, List.take_append_of_le_length, show o ≤ cs.length by omega]
theorem Jl.growB {mm m c0 : Nat} {tn : TypeId} {bytes : Nat} {zc : List Value} {kn kq : IntKind} (hx : opv env x = some (.slice (some ⟨g, o, none⟩) m c0)) (hy : opv env y = some (.int kq (mm : Int))) (hT : tslice P T' = some (e, s)) (hn : P.underlying tn = some (.int kn)) (hz : tzero P e = some zc) (hzl : zc.length = s) (hs0 : 0 < s)
 (hb : P.bytesOf e = bytes) (hB : Has g e cs R) (hj : o + m * s ≤ cs.length) (h0 : 0 < mm) (hg : c0 < m + mm) (h63 : m + mm ≤ 100000000) (hby : bytes ≤ 1000000) {tot : Nat} (htot : m + mm = tot)
 (k : ∀ g' cs' c', cs'.length = c' * s → cs'.take (m * s) = (cs.drop o).take (m * s) → tot ≤ c' → c' ≤ maxLen → Jl P r C n ops Q rest ((d, .slice (some ⟨g', 0, none⟩) tot c') :: env) (.blk g' e cs' :: R) Φ) (hd : Nat.blt d n.1 = true := by rfl) :
 Jl P r C n ops Q (⟨some d, .call { callee := .builtin .append, args := #[x, y], argTypes := #[T', tn] }, T, pos, af, none⟩ :: rest) env R Φ :=
 Jl.valx hd (by simp) fun a W he hs => by
  subst htot
  obtain ⟨hu, inf, hi, hk⟩ := tslice_spec hT
  have hzz : ∃ z, inf.zero = some z ∧ z.cells = zc.toArray := by
   unfold tzero at hz
   rw [hi] at hz
   cases h : inf.zero with
   | none => simp [h] at hz
   | some z => simp [h] at hz; exact ⟨z, rfl, by rw [← hz]⟩
  obtain ⟨z, hz1, hz2⟩ := hzz
  have hbb : inf.bytes = bytes := by simpa [Program.bytesOf, hi] using hb
  have hbnd : (m + mm) * bytes ≤ 140737488355328 := Nat.le_trans (Nat.mul_le_mul h63 hby) (by omega)
  have hmb : mm * bytes ≤ (m + mm) * bytes := Nat.mul_le_mul_right _ (by omega)
  have hfit : Builtin.nextslicecap (m + mm) c0 * bytes ≤ 281474976710656 := growslice_fits hg hbnd
  have hvl : ((cs.drop o).take (m * s)).length = m * s := by simp; omega
  have hold : (Builtin.firstCells inf.size m (.slice (some ⟨g, o, none⟩) m c0)).run P W.drew = .ok ((cs.drop o).take (m * s)).toArray W.drew := by
   rw [hk]
   exact (Src.blk (m := m) (c := c0) (m * s) hB hj : Src R Φ _ _).first (P := P) (hs.grow (Foreign.drew _ W)) hvl
  have hrun := Go.Lib.run_append_grow_zeros (P := P) W T' tn T e inf z kq kn hu hn hi hz1 (some ⟨g, o, none⟩) m c0 _ hold mm h0 (by rw [hk]; exact hs0) hg (by omega) (by rw [hbb]; omega) (by rw [hbb]; exact hfit)
  have hge := grownCap_ge W (m + mm) c0 e
  have hle := grownCap_le_maxLen W (m + mm) c0 e (by unfold maxLen; omega)
  obtain ⟨cap', hcap⟩ : ∃ cap', grownCap W (m + mm) c0 e = cap' := ⟨_, rfl⟩
  rw [hcap] at hrun hge hle
  obtain ⟨news, hnews⟩ : ∃ news, news = ((cs.drop o).take (m * s)).toArray ++ Builtin.zeroCells z.cells mm ++ Builtin.zeroCells z.cells (cap' - (m + mm)) := ⟨_, rfl⟩
  rw [← hnews] at hrun
  have hsz : news.size = cap' * s := by
   rw [hnews, Array.size_append, Array.size_append, zeroCells_size, zeroCells_size, hz2]
   simp only [List.size_toArray, hvl, hzl]
   rw [← Nat.add_mul, ← Nat.add_mul]
   congr 1
   omega
  refine ⟨_, W.drew.alloc (.cells news e), .blk W.heap.size e news.toList :: R, Φ, ?_, ?_, k W.heap.size news.toList cap' (by simpa using hsz) ?_ hge hle⟩
  · simp only [execOp, resolve, invoke, builtin, Sem.run_bind, Sem.run_pure, Result.andThen_ok, List.map_toArray, List.map_cons, List.map_nil, he.eval hx, he.eval hy, hrun]
  · refine (hs.grow (Foreign.drew _ W)).step (W' := W.drew.alloc _) (Foreign.alloc _ W.drew _) ⟨by show _ = _; rw [show W.heap.size = W.drew.heap.size from rfl, World.alloc_heap_new W.drew _], fun b hb => ?_, (hs.grow (Foreign.drew _ W)).sep.keep fun b hb => Below.heap_alloc W.drew _ b (hs.sep.lt b hb)⟩ fun b hb => ?_
    · have hb' : b = W.heap.size := hb
      subst hb'
      exact ⟨fun hx => absurd (hs.x0lt _ hx) (Nat.lt_irrefl _), fun hx => absurd (hs.sep.lt _ hx) (Nat.lt_irrefl _)⟩
    · rcases hb with hb | hb
      · exact .inr (Nat.le_of_eq (show b = W.heap.size from hb).symm)
      · exact .inl hb
  · rw [hnews]
    simp only [Array.toList_append, List.toList_toArray, List.append_assoc]
    rw [List.take_append_of_le_length (by rw [hvl]; exact Nat.le_refl _), List.take_of_length_le (by rw [hvl]; exact Nat.le_refl _)]
theorem Jc.rowCap {A : Option Addr} {m : Nat} {xs : List Value} {R' : List Res} (hd : Del (.row e s (.slice A m cap) m xs) R R') (k : m ≤ cap → Jc P r C n Q c env R Φ) : Jc P r C n Q c env R Φ := fun a W he hs =>
 k (row_cap (hd.sep hs.sep).1) a W he hs
theorem Jc.rdNil (A : Option Addr) (k : Jc P r C n Q c env R (.rd A [] :: Φ)) : Jc P r C n Q c env R Φ := fun a W he hs =>
 k a W he (hs.add (φ := .rd A []) (by intro j u h; simp at h))
theorem Jl.overB {f : FuncId} {tR : TypeId} {zas : Array Operand} {ts : Array TypeId} {g2 o2 la ca lb cb : Nat} {e2 : TypeId} {cs2 : List Value} {R2 : List Res} (has : zas = #[x, y]) (hx : opv env x = some (.slice (some ⟨g2, o2, none⟩) la ca)) (hy : opv env y = some (.slice (some ⟨g, o, none⟩) lb cb)) (hT : tslice P T' = some (e, s))
 (hf : ∀ args w, (callFunc f args).run P w = ((Extern.SlicesOverlaps.overlaps #[T', T'] #[tR] args).run P w).andThen fun v w' => .ok (.value v) w')
 (hA : Del (.blk g2 e2 cs2) R R2) (hB : Has g e cs R2) (hl : 0 < cs.length)
 (j : Jl P r C n ops Q rest ((d, .bool false) :: env) R Φ) (hd : Nat.blt d n.1 = true := by rfl) :
 Jl P r C n ops Q (⟨some d, .call { callee := .value (.func f), args := zas, argTypes := ts }, T, pos, af, none⟩ :: rest) env R Φ :=
 Jl.valx hd (by simp) fun a W he hs => by
  subst has
  obtain ⟨hu, inf, hi, hk⟩ := tslice_spec hT
  refine ⟨_, W, R, Φ, ?_, hs, j⟩
  obtain ⟨hb2, hnx, hs2⟩ := hA.sep hs.sep
  have hb2 : W.heap[g2]? = some (.cells cs2.toArray e2 (0, 0)) := hb2
  have hb := hB.says hs2
  have hne : g2 ≠ g := fun h => (hnx g2 rfl).2 (h ▸ hB.own)
  have hov := Go.Lib.run_overlaps_apart (P := P) W T' tR e hu s (fun w => by simp [sizeOf, typeInfo, hi, hk]) ⟨g2, o2, none⟩ ⟨g, o, none⟩ la ca lb cb hne e2 e cs2.length cs.length (by simp [World.shape?, hb2]) (by simp [World.shape?, hb]) (by omega) (by simp [World.frozen?, hb2]) (by simp [World.frozen?, hb2])
  have e0 : a.eval (.func f) = .func (.func f) #[] #[] := rfl
  simp [execOp, resolve, e0, Deferred.ofValue, invoke, hf, he.eval hx, he.eval hy, hov]
end
end Go.Proofs.YtakbgccddokbbaaGreatDoor
namespace Go.Proofs.YtakbgccddokbbaaGreatDoor
open Go.RowKit
attribute [local irreducible] Res.blk Res.row Fact.rd
theorem del_src {cur xs : List Value} {i n s : Nat} (hct : cur.take (n * s) = xs) (hi : i < n) : (cur.drop ((i + 1) * s)).take ((n - (i + 1)) * s) = xs.drop ((i + 1) * s) := by
 rw [← hct, List.drop_take, Nat.sub_mul]
theorem del_cells {cur xs V : List Value} {i n s : Nat} (hct : cur.take (n * s) = xs) (hi : i < n) (hcl : n * s ≤ cur.length) (hV : V = xs.drop ((i + 1) * s)) : (over cur (i * s) V).take ((n - 1) * s) = xs.take (i * s) ++ V := by
 have h1 : i * s ≤ n * s := Nat.mul_le_mul_right s (by omega)
 have hxl : xs.length = n * s := by rw [← hct, List.length_take]; omega
 have h2 : V.length = (n - 1) * s - i * s := by rw [hV, List.length_drop, hxl, ← Nat.sub_mul, ← Nat.sub_mul]; congr 1; omega
 have h3 : i * s ≤ (n - 1) * s := Nat.mul_le_mul_right s (by omega)
 have h4 : (cur.take (i * s) ++ V).length = (n - 1) * s := by rw [List.length_append, List.length_take, h2]; omega
 rw [over, List.take_append_of_le_length (by omega), List.take_of_length_le (by omega)]
 congr 1
 rw [← hct, List.take_take, Nat.min_eq_left h1]
theorem kdelete_ct (K : Option Addr) (cK : Nat) (l : List Kp) (i : Nat) (hi : i < l.length) (hn : l.length ≤ 1000000) : Ct Tryz.prog 92 [.slice K l.length cK, .int .i64 (i : Int), .int .i64 ((i + 1 : Nat) : Int)] [.row 72 8 (.slice K l.length cK) l.length (kpsV l)] []
 (fun _ : Unit => .slice K (l.length - 1) cK) (fun _ => [.row 72 8 (.slice K (l.length - 1) cK) (l.length - 1) (kpsV (l.take i ++ l.drop (i + 1)))]) (fun _ => []) := by
 have hl8 := kpsV_len l
 have hld : (kpsV (l.drop (i + 1))).length = (l.length - (i + 1)) * 8 := by rw [kpsV_len, List.length_drop]
 refine Ct.of _ Tryz.func92 Tryz.ntmps92 rfl rfl (fun X W => ?_)
 refine Jc.openRow (R' := fun g cur => [.blk g 72 cur]) (by omega) (fun g cur => Swap.here) (fun g cur hK hcl hct hnc hcm => ?_)
 subst hK
 have hsr := del_src (s := 8) hct hi
 have hvs : (cur.drop (if cK = i + 1 then 0 else 0 + (i + 1) * 8)).take ((l.length - (i + 1)) * 8) = kpsV (l.drop (i + 1)) := by
  rw [← kpsV_drop]
  split
  · rw [show l.length - (i + 1) = 0 by omega, Nat.zero_mul, List.take_zero, List.drop_of_length_le (by omega)]
  · rw [Nat.zero_add]; exact hsr
 have hfin := del_cells (s := 8) (V := kpsV (l.drop (i + 1))) hct hi (by omega) (kpsV_drop l (i + 1)).symm
 have hov : (over cur (0 + i * 8) (kpsV (l.drop (i + 1)))).length = cK * 8 := by rw [over_len (by omega)]; exact hcl
 refine Jc.qs<|Jc.qr<|Jl.pv (PR.qa rfl)<|Jl.qn<|Jq.qt<|Jc.qs<|Jc.qr<|Jl.pv (PR.qm rfl)<|Jl.pv (PR.qm rfl)<|Jl.pv (PR.qm rfl)<|Jl.pv (PR.qm rfl) ?_
 refine Jl.pv (PR.len rfl tsl34) ?_
 refine Jl.pv (PR.sliceB i (i + 1) l.length 1 (l.length - i) (i * 8) rfl tsl34 rfl rfl rfl (by first | exact .inl rfl | exact .inr (by simp)) (by omega) (by omega) hnc (by omega) rfl (by rw [if_neg (by omega), Nat.zero_add])) ?_
 refine Jl.qn<|Jq.qt<|Jc.qs<|Jc.qs<|Jc.qr<|Jl.pv (PR.qm rfl)<|Jl.pv (PR.qm rfl) ?_
 refine Jl.pv (PR.eql false rfl rfl (decide_eq_false (by omega))) ?_
 refine Jl.qn<|Jq.qt<|Jc.condF rfl<|Jc.skip<|Jq.qt<|Jc.qs<|Jc.qr<|Jl.pv (PR.qm rfl) ?_
 refine Jl.pv (PR.len rfl tsl34) ?_
 refine Jl.pv (PR.qa rfl)<|Jl.qn<|Jq.qt<|Jc.qs ?_
 refine Jc.drawn [0, 0, 3, 0, 0, 24, 63, 127] ([(7, false)], []) [⟨[(0, false), (1, false), (2, false), (3, false), (4, false), (5, false)], [], 6⟩] tmx (by kernel_rfl) ?_
 refine Dh.JH.cons<|Dh.JB.pv rfl trivial (fun _ => PR.qm rfl)<|Dh.JB.pv rfl trivial (fun _ => PR.qm rfl) ?_
 refine Dh.JB.pv rfl trivial (fun _ => PR.sliceB 0 i cK i cK 0 rfl tsl34 rfl rfl rfl (by first | exact .inl rfl | exact .inr (by simp)) (Nat.zero_le _) (by omega) (Nat.le_refl _) rfl rfl (by split <;> simp)) ?_
 refine Dh.JB.pv rfl trivial (fun _ => PR.qm rfl)<|Dh.JB.pv rfl trivial (fun _ => PR.qm rfl) ?_
 refine Dh.JB.pv rfl trivial (fun _ => PR.sliceB (i + 1) l.length cK (l.length - (i + 1)) (cK - (i + 1)) (if cK = i + 1 then 0 else 0 + (i + 1) * 8) rfl tsl34 rfl rfl rfl (by first | exact .inl rfl | exact .inr (by simp)) (by omega) hnc (Nat.le_refl _) rfl rfl rfl) ?_
 refine Dh.JB.nil<|Dh.JL.nil ?_
 refine Dh.JE.mk rfl (fun _ h => by cases h) (fun C5_6 => ?_)
 refine Jl.appendB (cs := cur) (vs := kpsV (l.drop (i + 1))) (l.length - 1) rfl rfl rfl tsl34 (hvs ▸ Src.blk ((l.length - (i + 1)) * 8) zH (by split <;> omega)) (by omega) (by omega) hld (kps_one _) (by omega) zS rfl ?_
 refine Jl.qn ?_
 refine Dh.Jq.segV zX ?_ zK
 refine Dh.JH.nil ?_
 refine Dh.JB.pv rfl trivial (fun _ => PR.qa rfl) ?_
 refine Dh.JB.nil<|Dh.JL.nil<|Jq.qt<|Jc.qs<|Jc.qr<|Jl.pv (PR.qm rfl)<|Jl.pv (PR.qm rfl) ?_
 refine Jl.pv (PR.len rfl tsl34) ?_
 refine Jl.pv (PR.qm rfl) ?_
 refine Jl.pv (PR.sliceB (l.length - 1) l.length cK 1 (cK - (l.length - 1)) ((l.length - 1) * 8) rfl tsl34 rfl rfl rfl (by first | exact .inl rfl | exact .inr (by simp)) (by omega) hnc (Nat.le_refl _) (by omega) rfl (by rw [if_neg (by omega), Nat.zero_add])) ?_
 refine Jl.clearB (cs := over cur (0 + i * 8) (kpsV (l.drop (i + 1)))) rfl rfl tsl34 tze72 (by rfl) (by omega) (by simp [Value.oneCell']) (by omega) (fun _ => zS) ?_
 intro cs6_5 hl6_5 ht6_5
 refine Jl.qn<|Jq.qt<|Jc.qs<|Jc.qr<|Jl.pv (PR.qm rfl)<|Jl.pv (PR.qa rfl)<|Jl.qn<|Jq.qt<|Jc.ret ?_
 refine Jq.closeRow (ys := kpsV (l.take i ++ l.drop (i + 1))) (l.length - 1) cK zS (hl6_5.trans hov) (by rw [ht6_5, Nat.zero_add, hfin, kpsV_take, kpsV_app]) (by omega) hcm ?_
 exact Jq.fin () (.inl rfl) rfl (RetVs.tmp rfl RetVs.nil) rfl zT zF
theorem tdelete_ct (K : Option Addr) (cK : Nat) (l : List It1) (i : Nat) (hi : i < l.length) (hn : l.length ≤ 1000000) : Ct Tryz.prog 117 [.slice K l.length cK, .int .i64 (i : Int), .int .i64 ((i + 1 : Nat) : Int)] [.row 70 4 (.slice K l.length cK) l.length (itsV l)] []
 (fun _ : Unit => .slice K (l.length - 1) cK) (fun _ => [.row 70 4 (.slice K (l.length - 1) cK) (l.length - 1) (itsV (l.take i ++ l.drop (i + 1)))]) (fun _ => []) := by
 have hl8 := itsV_len l
 have hld : (itsV (l.drop (i + 1))).length = (l.length - (i + 1)) * 4 := by rw [itsV_len, List.length_drop]
 refine Ct.of _ Tryz.func117 Tryz.ntmps117 rfl rfl (fun X W => ?_)
 refine Jc.openRow (R' := fun g cur => [.blk g 70 cur]) (by omega) (fun g cur => Swap.here) (fun g cur hK hcl hct hnc hcm => ?_)
 subst hK
 have hsr := del_src (s := 4) hct hi
 have hvs : (cur.drop (if cK = i + 1 then 0 else 0 + (i + 1) * 4)).take ((l.length - (i + 1)) * 4) = itsV (l.drop (i + 1)) := by
  rw [← itsV_drop]
  split
  · rw [show l.length - (i + 1) = 0 by omega, Nat.zero_mul, List.take_zero, List.drop_of_length_le (by omega)]
  · rw [Nat.zero_add]; exact hsr
 have hfin := del_cells (s := 4) (V := itsV (l.drop (i + 1))) hct hi (by omega) (itsV_drop l (i + 1)).symm
 have hov : (over cur (0 + i * 4) (itsV (l.drop (i + 1)))).length = cK * 4 := by rw [over_len (by omega)]; exact hcl
 refine Jc.qs<|Jc.qr<|Jl.pv (PR.qa rfl)<|Jl.qn<|Jq.qt<|Jc.qs<|Jc.qr<|Jl.pv (PR.qm rfl)<|Jl.pv (PR.qm rfl)<|Jl.pv (PR.qm rfl)<|Jl.pv (PR.qm rfl) ?_
 refine Jl.pv (PR.len rfl tsl33) ?_
 refine Jl.pv (PR.sliceB i (i + 1) l.length 1 (l.length - i) (i * 4) rfl tsl33 rfl rfl rfl (by first | exact .inl rfl | exact .inr (by simp)) (by omega) (by omega) hnc (by omega) rfl (by rw [if_neg (by omega), Nat.zero_add])) ?_
 refine Jl.qn<|Jq.qt<|Jc.qs<|Jc.qs<|Jc.qr<|Jl.pv (PR.qm rfl)<|Jl.pv (PR.qm rfl) ?_
 refine Jl.pv (PR.eql false rfl rfl (decide_eq_false (by omega))) ?_
 refine Jl.qn<|Jq.qt<|Jc.condF rfl<|Jc.skip<|Jq.qt<|Jc.qs<|Jc.qr<|Jl.pv (PR.qm rfl) ?_
 refine Jl.pv (PR.len rfl tsl33) ?_
 refine Jl.pv (PR.qa rfl)<|Jl.qn<|Jq.qt<|Jc.qs ?_
 refine Jc.drawn [0, 0, 3, 0, 0, 24, 63, 127] ([(7, false)], []) [⟨[(0, false), (1, false), (2, false), (3, false), (4, false), (5, false)], [], 6⟩] tmx (by kernel_rfl) ?_
 refine Dh.JH.cons<|Dh.JB.pv rfl trivial (fun _ => PR.qm rfl)<|Dh.JB.pv rfl trivial (fun _ => PR.qm rfl) ?_
 refine Dh.JB.pv rfl trivial (fun _ => PR.sliceB 0 i cK i cK 0 rfl tsl33 rfl rfl rfl (by first | exact .inl rfl | exact .inr (by simp)) (Nat.zero_le _) (by omega) (Nat.le_refl _) rfl rfl (by split <;> simp)) ?_
 refine Dh.JB.pv rfl trivial (fun _ => PR.qm rfl)<|Dh.JB.pv rfl trivial (fun _ => PR.qm rfl) ?_
 refine Dh.JB.pv rfl trivial (fun _ => PR.sliceB (i + 1) l.length cK (l.length - (i + 1)) (cK - (i + 1)) (if cK = i + 1 then 0 else 0 + (i + 1) * 4) rfl tsl33 rfl rfl rfl (by first | exact .inl rfl | exact .inr (by simp)) (by omega) hnc (Nat.le_refl _) rfl rfl rfl) ?_
 refine Dh.JB.nil<|Dh.JL.nil ?_
 refine Dh.JE.mk rfl (fun _ h => by cases h) (fun C5_6 => ?_)
 refine Jl.appendB (cs := cur) (vs := itsV (l.drop (i + 1))) (l.length - 1) rfl rfl rfl tsl33 (hvs ▸ Src.blk ((l.length - (i + 1)) * 4) zH (by split <;> omega)) (by omega) (by omega) hld (its_one _) (by omega) zS rfl ?_
 refine Jl.qn ?_
 refine Dh.Jq.segV zX ?_ zK
 refine Dh.JH.nil ?_
 refine Dh.JB.pv rfl trivial (fun _ => PR.qa rfl) ?_
 refine Dh.JB.nil<|Dh.JL.nil<|Jq.qt<|Jc.qs<|Jc.qr<|Jl.pv (PR.qm rfl)<|Jl.pv (PR.qm rfl) ?_
 refine Jl.pv (PR.len rfl tsl33) ?_
 refine Jl.pv (PR.qm rfl) ?_
 refine Jl.pv (PR.sliceB (l.length - 1) l.length cK 1 (cK - (l.length - 1)) ((l.length - 1) * 4) rfl tsl33 rfl rfl rfl (by first | exact .inl rfl | exact .inr (by simp)) (by omega) hnc (Nat.le_refl _) (by omega) rfl (by rw [if_neg (by omega), Nat.zero_add])) ?_
 refine Jl.clearB (cs := over cur (0 + i * 4) (itsV (l.drop (i + 1)))) rfl rfl tsl33 tze70 (by rfl) (by omega) (by simp [Value.oneCell']) (by omega) (fun _ => zS) ?_
 intro cs6_5 hl6_5 ht6_5
 refine Jl.qn<|Jq.qt<|Jc.qs<|Jc.qr<|Jl.pv (PR.qm rfl)<|Jl.pv (PR.qa rfl)<|Jl.qn<|Jq.qt<|Jc.ret ?_
 refine Jq.closeRow (ys := itsV (l.take i ++ l.drop (i + 1))) (l.length - 1) cK zS (hl6_5.trans hov) (by rw [ht6_5, Nat.zero_add, hfin, itsV_take, itsV_app]) (by omega) hcm ?_
 exact Jq.fin () (.inl rfl) rfl (RetVs.tmp rfl RetVs.nil) rfl zT zF
end Go.Proofs.YtakbgccddokbbaaGreatDoor
namespace Go.Proofs.YtakbgccddokbbaaGreatDoor
open Go.RowKit
attribute [local irreducible] Res.blk Res.row Fact.rd
theorem Src.blk' {R : List Res} {Φ : List Fact} {g2 o2 m c : Nat} {T2 : TypeId} {cs2 vs : List Value} (k : Nat) (h : Has g2 T2 cs2 R) (hk : o2 + k ≤ cs2.length) (hv : (cs2.drop o2).take k = vs) : Src R Φ (.slice (some ⟨g2, o2, none⟩) m c) vs := hv ▸ Src.blk k h hk
theorem ins_src {cur xs : List Value} {i n s : Nat} (hct : cur.take (n * s) = xs) (hi : i ≤ n) : (cur.drop (i * s)).take ((n - i) * s) = xs.drop (i * s) := by
 rw [← hct, List.drop_take, Nat.sub_mul]
theorem over_take {cs vs : List Value} {o k : Nat} (h : k ≤ o) (ho : o ≤ cs.length) : (over cs o vs).take k = cs.take k := by
 rw [over, List.append_assoc, List.take_append_of_le_length (by rw [List.length_take]; omega), List.take_take, Nat.min_eq_left h]
theorem over_take' {cs vs : List Value} {o k : Nat} (h : k = o + vs.length) (ho : o ≤ cs.length) : (over cs o vs).take k = cs.take o ++ vs := by
 have h1 : (cs.take o ++ vs).length = k := by rw [List.length_append, List.length_take]; omega
 rw [over, ← h1, List.take_left']
 rfl
theorem over_drop {cs vs : List Value} {o k : Nat} (h : k = o) (ho : o ≤ cs.length) : (over cs o vs).drop k = vs ++ cs.drop (o + vs.length) := by
 subst h
 rw [over, List.append_assoc, List.drop_left']
 rw [List.length_take]; omega
theorem ins_grow {cs A xv V : List Value} {i n s : Nat} (hA : cs.take (i * s) = A) (hi : i < n) (hcl : (n + 1) * s ≤ cs.length) (hx : xv.length = s) (hV : V.length = (n - i) * s) :
 (over (over cs (i * s) xv) ((i + 1) * s) V).take ((n + 1) * s) = A ++ xv ++ V := by
 have e1 : (i + 1) * s = i * s + s := Nat.succ_mul i s
 have e2 : (n + 1) * s = i * s + s + (n - i) * s := by rw [← e1, ← Nat.add_mul]; congr 1; omega
 have hl : (over cs (i * s) xv).length = cs.length := over_len (by omega)
 rw [over_take' (by omega) (by omega), over_take' (by omega) (by omega), hA]
theorem ins_room {cs A xv V : List Value} {i n s : Nat} (hA : cs.take (i * s) = A) (hi : i < n) (hcl : (n + 1) * s ≤ cs.length) (hx : xv.length = s) (hV : V.length = (n - i) * s) :
 (over (over cs ((i + 1) * s) V) (i * s) xv).take ((n + 1) * s) = A ++ xv ++ V := by
 have e1 : (i + 1) * s = i * s + s := Nat.succ_mul i s
 have e2 : (n + 1) * s = i * s + s + (n - i) * s := by rw [← e1, ← Nat.add_mul]; congr 1; omega
 have hl : (over cs ((i + 1) * s) V).length = cs.length := over_len (by omega)
 rw [over, over_take (by omega) (by omega), hA, over_drop (by omega) (by omega), ← List.append_assoc, List.take_left']
 rw [List.length_append, List.length_append, ← hA, List.length_take]; omega
theorem kinsert_ct (K : Option Addr) (cK : Nat) (l : List Kp) (i gv : Nat) (x : Kp) (hi : i ≤ l.length) (hn : l.length ≤ 1000000) : Ct Tryz.prog 141 [.slice K l.length cK, .int .i64 (i : Int), .slice (some ⟨gv, 0, none⟩) 1 1] [.row 72 8 (.slice K l.length cK) l.length (kpsV l), .blk gv 72 (kpsV [x])] []
 (fun p : Option Addr × Nat => .slice p.1 (l.length + 1) p.2) (fun p => [.row 72 8 (.slice p.1 (l.length + 1) p.2) (l.length + 1) (kpsV (l.take i ++ x :: l.drop i))]) (fun _ => []) := by
 have hl8 := kpsV_len l
 have hx8 : (kpsV [x]).length = 8 := kpsV_len [x]
 have hld : (kpsV (l.drop i)).length = (l.length - i) * 8 := by rw [kpsV_len, List.length_drop]
 have hxv : ((kpsV [x]).drop 0).take 8 = kpsV [x] := by rw [List.drop_zero, List.take_of_length_le (by omega)]
 have hc : kpsV (l.take i ++ x :: l.drop i) = (kpsV l).take (i * 8) ++ kpsV [x] ++ kpsV (l.drop i) := by rw [show l.take i ++ x :: l.drop i = l.take i ++ ([x] ++ l.drop i) by simp, kpsV_app, kpsV_app, kpsV_take, List.append_assoc]
 refine Ct.of _ Tryz.func141 Tryz.ntmps141 rfl rfl (fun X W => ?_)
 refine Jc.rowCap (A := K) (m := l.length) (cap := cK) Del.here (fun hnK => ?_)
 refine Jc.rdNil K ?_
 refine Jc.qs<|Jc.qr<|Jl.pv (PR.qa rfl)<|Jl.qn<|Jq.qt<|Jc.qs<|Jc.qr<|Jl.pv (PR.qm rfl)<|Jl.pv (PR.qm rfl) ?_
 refine Jl.slice i l.length (l.length - i) [] rfl tsl34 rfl rfl zM hi (Nat.le_refl _) hnK rfl (by simp) ?_
 intro A12 c12 hc12
 clear hc12
 refine Jl.qn<|Jq.qt<|Jc.qs<|Jc.qr<|Jl.pv (PR.qm rfl) ?_
 refine Jl.pv (PR.len rfl tsl34) ?_
 refine Jl.pv (PR.qa rfl)<|Jl.qn<|Jq.qt<|Jc.qs<|Jc.qs<|Jc.qr<|Jl.pv (PR.qm rfl) ?_
 refine Jl.pv (PR.eql false rfl rfl (decide_eq_false (by omega))) ?_
 refine Jl.qn<|Jq.qt<|Jc.condF rfl<|Jc.skip<|Jq.qt<|Jc.qs<|Jc.qr<|Jl.pv (PR.qm rfl) ?_
 refine Jl.pv (PR.len rfl tsl34) ?_
 refine Jl.pv (PR.qa rfl)<|Jl.qn<|Jq.qt<|Jc.qs<|Jc.qs<|Jc.qr<|Jl.pv (PR.qm rfl)<|Jl.pv (PR.qm rfl) ?_
 refine Jl.pv (PR.eql _ rfl rfl rfl) ?_
 refine Jl.qn<|Jq.qt ?_
 refine Jc.cond rfl (fun hin => ?_) (fun hin => ?_)
 · try replace hin := zV hin
   obtain rfl : l.length = i := by omega
   refine Jc.qs<|Jc.qr<|Jl.pv (PR.qm rfl)<|Jl.pv (PR.qm rfl) ?_
   refine Jl.seal (b := gv) zD ?_
   refine Jl.append (l.length + 1) (kpsV (l.take l.length ++ x :: l.drop l.length)) rfl rfl rfl tsl34 tze72 (by rfl) (by decide) tby72 (fun _ _ => zS) zM rfl (by rw [hc, List.take_of_length_le (Nat.le_of_eq hl8), List.drop_length]; exact (List.append_nil _).symm) (by omega) (kps_one [x]) (by omega) (by decide) ?_
   intro A25 c25
   refine Jl.pv (PR.qa rfl)<|Jl.qn<|Jq.qt<|Jc.ret<|Jq.thenR ?_
   exact Jq.fin ⟨A25, c25⟩ (.inl rfl) rfl (RetVs.tmp rfl RetVs.nil) rfl zT zF
 try replace hin := zW hin
 have hin : i < l.length := by omega
 refine Jc.openRow (R' := fun g cur => [.blk g 72 cur, .blk gv 72 (kpsV [x])]) (by omega) (fun g cur => Swap.here) (fun g cur hK hcl hct hnc hcm => ?_)
 subst hK
 have hsr := ins_src (s := 8) hct (Nat.le_of_lt hin)
 have hA0 : cur.take (i * 8) = (kpsV l).take (i * 8) := by rw [← hct, List.take_take, Nat.min_eq_left (by omega)]
 have hvs : (cur.drop (i * 8)).take ((l.length - i) * 8) = kpsV (l.drop i) := by rw [hsr, kpsV_drop]
 refine Jc.skip<|Jq.qt<|Jc.qs<|Jc.qs<|Jc.qr<|Jl.pv (PR.qm rfl)<|Jl.pv (PR.qm rfl) ?_
 refine Jl.pv (PR.add ((l.length + 1 : Nat) : Int) rfl rfl (by rw [w64 (by omega) (by omega)]; omega)) ?_
 refine Jl.pv (PR.qm rfl) ?_
 refine Jl.pv (PR.cap rfl tsl34) ?_
 refine Jl.pv (PR.gtr _ rfl rfl rfl) ?_
 refine Jl.qn<|Jq.qt ?_
 refine Jc.cond rfl (fun hroom => ?_) (fun hroom => ?_)
 · try replace hroom := zV hroom
   have hroom : cK < l.length + 1 := by omega
   refine Jc.qs<|Jc.qr<|Jl.pv (PR.qm rfl)<|Jl.pv (PR.qm rfl) ?_
   refine Jl.pv (PR.sliceB 0 i cK i cK 0 rfl tsl34 rfl rfl rfl (by first | exact .inl rfl | exact .inr (by simp)) (Nat.zero_le _) (by omega) (Nat.le_refl _) rfl rfl (by split <;> simp)) ?_
   refine Jl.pv (PR.qm rfl)<|Jl.pv (PR.qm rfl) ?_
   refine Jl.pv (PR.add ((l.length + 1 : Nat) : Int) rfl rfl (by rw [w64 (by omega) (by omega)]; omega)) ?_
   refine Jl.pv (PR.qm rfl) ?_
   refine Jl.pv (PR.sub ((l.length + 1 - i : Nat) : Int) rfl rfl (by rw [w64 (by omega) (by omega)]; omega)) ?_
   refine Jl.growB rfl rfl tsl34 Tryz.underlying3 tze72 (by rfl) (by decide) tby72 zH (by omega) (by omega) (by omega) (by omega) (by decide) (tot := l.length + 1) (by omega) ?_
   intro g40 cs40 c40 hl40 ht40 hc40 hm40
   refine Jl.pv (PR.qa rfl)<|Jl.qn<|Jq.qt<|Jc.qs<|Jc.qr<|Jl.pv (PR.qm rfl)<|Jl.pv (PR.qm rfl) ?_
   refine Jl.pv (PR.sliceB i (l.length + 1) c40 (l.length + 1 - i) (c40 - i) (i * 8) rfl tsl34 rfl rfl rfl (by first | exact .inl rfl | exact .inr (by simp)) (by omega) (by omega) (Nat.le_refl _) rfl rfl (by rw [if_neg (by omega), Nat.zero_add])) ?_
   refine Jl.pv (PR.qm rfl) ?_
   refine Jl.copyB (cs := cs40) (vs := kpsV [x]) 1 rfl rfl rfl tsl34 (Src.blk' (cs2 := kpsV [x]) 8 zH (by omega) hxv) (Nat.min_eq_left (by omega)) hx8 (kps_one _) (by omega) zS rfl ?_
   refine Jl.qn<|Jq.qt<|Jc.qs ?_
   refine Jc.drawP 8 tmx (by kernel_rfl) (by kernel_rfl) ?_
   refine JP.pv (PR.qm rfl) ?_
   refine JP.pv (PR.qm rfl) ?_
   refine JP.pv (PR.qm rfl) ?_
   refine JP.pv (PR.add ((i + 1 : Nat) : Int) rfl rfl (by rw [w64 (by omega) (by omega)]; omega)) ?_
   refine JP.pv (PR.sliceB (i + 1) (l.length + 1) c40 (l.length - i) (c40 - (i + 1)) ((i + 1) * 8) rfl tsl34 rfl rfl rfl (by first | exact .inl rfl | exact .inr (by simp)) (by omega) (by omega) (Nat.le_refl _) (by omega) rfl (by rw [if_neg (by omega), Nat.zero_add])) ?_
   refine JP.pv (PR.qm rfl) ?_
   refine JP.pv (PR.qm rfl) ?_
   refine JP.pv (PR.sliceB i l.length cK (l.length - i) (cK - i) (i * 8) rfl tsl34 rfl rfl rfl (by first | exact .inl rfl | exact .inr (by simp)) hi hnc (Nat.le_refl _) rfl rfl (by rw [if_neg (by omega), Nat.zero_add])) ?_
   refine JP.fin rfl ?_
   refine Jl.copyB (cs := over cs40 (i * 8) (kpsV [x])) (vs := kpsV (l.drop i)) (l.length - i) rfl rfl rfl tsl34 (Src.blk' (cs2 := cur) ((l.length - i) * 8) zH (by omega) hvs) (Nat.min_self _) hld (kps_one _) (by rw [over_len (by omega)]; omega) zS rfl ?_
   refine Jl.qn<|Jq.qt<|Jc.qs<|Jc.qr<|Jl.pv (PR.qm rfl)<|Jl.pv (PR.qa rfl)<|Jl.qn<|Jq.qt<|Jc.ret<|Jq.thenR ?_
   refine Jq.closeRow (ys := kpsV (l.take i ++ x :: l.drop i)) (l.length + 1) c40 zS (by rw [over_len (by rw [over_len (by omega)]; omega), over_len (by omega)]; exact hl40) ((ins_grow (by rw [ht40, List.drop_zero, hA0]) hin (by omega) hx8 (by omega)).trans hc.symm) hc40 hm40 ?_
   exact Jq.fin (some ⟨g40, 0, none⟩, c40) (.inl rfl) rfl (RetVs.tmp rfl RetVs.nil) rfl zT zF
 try replace hroom := zW hroom
 have hroom : l.length + 1 ≤ cK := by omega
 refine Jc.skip<|Jq.qt<|Jc.qs<|Jc.qr<|Jl.pv (PR.qm rfl)<|Jl.pv (PR.qm rfl)<|Jl.pv (PR.qm rfl) ?_
 refine Jl.pv (PR.add ((l.length + 1 : Nat) : Int) rfl rfl (by rw [w64 (by omega) (by omega)]; omega)) ?_
 refine Jl.pv (PR.sliceB 0 (l.length + 1) cK (l.length + 1) cK 0 rfl tsl34 rfl rfl rfl (by first | exact .inl rfl | exact .inr (by simp)) (by omega) (by omega) (Nat.le_refl _) rfl rfl (by split <;> simp)) ?_
 refine Jl.pv (PR.qa rfl)<|Jl.qn<|Jq.qt<|Jc.qs<|Jc.qs<|Jc.qr<|Jl.pv (PR.qm rfl)<|Jl.pv (PR.qm rfl)<|Jl.pv (PR.qm rfl)<|Jl.pv (PR.qm rfl) ?_
 refine Jl.pv (PR.add ((i + 1 : Nat) : Int) rfl rfl (by rw [w64 (by omega) (by omega)]; omega)) ?_
 refine Jl.pv (PR.sliceB (i + 1) (l.length + 1) cK (l.length - i) (cK - (i + 1)) ((i + 1) * 8) rfl tsl34 rfl rfl rfl (by first | exact .inl rfl | exact .inr (by simp)) (by omega) (by omega) (Nat.le_refl _) (by omega) rfl (by rw [if_neg (by omega), Nat.zero_add])) ?_
 refine Jl.overB rfl rfl rfl tsl34 (fun args w => run_callFunc_extern (P := Tryz.prog) (f := 148) Tryz.func148 (by kernel_rfl) (by kernel_rfl) (by kernel_rfl) (e := Extern.SlicesOverlaps.overlaps #[34, 34] #[4]) (by kernel_rfl) args w) zD zH (by omega) ?_
 refine Jl.pv (PR.not rfl) ?_
 refine Jl.qn<|Jq.qt<|Jc.condT rfl<|Jc.qs ?_
 refine Jc.drawP 8 tmx (by kernel_rfl) (by kernel_rfl) ?_
 refine JP.pv (PR.qm rfl) ?_
 refine JP.pv (PR.qm rfl) ?_
 refine JP.pv (PR.qm rfl) ?_
 refine JP.pv (PR.add ((i + 1 : Nat) : Int) rfl rfl (by rw [w64 (by omega) (by omega)]; omega)) ?_
 refine JP.pv (PR.sliceB (i + 1) (l.length + 1) cK (l.length - i) (cK - (i + 1)) ((i + 1) * 8) rfl tsl34 rfl rfl rfl (by first | exact .inl rfl | exact .inr (by simp)) (by omega) (by omega) (Nat.le_refl _) (by omega) rfl (by rw [if_neg (by omega), Nat.zero_add])) ?_
 refine JP.pv (PR.qm rfl) ?_
 refine JP.pv (PR.qm rfl) ?_
 refine JP.pv (PR.sliceB i (l.length + 1) cK (l.length + 1 - i) (cK - i) (i * 8) rfl tsl34 rfl rfl rfl (by first | exact .inl rfl | exact .inr (by simp)) (by omega) (by omega) (Nat.le_refl _) rfl rfl (by rw [if_neg (by omega), Nat.zero_add])) ?_
 refine JP.fin rfl ?_
 refine Jl.copyB (cs := cur) (vs := kpsV (l.drop i)) (l.length - i) rfl rfl rfl tsl34 (Src.blk' (cs2 := cur) ((l.length - i) * 8) zH (by omega) hvs) (Nat.min_eq_right (by omega)) hld (kps_one _) (by omega) zS rfl ?_
 refine Jl.qn<|Jq.qt<|Jc.qs<|Jc.qr<|Jl.pv (PR.qm rfl)<|Jl.pv (PR.qm rfl) ?_
 refine Jl.pv (PR.sliceB i (l.length + 1) cK (l.length + 1 - i) (cK - i) (i * 8) rfl tsl34 rfl rfl rfl (by first | exact .inl rfl | exact .inr (by simp)) (by omega) (by omega) (Nat.le_refl _) rfl rfl (by rw [if_neg (by omega), Nat.zero_add])) ?_
 refine Jl.pv (PR.qm rfl) ?_
 refine Jl.copyB (cs := over cur ((i + 1) * 8) (kpsV (l.drop i))) (vs := kpsV [x]) 1 rfl rfl rfl tsl34 (Src.blk' (cs2 := kpsV [x]) 8 zH (by omega) hxv) (Nat.min_eq_left (by omega)) hx8 (kps_one _) (by rw [over_len (by omega)]; omega) zS rfl ?_
 refine Jl.qn<|Jq.qt<|Jc.qs<|Jc.qr<|Jl.pv (PR.qm rfl)<|Jl.pv (PR.qa rfl)<|Jl.qn<|Jq.qt<|Jc.ret<|Jq.thenR ?_
 refine Jq.closeRow (ys := kpsV (l.take i ++ x :: l.drop i)) (l.length + 1) cK zS (by rw [over_len (by rw [over_len (by omega)]; omega), over_len (by omega)]; exact hcl) ((ins_room hA0 hin (by omega) hx8 (by omega)).trans hc.symm) hroom hcm ?_
 exact Jq.fin (some ⟨g, 0, none⟩, cK) (.inl rfl) rfl (RetVs.tmp rfl RetVs.nil) rfl zT zF
end Go.Proofs.YtakbgccddokbbaaGreatDoor
namespace Go.Proofs.YtakbgccddokbbaaGreatDoor
open Go.RowKit
attribute [local irreducible] Res.blk Res.row Fact.rd
theorem kins_ct (K : Option Addr) (cK : Nat) (l : List Kp) (i gv : Nat) (x : Kp) (hi : i ≤ l.length) (hn : l.length ≤ 1000000) : Ct Tryz.prog 141 [.slice K l.length cK, .int .i64 (i : Int), .slice (some ⟨gv, 0, none⟩) 1 1] [.row 72 8 (.slice K l.length cK) l.length (kpsV l), .blk gv 72 (kpsV [x])] []
 (fun p : Option Addr × Nat => .slice p.1 (insL l i x).length p.2) (fun p => [.row 72 8 (.slice p.1 (insL l i x).length p.2) (insL l i x).length (kpsV (insL l i x))]) (fun _ => []) := by
 have e : insL l i x = l.take i ++ x :: l.drop i := by simp [insL]
 rw [insL_len x hi, e]
 exact kinsert_ct K cK l i gv x hi hn
theorem kdel_ct (K : Option Addr) (cK : Nat) (l : List Kp) (i : Nat) (hi : i < l.length) (hn : l.length ≤ 1000000) : Ct Tryz.prog 92 [.slice K l.length cK, .int .i64 (i : Int), .int .i64 ((i + 1 : Nat) : Int)] [.row 72 8 (.slice K l.length cK) l.length (kpsV l)] []
 (fun _ : Unit => .slice K (l.take i ++ l.drop (i + 1)).length cK) (fun _ => [.row 72 8 (.slice K (l.take i ++ l.drop (i + 1)).length cK) (l.take i ++ l.drop (i + 1)).length (kpsV (l.take i ++ l.drop (i + 1)))]) (fun _ => []) := by
 rw [show (l.take i ++ l.drop (i + 1)).length = l.length - 1 by simp; omega]
 exact kdelete_ct K cK l i hi hn
theorem tdel_ct (K : Option Addr) (cK : Nat) (l : List It1) (i : Nat) (hi : i < l.length) (hn : l.length ≤ 1000000) : Ct Tryz.prog 117 [.slice K l.length cK, .int .i64 (i : Int), .int .i64 ((i + 1 : Nat) : Int)] [.row 70 4 (.slice K l.length cK) l.length (itsV l)] []
 (fun _ : Unit => .slice K (eraL l i).length cK) (fun _ => [.row 70 4 (.slice K (eraL l i).length cK) (eraL l i).length (itsV (eraL l i))]) (fun _ => []) := by
 rw [eraL_len hi]
 exact tdelete_ct K cK l i hi hn
theorem keep1_ct (x y : Kp) (bd : Nat) : Ct Tryz.prog 140 [y.v, .pointer (some ⟨bd, 0, none⟩)] [.blk bd 72 x.cs] [] (fun _ : Unit => .bool (decide (x.id < y.id))) (fun _ => [.blk bd 72 x.cs]) (fun _ => []) := by
 refine Ct.of _ Tryz.func140 Tryz.ntmps140 rfl rfl (fun X W => ?_)
 refine Jc.qs<|Jc.qr ?_
 refine Jl.box rfl (by rfl) ?_
 intro b2
 refine Jl.pv (PR.qa rfl)<|Jl.qn<|Jq.qt<|Jc.qs<|Jc.qr<|Jl.pv (PR.qf rfl tfl72_0) ?_
 refine Jl.pv (PR.load1 rfl tsh3 zH (by rfl)) ?_
 refine Jl.pv (PR.qf rfl tfl72_0) ?_
 refine Jl.pv (PR.load1 rfl tsh3 zH (by rfl)) ?_
 refine Jl.pv (PR.gtr _ rfl rfl rfl) ?_
 refine Jl.pv (PR.qa rfl)<|Jl.qn<|Jq.qt<|Jc.ret ?_
 exact Jq.fin () (.inl rfl) rfl (RetVs.tmp rfl RetVs.nil) rfl zT zF
 -- hint not used: one
theorem insAt_none {l : List Kp} {id : Int} (h : l.findIdx? (fun k => decide (id < k.id)) = none) : insAt l id = l.length := List.findIdx?_eq_none_iff_findIdx_eq.1 h
theorem insAt_some {l : List Kp} {id : Int} {i : Nat} (h : l.findIdx? (fun k => decide (id < k.id)) = some i) : insAt l id = i ∧ i ≤ l.length := by
 obtain ⟨h1, h2⟩ := List.findIdx?_eq_some_iff_findIdx_eq.1 h
 exact ⟨h2, Nat.le_of_lt h1⟩
theorem bkeep_ct (b : Br) (z : BrA) (bb : Nat) (x : Kp) (hm : b.kps.length ≤ 900000) : Ct Tryz.prog 118 [ptr bb, x.v] (b.st bb z) [] (fun _ : BrA => .tuple #[]) (fun z' => ({ b with kps := insL b.kps (insAt b.kps x.id) x } : Br).st bb z') (fun _ => []) := by
  obtain ⟨⟨M, cM⟩, ⟨I, cI⟩, ⟨K, cK⟩⟩ := z
  cases hf : b.kps.findIdx? (fun k => decide (x.id < k.id)) with
  | none =>
    rw [insAt_none hf]
    refine Ct.of _ Tryz.func118 Tryz.ntmps118 rfl rfl (fun X W => ?_)
    refine Jc.qs<|Jc.qr ?_
    refine Jl.box rfl (by rfl) ?_
    intro b3
    refine Jl.qn<|Jq.qt<|Jc.qs<|Jc.qr<|Jl.pv (PR.qm rfl)<|Jl.pv (PR.nilCheck rfl)<|Jl.pv (PR.qf rfl tfl38_5) ?_
    refine Jl.pv (PR.load1 rfl tsh34 zH (by rfl)) ?_
    refine Jl.pv (PR.makeFunc rfl rfl) ?_
    refine Jl.calll (fs := []) (cs := []) (kidx_ct K cK b.kps (fun k => decide (x.id < k.id)) 140 b3 72 x.cs (fun y => keep1_ct x y b3) en140 (by omega)) en138 rfl (by rfl) (by rfl) zT (ls := [b.rK ((M, cM), (I, cI), (K, cK))]) zT zL zF ?_
    rintro ⟨⟩
    refine Jl.as (.int .i64 (-1)) (by rw [hf]; rfl) ?_
    refine Jl.pv (PR.qa rfl)<|Jl.qn<|Jq.qt<|Jc.qs<|Jc.qs<|Jc.qr<|Jl.pv (PR.qm rfl) ?_
    refine Jl.pv (PR.lss true rfl rfl (by decide)) ?_
    refine Jl.qn<|Jq.qt<|Jc.condT rfl<|Jc.qr<|Jl.pv (PR.qm rfl)<|Jl.pv (PR.nilCheck rfl)<|Jl.pv (PR.qf rfl tfl38_5) ?_
    refine Jl.pv (PR.load1 rfl tsh34 zH (by rfl)) ?_
    refine Jl.pv (PR.len rfl tsl34) ?_
    refine Jl.pv (PR.qa rfl)<|Jl.qn<|Jq.qt ?_
    refine Jc.drawn [0, 0, 2, 6, 14, 0, 0, 64, 254, 511, 1023, 2047] ([], []) [⟨[(0, false), (1, false), (2, false), (3, false), (4, false), (5, false), (6, false), (7, true)], [7], 8⟩, ⟨[(9, false), (10, false)], [], 11⟩] tmx (by kernel_rfl) ?_
    refine Dh.JH.cons<|Dh.JB.pv rfl trivial (fun _ => PR.qm rfl)<|Dh.JB.pv rfl trivial (fun _ => PR.qm rfl) ?_
    refine Dh.JB.pv rfl trivial (fun _ => PR.nilCheck rfl) ?_
    refine Dh.JB.pv rfl trivial (fun _ => PR.qf rfl tfl38_5) ?_
    refine Dh.JB.rd [.blk _ _ _] rfl trivial zT (fun _ => PR.load1 rfl tsh34 Has.here (by rfl)) ?_
    refine Dh.JB.pv rfl trivial (fun _ => PR.qm rfl) ?_
    refine Dh.JB.rd [.blk _ _ _] rfl trivial zT (fun _ => PR.loadW rfl tsh72 Has.here (by rfl)) ?_
    refine Dh.JB.buildSlice rfl trivial (by rfl) tsl34 tzr34_1 (by rfl) (by rfl) ?_
    refine Dh.JB.nil ?_
    refine Dh.JL.sl rfl (by repeat (first | exact Dh.es_here | apply Dh.es_there)) (fun b25 => ?_)
    refine Dh.JL.nil ?_
    refine Dh.JE.mk rfl (fun _ h => by cases h) (fun C4_8 => ?_)
    refine Jl.call (kins_ct K cK b.kps b.kps.length b25 x (Nat.le_refl _) (by omega)) en141 (by rfl) zT zF ?_
    rintro ⟨A26, c26⟩
    refine Jl.qn ?_
    refine Dh.Jq.segV zX ?_ zK
    refine Dh.JH.cons ?_
    refine Dh.JB.pv rfl trivial (fun _ => PR.nilCheck rfl) ?_
    refine Dh.JB.pv rfl trivial (fun _ => PR.qf rfl tfl38_5)<|Dh.JB.nil<|Dh.JL.nil ?_
    refine Dh.JE.mk rfl (fun _ h => by cases h) (fun C4_11 => ?_)
    refine Jl.store1 rfl tsh34 rfl (by rfl) zS (by rfl) ?_
    refine Jl.qn ?_
    refine Dh.Jq.segN zX ?_ zK
    refine Dh.JH.nil ?_
    refine Dh.JB.nil<|Dh.JL.nil ?_
    exact Jq.fin ((M, cM), (I, cI), (A26, c26)) (.inr rfl) rfl RetVs.nil rfl zT zF
    -- hint not used: one
  | some i =>
    obtain ⟨e, hi⟩ := insAt_some hf
    rw [e]
    refine Ct.of _ Tryz.func118 Tryz.ntmps118 rfl rfl (fun X W => ?_)
    refine Jc.qs<|Jc.qr ?_
    refine Jl.box rfl (by rfl) ?_
    intro b3
    refine Jl.qn<|Jq.qt<|Jc.qs<|Jc.qr<|Jl.pv (PR.qm rfl)<|Jl.pv (PR.nilCheck rfl)<|Jl.pv (PR.qf rfl tfl38_5) ?_
    refine Jl.pv (PR.load1 rfl tsh34 zH (by rfl)) ?_
    refine Jl.pv (PR.makeFunc rfl rfl) ?_
    refine Jl.calll (fs := []) (cs := []) (kidx_ct K cK b.kps (fun k => decide (x.id < k.id)) 140 b3 72 x.cs (fun y => keep1_ct x y b3) en140 (by omega)) en138 rfl (by rfl) (by rfl) zT (ls := [b.rK ((M, cM), (I, cI), (K, cK))]) zT zL zF ?_
    rintro ⟨⟩
    refine Jl.as (.int .i64 (i : Int)) (by rw [hf]; rfl) ?_
    refine Jl.pv (PR.qa rfl)<|Jl.qn<|Jq.qt<|Jc.qs<|Jc.qs<|Jc.qr<|Jl.pv (PR.qm rfl) ?_
    refine Jl.pv (PR.lss false rfl rfl (decide_eq_false (by omega))) ?_
    refine Jl.qn<|Jq.qt<|Jc.condF rfl<|Jc.skip<|Jq.qt ?_
    refine Jc.drawn [0, 0, 2, 6, 14, 0, 0, 64, 254, 511, 1023, 2047] ([], []) [⟨[(0, false), (1, false), (2, false), (3, false), (4, false), (5, false), (6, false), (7, true)], [7], 8⟩, ⟨[(9, false), (10, false)], [], 11⟩] tmx (by kernel_rfl) ?_
    refine Dh.JH.cons<|Dh.JB.pv rfl trivial (fun _ => PR.qm rfl)<|Dh.JB.pv rfl trivial (fun _ => PR.qm rfl) ?_
    refine Dh.JB.pv rfl trivial (fun _ => PR.nilCheck rfl) ?_
    refine Dh.JB.pv rfl trivial (fun _ => PR.qf rfl tfl38_5) ?_
    refine Dh.JB.rd [.blk _ _ _] rfl trivial zT (fun _ => PR.load1 rfl tsh34 Has.here (by rfl)) ?_
    refine Dh.JB.pv rfl trivial (fun _ => PR.qm rfl) ?_
    refine Dh.JB.rd [.blk _ _ _] rfl trivial zT (fun _ => PR.loadW rfl tsh72 Has.here (by rfl)) ?_
    refine Dh.JB.buildSlice rfl trivial (by rfl) tsl34 tzr34_1 (by rfl) (by rfl) ?_
    refine Dh.JB.nil ?_
    refine Dh.JL.sl rfl (by repeat (first | exact Dh.es_here | apply Dh.es_there)) (fun b25 => ?_)
    refine Dh.JL.nil ?_
    refine Dh.JE.mk rfl (fun _ h => by cases h) (fun C4_8 => ?_)
    refine Jl.call (kins_ct K cK b.kps i b25 x hi (by omega)) en141 (by rfl) zT zF ?_
    rintro ⟨A26, c26⟩
    refine Jl.qn ?_
    refine Dh.Jq.segV zX ?_ zK
    refine Dh.JH.cons ?_
    refine Dh.JB.pv rfl trivial (fun _ => PR.nilCheck rfl) ?_
    refine Dh.JB.pv rfl trivial (fun _ => PR.qf rfl tfl38_5)<|Dh.JB.nil<|Dh.JL.nil ?_
    refine Dh.JE.mk rfl (fun _ h => by cases h) (fun C4_11 => ?_)
    refine Jl.store1 rfl tsh34 rfl (by rfl) zS (by rfl) ?_
    refine Jl.qn ?_
    refine Dh.Jq.segN zX ?_ zK
    refine Dh.JH.nil ?_
    refine Dh.JB.nil<|Dh.JL.nil ?_
    exact Jq.fin ((M, cM), (I, cI), (A26, c26)) (.inr rfl) rfl RetVs.nil rfl zT zF
    -- hint not used: one
theorem dgone_ct (b : Br) (z : BrA) (bb : Nat) (L : Option Addr) (cL : Nat) (id : Int) (i : Nat) (hi : i < b.kps.length) (hm : b.kps.length ≤ 900000) : DeedK 91 b bb z L cL [id] i { b with kps := b.kps.take i ++ b.kps.drop (i + 1) } := by
 obtain ⟨⟨M, cM⟩, ⟨I, cI⟩, ⟨K, cK⟩⟩ := z
 refine Ct.of _ Tryz.func91 Tryz.ntmps91 rfl rfl (fun X W => ?_)
 refine Jc.qr<|Jl.pv (PR.qm rfl)<|Jl.pv (PR.qm rfl)<|Jl.pv (PR.nilCheck rfl)<|Jl.pv (PR.qf rfl tfl38_5) ?_
 refine Jl.pv (PR.load1 rfl tsh34 zH (by rfl)) ?_
 refine Jl.pv (PR.qm rfl)<|Jl.pv (PR.qm rfl) ?_
 refine Jl.pv (PR.add ((i + 1 : Nat) : Int) rfl rfl (by rw [w64 (by omega) (by omega)]; omega)) ?_
 refine Jl.call (kdel_ct K cK b.kps i hi (by omega)) en92 (by rfl) zT zF ?_
 rintro ⟨⟩
 refine Jl.pv (PR.nilCheck rfl)<|Jl.pv (PR.qf rfl tfl38_5) ?_
 refine Jl.store1 rfl tsh34 rfl (by rfl) zS (by rfl) ?_
 refine Jl.qn ?_
 exact Jq.fin () (.inr rfl) rfl RetVs.nil rfl zT zF
theorem dboot_ct (b : Br) (z : BrA) (bb : Nat) (L : Option Addr) (cL : Nat) (he : -9223372036854775808 ≤ b.ep) : DeedCt 84 b bb z L cL [] b.boot := by
 obtain ⟨⟨M, cM⟩, ⟨I, cI⟩, ⟨K, cK⟩⟩ := z
 refine Ct.of _ Tryz.func84 Tryz.ntmps84 rfl rfl (fun X W => ?_)
 refine Jc.qs<|Jc.qr<|Jl.pv (PR.qm rfl)<|Jl.pv (PR.nilCheck rfl)<|Jl.pv (PR.qf rfl tfl38_0) ?_
 refine Jl.pv (PR.load1 rfl tsh3 zH (by rfl)) ?_
 refine Jl.pv (PR.lss _ rfl rfl rfl) ?_
 refine Jl.qn<|Jq.qt ?_
 refine Jc.cond rfl (fun h0 => ?_) (fun h0 => ?_)
 · try replace h0 := zV h0
   refine Jc.qr<|Jl.pv (PR.qm rfl)<|Jl.pv (PR.nilCheck rfl)<|Jl.pv (PR.qf rfl tfl38_0) ?_
   refine Jl.pv (PR.load1 rfl tsh3 zH (by rfl)) ?_
   refine Jl.pv (PR.add _ rfl rfl (w64 (by omega) (by omega))) ?_
   refine Jl.pv (PR.nilCheck rfl)<|Jl.pv (PR.qf rfl tfl38_0) ?_
   refine Jl.store1 rfl tsh3 rfl (by rfl) zS (by rfl) ?_
   refine Jl.qn ?_
   rw [show b.boot = { b with ep := b.ep + 1 } from if_pos h0]
   exact Jq.fin () (.inr rfl) rfl RetVs.nil rfl zT zF
 try replace h0 := zW h0
 refine Jc.skip ?_
 rw [show b.boot = b from if_neg h0]
 exact Jq.fin () (.inr rfl) rfl RetVs.nil rfl zT zF
theorem dpause_ct (b : Br) (z : BrA) (bb : Nat) (L : Option Addr) (cL : Nat) (now : Int) : DeedCt 100 b bb z L cL [now] (if b.rf.pa = true then b else { b with rf := { b.rf with pa := true, si := now } }) := by
 obtain ⟨⟨M, cM⟩, ⟨I, cI⟩, ⟨K, cK⟩⟩ := z
 refine Ct.of _ Tryz.func100 Tryz.ntmps100 rfl rfl (fun X W => ?_)
 refine Jc.qs<|Jc.qr<|Jl.pv (PR.qm rfl)<|Jl.pv (PR.nilCheck rfl)<|Jl.pv (PR.qf rfl tfl38_6)<|Jl.pv (PR.qf rfl tfl36_4) ?_
 refine Jl.pv (PR.load1 rfl tsh4 zH (by rfl)) ?_
 refine Jl.pv (PR.not rfl) ?_
 refine Jl.qn<|Jq.qt ?_
 refine Jc.cond rfl (fun h0 => ?_) (fun h0 => ?_)
 · try replace h0 := zV h0
   refine Jc.qr<|Jl.pv (PR.qm rfl)<|Jl.pv (PR.qm rfl)<|Jl.pv (PR.qm rfl) ?_
   refine Jl.pv (PR.idx1 0 rfl rfl tsl23 zM rfl rfl (by simp)) ?_
   refine Jl.pv (PR.loadR rfl tsh3 zM rfl) ?_
   refine Jl.pv (PR.nilCheck rfl)<|Jl.pv (PR.qf rfl tfl38_6)<|Jl.pv (PR.qf rfl tfl36_4) ?_
   refine Jl.store1 rfl tsh4 rfl (by rfl) zS (by rfl) ?_
   refine Jl.pv (PR.nilCheck rfl)<|Jl.pv (PR.qf rfl tfl38_6)<|Jl.pv (PR.qf rfl tfl36_5) ?_
   refine Jl.store1 rfl tsh3 rfl (by rfl) zS (by rfl) ?_
   refine Jl.qn ?_
   rw [if_neg (by simpa using h0)]
   exact Jq.fin () (.inr rfl) rfl RetVs.nil rfl zT zF
 try replace h0 := zW h0
 refine Jc.skip ?_
 rw [if_pos (by simpa using h0)]
 exact Jq.fin () (.inr rfl) rfl RetVs.nil rfl zT zF
theorem ddone_ct (b : Br) (z : BrA) (bb : Nat) (L : Option Addr) (cL : Nat) : DeedCt 102 b bb z L cL [] { b with rf := { b.rf with st := 2, pa := false }, cf := { b.cf with ve := b.rf.ta } } := by
 obtain ⟨⟨M, cM⟩, ⟨I, cI⟩, ⟨K, cK⟩⟩ := z
 refine Ct.of _ Tryz.func102 Tryz.ntmps102 rfl rfl (fun X W => ?_)
 refine Jc.qr<|Jl.pv (PR.qm rfl)<|Jl.pv (PR.qm rfl)<|Jl.pv (PR.qm rfl)<|Jl.pv (PR.qm rfl)<|Jl.pv (PR.nilCheck rfl)<|Jl.pv (PR.qf rfl tfl38_6)<|Jl.pv (PR.qf rfl tfl36_2) ?_
 refine Jl.pv (PR.load1 rfl tsh3 zH (by rfl)) ?_
 refine Jl.pv (PR.nilCheck rfl)<|Jl.pv (PR.qf rfl tfl38_6)<|Jl.pv (PR.qf rfl tfl36_0) ?_
 refine Jl.store1 rfl tsh5 rfl (by rfl) zS (by rfl) ?_
 refine Jl.pv (PR.nilCheck rfl)<|Jl.pv (PR.qf rfl tfl38_6)<|Jl.pv (PR.qf rfl tfl36_4) ?_
 refine Jl.store1 rfl tsh4 rfl (by rfl) zS (by rfl) ?_
 refine Jl.pv (PR.nilCheck rfl)<|Jl.pv (PR.qf rfl tfl38_3)<|Jl.pv (PR.qf rfl tfl32_12) ?_
 refine Jl.store1 rfl tsh3 rfl (by rfl) zS (by rfl) ?_
 refine Jl.qn ?_
 exact Jq.fin () (.inr rfl) rfl RetVs.nil rfl zT zF
theorem dfail_ct (b : Br) (z : BrA) (bb : Nat) (L : Option Addr) (cL : Nat) (n : Int) : DeedCt 97 b bb z L cL [n] (if b.cf.fa ≤ IntKind.i64.wrap (b.rf.fa + 1) then { b with rf := { b.rf with ta := b.rf.fr, fa := 0 } } else { b with rf := { b.rf with fa := IntKind.i64.wrap (b.rf.fa + 1) } }) := by
 obtain ⟨⟨M, cM⟩, ⟨I, cI⟩, ⟨K, cK⟩⟩ := z
 refine Ct.of _ Tryz.func97 Tryz.ntmps97 rfl rfl (fun X W => ?_)
 refine Jc.qs<|Jc.qr<|Jl.pv (PR.qm rfl)<|Jl.pv (PR.nilCheck rfl)<|Jl.pv (PR.qf rfl tfl38_6)<|Jl.pv (PR.qf rfl tfl36_6) ?_
 refine Jl.pv (PR.load1 rfl tsh3 zH (by rfl)) ?_
 refine Jl.pv (PR.add _ rfl rfl rfl) ?_
 refine Jl.pv (PR.nilCheck rfl)<|Jl.pv (PR.qf rfl tfl38_6)<|Jl.pv (PR.qf rfl tfl36_6) ?_
 refine Jl.store1 rfl tsh3 rfl (by rfl) zS (by rfl) ?_
 refine Jl.qn<|Jq.qt<|Jc.qs ?_
 refine Jc.drawn [0, 1, 3, 7, 15, 0, 32, 96, 224, 480, 1023] ([(0, false), (1, false), (2, false), (3, false), (4, false), (5, false), (6, false), (7, false), (8, false), (9, false), (10, false)], []) [] tmx (by kernel_rfl) ?_
 refine Dh.JH.nil ?_
 refine Dh.JB.pv rfl trivial (fun _ => PR.qm rfl) ?_
 refine Dh.JB.pv rfl trivial (fun _ => PR.nilCheck rfl) ?_
 refine Dh.JB.pv rfl trivial (fun _ => PR.qf rfl tfl38_6)<|Dh.JB.pv rfl trivial (fun _ => PR.qf rfl tfl36_6) ?_
 refine Dh.JB.rd [.blk _ _ _] rfl trivial zT (fun _ => PR.load1 rfl tsh3 Has.here (by rfl)) ?_
 refine Dh.JB.pv rfl trivial (fun _ => PR.qm rfl) ?_
 refine Dh.JB.pv rfl trivial (fun _ => PR.nilCheck rfl) ?_
 refine Dh.JB.pv rfl trivial (fun _ => PR.qf rfl tfl38_3)<|Dh.JB.pv rfl trivial (fun _ => PR.qf rfl tfl32_10) ?_
 refine Dh.JB.rd [.blk _ _ _] rfl trivial zT (fun _ => PR.load1 rfl tsh3 Has.here (by rfl)) ?_
 refine Dh.JB.pv rfl trivial (fun _ => PR.geq _ rfl rfl rfl) ?_
 refine Dh.JB.nil<|Dh.JL.nil<|Jq.qt ?_
 refine Jc.cond rfl (fun h0 => ?_) (fun h0 => ?_)
 · try replace h0 := zV h0
   refine Jc.qr<|Jl.pv (PR.qm rfl)<|Jl.pv (PR.qm rfl)<|Jl.pv (PR.qm rfl)<|Jl.pv (PR.nilCheck rfl)<|Jl.pv (PR.qf rfl tfl38_6)<|Jl.pv (PR.qf rfl tfl36_1) ?_
   refine Jl.pv (PR.load1 rfl tsh3 zH (by rfl)) ?_
   refine Jl.pv (PR.nilCheck rfl)<|Jl.pv (PR.qf rfl tfl38_6)<|Jl.pv (PR.qf rfl tfl36_2) ?_
   refine Jl.store1 rfl tsh3 rfl (by rfl) zS (by rfl) ?_
   refine Jl.pv (PR.nilCheck rfl)<|Jl.pv (PR.qf rfl tfl38_6)<|Jl.pv (PR.qf rfl tfl36_6) ?_
   refine Jl.store1 rfl tsh3 rfl (by rfl) zS (by rfl) ?_
   refine Jl.qn ?_
   rw [if_pos h0]
   exact Jq.fin () (.inr rfl) rfl RetVs.nil rfl zT zF
 try replace h0 := zW h0
 refine Jc.skip ?_
 rw [if_neg h0]
 exact Jq.fin () (.inr rfl) rfl RetVs.nil rfl zT zF
end Go.Proofs.YtakbgccddokbbaaGreatDoor
namespace Go.Proofs.YtakbgccddokbbaaGreatDoor
open Go.RowKit
attribute [local irreducible] Res.blk Res.row Fact.rd
theorem intent_no {b : Br} {v z w : Int} (h : b.set = false ∨ v < 1 ∨ 3 < z ∨ 1 < w ∨ 1099511627776 ≤ b.sq) : b.intent v z w = b := by
 rw [Br.intent, if_neg]
 simp only [Bool.and_eq_true, decide_eq_true_eq]
 rintro ⟨⟨a1, a2⟩, a3, a4, a5⟩
 rcases h with h | h | h | h | h
 · rw [h] at a1; cases a1
 · omega
 · omega
 · omega
 · omega
theorem intent_yes {b : Br} {v z w : Int} (h1 : b.set = true) (h2 : ¬ v < 1) (h3 : ¬ 3 < z) (h4 : ¬ 1 < w) (h5 : ¬ 1099511627776 ≤ b.sq) : b.intent v z w = { b with sq := b.sq + 1, its := b.its ++ [⟨b.sq + 1, v, z, decide (w = 1)⟩] } := by
 rw [Br.intent, if_pos]
 simp only [Bool.and_eq_true, decide_eq_true_eq]
 exact ⟨⟨h1, by omega⟩, by omega, by omega, by omega⟩
theorem dintent_ct (b : Br) (z : BrA) (bb : Nat) (L : Option Addr) (cL : Nat) (v zo w : Int) (hq : -9223372036854775808 ≤ b.sq) (h1 : b.its.length ≤ 900000) : Ct Tryz.prog 85 [ptr bb, .slice L [v, zo, w].length cL] (b.st bb z) [.rd L (i64s [v, zo, w])] (fun _ : BrA => .tuple #[]) (fun z' => (b.intent v zo w).st bb z') (fun _ => []) := by
 obtain ⟨⟨M, cM⟩, ⟨I, cI⟩, ⟨K, cK⟩⟩ := z
 refine Ct.of _ Tryz.func85 Tryz.ntmps85 rfl rfl (fun X W => ?_)
 refine Jc.qs<|Jc.qs<|Jc.qr<|Jl.pv (PR.qm rfl)<|Jl.pv (PR.nilCheck rfl)<|Jl.pv (PR.qf rfl tfl38_2) ?_
 refine Jl.pv (PR.load1 rfl tsh4 zH (by rfl)) ?_
 refine Jl.pv (PR.not rfl) ?_
 refine Jl.pv (PR.qm rfl) ?_
 refine Jl.bsplit (fun g9 => ?_) (fun g9 => ?_)
 · try replace g9 := zV g9
   refine Jl.qo rfl rfl rfl<|Jl.qo rfl rfl rfl<|Jl.qo rfl rfl rfl<|Jl.qo rfl rfl rfl<|Jl.pv (PR.pickT rfl rfl)<|Jl.pv (PR.qm rfl)<|Jl.qo rfl rfl rfl<|Jl.qo rfl rfl rfl<|Jl.qo rfl rfl rfl<|Jl.qo rfl rfl rfl<|Jl.pv (PR.pickT rfl rfl)<|Jl.pv (PR.qm rfl)<|Jl.qo rfl rfl rfl<|Jl.qo rfl rfl rfl<|Jl.qo rfl rfl rfl<|Jl.qo rfl rfl rfl<|Jl.pv (PR.pickT rfl rfl)<|Jl.pv (PR.qm rfl)<|Jl.qo rfl rfl rfl<|Jl.qo rfl rfl rfl<|Jl.qo rfl rfl rfl<|Jl.qo rfl rfl rfl<|Jl.qo rfl rfl rfl<|Jl.pv (PR.pickT rfl rfl)<|Jl.qn<|Jq.qt<|Jc.condT rfl<|Jc.ret<|Jq.thenR ?_
   rw [intent_no (.inl (by simpa using g9))]
   exact Jq.fin ((M, cM), (I, cI), (K, cK)) (.inl rfl) rfl RetVs.nil rfl zT zF
 try replace g9 := zW g9
 refine Jl.on rfl rfl<|Jl.pv (PR.qm rfl)<|Jl.on rfl rfl ?_
 refine Jl.pv (PR.idx1 0 rfl rfl tsl23 zM rfl rfl (by simp)) ?_
 refine Jl.on rfl rfl ?_
 refine Jl.pv (PR.loadR rfl tsh3 zM rfl) ?_
 refine Jl.on rfl rfl ?_
 refine Jl.pv (PR.lss _ rfl rfl rfl) ?_
 refine Jl.pv (PR.pickF rfl rfl)<|Jl.pv (PR.qm rfl) ?_
 refine Jl.bsplit (fun g15 => ?_) (fun g15 => ?_)
 · try replace g15 := zV g15
   refine Jl.qo rfl rfl rfl<|Jl.qo rfl rfl rfl<|Jl.qo rfl rfl rfl<|Jl.qo rfl rfl rfl<|Jl.pv (PR.pickT rfl rfl)<|Jl.pv (PR.qm rfl)<|Jl.qo rfl rfl rfl<|Jl.qo rfl rfl rfl<|Jl.qo rfl rfl rfl<|Jl.qo rfl rfl rfl<|Jl.pv (PR.pickT rfl rfl)<|Jl.pv (PR.qm rfl)<|Jl.qo rfl rfl rfl<|Jl.qo rfl rfl rfl<|Jl.qo rfl rfl rfl<|Jl.qo rfl rfl rfl<|Jl.qo rfl rfl rfl<|Jl.pv (PR.pickT rfl rfl)<|Jl.qn<|Jq.qt<|Jc.condT rfl<|Jc.ret<|Jq.thenR ?_
   rw [intent_no (.inr (.inl (by simpa using g15)))]
   exact Jq.fin ((M, cM), (I, cI), (K, cK)) (.inl rfl) rfl RetVs.nil rfl zT zF
 try replace g15 := zW g15
 refine Jl.on rfl rfl<|Jl.pv (PR.qm rfl)<|Jl.on rfl rfl ?_
 refine Jl.pv (PR.idx1 1 rfl rfl tsl23 zM rfl rfl (by simp)) ?_
 refine Jl.on rfl rfl ?_
 refine Jl.pv (PR.loadR rfl tsh3 zM rfl) ?_
 refine Jl.on rfl rfl ?_
 refine Jl.pv (PR.gtr _ rfl rfl rfl) ?_
 refine Jl.pv (PR.pickF rfl rfl)<|Jl.pv (PR.qm rfl) ?_
 refine Jl.bsplit (fun g21 => ?_) (fun g21 => ?_)
 · try replace g21 := zV g21
   refine Jl.qo rfl rfl rfl<|Jl.qo rfl rfl rfl<|Jl.qo rfl rfl rfl<|Jl.qo rfl rfl rfl<|Jl.pv (PR.pickT rfl rfl)<|Jl.pv (PR.qm rfl)<|Jl.qo rfl rfl rfl<|Jl.qo rfl rfl rfl<|Jl.qo rfl rfl rfl<|Jl.qo rfl rfl rfl<|Jl.qo rfl rfl rfl<|Jl.pv (PR.pickT rfl rfl)<|Jl.qn<|Jq.qt<|Jc.condT rfl<|Jc.ret<|Jq.thenR ?_
   rw [intent_no (.inr (.inr (.inl (by simpa using g21))))]
   exact Jq.fin ((M, cM), (I, cI), (K, cK)) (.inl rfl) rfl RetVs.nil rfl zT zF
 try replace g21 := zW g21
 refine Jl.on rfl rfl<|Jl.pv (PR.qm rfl)<|Jl.on rfl rfl ?_
 refine Jl.pv (PR.idx1 2 rfl rfl tsl23 zM rfl rfl (by simp)) ?_
 refine Jl.on rfl rfl ?_
 refine Jl.pv (PR.loadR rfl tsh3 zM rfl) ?_
 refine Jl.on rfl rfl ?_
 refine Jl.pv (PR.gtr _ rfl rfl rfl) ?_
 refine Jl.pv (PR.pickF rfl rfl)<|Jl.pv (PR.qm rfl) ?_
 refine Jl.bsplit (fun g27 => ?_) (fun g27 => ?_)
 · try replace g27 := zV g27
   refine Jl.qo rfl rfl rfl<|Jl.qo rfl rfl rfl<|Jl.qo rfl rfl rfl<|Jl.qo rfl rfl rfl<|Jl.qo rfl rfl rfl<|Jl.pv (PR.pickT rfl rfl)<|Jl.qn<|Jq.qt<|Jc.condT rfl<|Jc.ret<|Jq.thenR ?_
   rw [intent_no (.inr (.inr (.inr (.inl (by simpa using g27)))))]
   exact Jq.fin ((M, cM), (I, cI), (K, cK)) (.inl rfl) rfl RetVs.nil rfl zT zF
 try replace g27 := zW g27
 refine Jl.on rfl rfl<|Jl.pv (PR.qm rfl)<|Jl.on rfl rfl<|Jl.pv (PR.nilCheck rfl)<|Jl.on rfl rfl<|Jl.pv (PR.qf rfl tfl38_1)<|Jl.on rfl rfl ?_
 refine Jl.pv (PR.load1 rfl tsh3 zH (by rfl)) ?_
 refine Jl.on rfl rfl ?_
 refine Jl.pv (PR.geq _ rfl rfl rfl) ?_
 refine Jl.pv (PR.pickF rfl rfl)<|Jl.qn<|Jq.qt ?_
 refine Jc.cond rfl (fun h0 => ?_) (fun h0 => ?_)
 · try replace h0 := zV h0
   refine Jc.ret<|Jq.thenR ?_
   rw [intent_no (.inr (.inr (.inr (.inr h0))))]
   exact Jq.fin ((M, cM), (I, cI), (K, cK)) (.inl rfl) rfl RetVs.nil rfl zT zF
 try replace h0 := zW h0
 have h9 : b.set = true := by simpa using g9
 refine Jc.skip<|Jq.qt<|Jc.qs<|Jc.qr<|Jl.pv (PR.qm rfl)<|Jl.pv (PR.nilCheck rfl)<|Jl.pv (PR.qf rfl tfl38_1) ?_
 refine Jl.pv (PR.load1 rfl tsh3 zH (by rfl)) ?_
 refine Jl.pv (PR.add _ rfl rfl (w64 (by omega) (by omega))) ?_
 refine Jl.pv (PR.nilCheck rfl)<|Jl.pv (PR.qf rfl tfl38_1) ?_
 refine Jl.store1 rfl tsh3 rfl (by rfl) zS (by rfl) ?_
 refine Jl.qn<|Jq.qt ?_
 refine Jc.drawn [0, 0, 2, 6, 14, 0, 32, 96, 224, 0, 512, 1536, 0, 4096, 12288, 0, 32768, 98304, 229376, 524256, 1048544, 2097150, 4194303, 8388607, 16777215] ([], []) [⟨[(0, false), (1, false), (2, false), (3, false), (4, false), (5, false), (6, false), (7, false), (8, false), (9, false), (10, false), (11, false), (12, false), (13, false), (14, false), (15, false), (16, false), (17, false), (18, false), (19, false), (20, true)], [20], 21⟩, ⟨[(22, false), (23, false)], [], 24⟩] tmx (by kernel_rfl) ?_
 refine Dh.JH.cons<|Dh.JB.pv rfl trivial (fun _ => PR.qm rfl)<|Dh.JB.pv rfl trivial (fun _ => PR.qm rfl) ?_
 refine Dh.JB.pv rfl trivial (fun _ => PR.nilCheck rfl) ?_
 refine Dh.JB.pv rfl trivial (fun _ => PR.qf rfl tfl38_4) ?_
 refine Dh.JB.rd [.blk _ _ _] rfl trivial zT (fun _ => PR.load1 rfl tsh33 Has.here (by rfl)) ?_
 refine Dh.JB.pv rfl trivial (fun _ => PR.qm rfl) ?_
 refine Dh.JB.pv rfl trivial (fun _ => PR.nilCheck rfl) ?_
 refine Dh.JB.pv rfl trivial (fun _ => PR.qf rfl tfl38_1) ?_
 refine Dh.JB.rd [.blk _ _ _] rfl trivial zT (fun _ => PR.load1 rfl tsh3 Has.here (by rfl)) ?_
 refine Dh.JB.pv rfl trivial (fun _ => PR.qm rfl) ?_
 refine Dh.JB.pv rfl trivial (fun _ => PR.idx1 0 rfl rfl tsl23 zM rfl rfl (by simp)) ?_
 refine Dh.JB.pv rfl trivial (fun _ => PR.loadR rfl tsh3 zM rfl) ?_
 refine Dh.JB.pv rfl trivial (fun _ => PR.qm rfl) ?_
 refine Dh.JB.pv rfl trivial (fun _ => PR.idx1 1 rfl rfl tsl23 zM rfl rfl (by simp)) ?_
 refine Dh.JB.pv rfl trivial (fun _ => PR.loadR rfl tsh3 zM rfl) ?_
 refine Dh.JB.pv rfl trivial (fun _ => PR.qm rfl) ?_
 refine Dh.JB.pv rfl trivial (fun _ => PR.idx1 2 rfl rfl tsl23 zM rfl rfl (by simp)) ?_
 refine Dh.JB.pv rfl trivial (fun _ => PR.loadR rfl tsh3 zM rfl) ?_
 refine Dh.JB.pv rfl trivial (fun _ => PR.eql _ rfl rfl rfl) ?_
 refine Dh.JB.pv rfl trivial (fun _ => PR.build (by rfl) tze70 tpl70_0_1_2_3 (by rfl)) ?_
 refine Dh.JB.buildSlice rfl trivial (by rfl) tsl33 tzr33_1 (by rfl) (by rfl) ?_
 refine Dh.JB.nil ?_
 refine Dh.JL.sl rfl (by repeat (first | exact Dh.es_here | apply Dh.es_there)) (fun b61 => ?_)
 refine Dh.JL.nil ?_
 refine Dh.JE.mk rfl (fun _ h => by cases h) (fun C2_21 => ?_)
 refine Jl.seal zD ?_
 refine Jl.append (b.its ++ [(⟨b.sq + 1, v, zo, decide (w = 1)⟩ : It1)]).length (itsV (b.its ++ [⟨b.sq + 1, v, zo, decide (w = 1)⟩])) rfl rfl rfl tsl33 tze70 (by rfl) (by decide) tby70 (fun _ _ => zS) zM (by simp) (by rw [itsV_app]) rfl (its_one [⟨b.sq + 1, v, zo, decide (w = 1)⟩]) (by omega) (by decide) ?_
 intro A62 c62
 refine Jl.qn ?_
 refine Dh.Jq.segV zX ?_ zK
 refine Dh.JH.cons ?_
 refine Dh.JB.pv rfl trivial (fun _ => PR.nilCheck rfl) ?_
 refine Dh.JB.pv rfl trivial (fun _ => PR.qf rfl tfl38_4)<|Dh.JB.nil<|Dh.JL.nil ?_
 refine Dh.JE.mk rfl (fun _ h => by cases h) (fun C2_24 => ?_)
 refine Jl.store1 rfl tsh33 rfl (by rfl) zS (by rfl) ?_
 refine Jl.qn ?_
 refine Dh.Jq.segN zX ?_ zK
 refine Dh.JH.nil ?_
 refine Dh.JB.nil<|Dh.JL.nil ?_
 rw [intent_yes h9 (by simpa using g15) (by simpa using g21) (by simpa using g27) h0]
 exact Jq.fin ((M, cM), (A62, c62), (K, cK)) (.inr rfl) rfl RetVs.nil rfl zT zF
 -- hint not used: one
theorem take1_no {b : Br} {id t v z now : Int} (h : id < 1 ∨ (b.findK id).isSome = true) : b.take1 id t v z now = b := by
 rw [Br.take1, if_neg]
 simp only [Bool.and_eq_true, decide_eq_true_eq]
 rintro ⟨a1, a2⟩
 rcases h with h | h
 · omega
 · rw [Option.isNone_iff_eq_none] at a2; rw [a2] at h; cases h
theorem take1_yes {b : Br} {id t v z now : Int} (h1 : 1 ≤ id) (h : b.findK id = none) : b.take1 id t v z now = { b with kps := insL b.kps (insAt b.kps id) ⟨id, t, v, z, 8, now, false, false⟩ } := by
 rw [Br.take1, if_pos]
 simp [h, h1]
theorem dtake_ct (b : Br) (z : BrA) (bb : Nat) (L : Option Addr) (cL : Nat) (id t v zo now : Int) (hm : b.kps.length ≤ 900000) : Ct Tryz.prog 87 [ptr bb, .slice L [id, t, v, zo, now].length cL] (b.st bb z) [.rd L (i64s [id, t, v, zo, now])] (fun _ : BrA => .tuple #[]) (fun z' => (b.take1 id t v zo now).st bb z') (fun _ => []) := by
  obtain ⟨⟨M, cM⟩, ⟨I, cI⟩, ⟨K, cK⟩⟩ := z
  by_cases hid : 1 ≤ id
  · cases hf : b.findK id with
    | none =>
      rw [take1_yes hid hf]
      refine Ct.of _ Tryz.func87 Tryz.ntmps87 rfl rfl (fun X W => ?_)
      refine Jc.qs ?_
      refine Jc.drawn [0, 1, 3, 7, 15, 31, 63, 127, 31, 287, 799, 2047, 4095, 8191] ([(12, false), (13, false)], []) [⟨[(0, false), (1, false), (2, false), (3, false), (4, false), (5, false), (6, false), (7, false), (8, false), (9, false), (10, false)], [], 11⟩] tmx (by kernel_rfl) ?_
      refine Dh.JH.cons<|Dh.JB.pv rfl trivial (fun _ => PR.qm rfl) ?_
      refine Dh.JB.pv rfl trivial (fun _ => PR.idx1 0 rfl rfl tsl23 zM rfl rfl (by simp)) ?_
      refine Dh.JB.pv rfl trivial (fun _ => PR.loadR rfl tsh3 zM rfl) ?_
      refine Dh.JB.pv rfl trivial (fun _ => PR.geq true rfl rfl (decide_eq_true hid)) ?_
      refine Dh.JB.pv rfl trivial (fun _ => PR.qm rfl) ?_
      refine Dh.JB.pv rfl ⟨_, rfl, rfl⟩ (fun _ => PR.qm rfl) ?_
      refine Dh.JB.pv rfl ⟨_, rfl, rfl⟩ (fun _ => PR.nilCheck rfl) ?_
      refine Dh.JB.rd [.blk _ _ _] rfl ⟨_, rfl, rfl⟩ zT (fun _ => PR.loadA rfl tsh38 Has.here (by rfl)) ?_
      refine Dh.JB.pv rfl ⟨_, rfl, rfl⟩ (fun _ => PR.qm rfl) ?_
      refine Dh.JB.pv rfl ⟨_, rfl, rfl⟩ (fun _ => PR.idx1 0 rfl rfl tsl23 zM rfl rfl (by simp)) ?_
      refine Dh.JB.pv rfl ⟨_, rfl, rfl⟩ (fun _ => PR.loadR rfl tsh3 zM rfl) ?_
      refine Dh.JB.nil<|Dh.JL.nil ?_
      refine Dh.JE.mk rfl (fun _ h => by cases h) (fun C0_11 => ?_)
      refine Jl.on rfl rfl ?_
      refine Jl.calll (fs := []) (cs := []) (bfind_ct b ((M, cM), (I, cI), (K, cK)) id (by omega)) en116 rfl (by rfl) (by rfl) zT (ls := [b.rM ((M, cM), (I, cI), (K, cK)), b.rI ((M, cM), (I, cI), (K, cK)), b.rK ((M, cM), (I, cI), (K, cK))]) zT zL zF ?_
      rintro ⟨⟩
      refine Jl.as (.int .i64 (-1)) (by rw [hf]; rfl) ?_
      refine Jl.qn ?_
      refine Dh.Jq.segV zX ?_ zK
      refine Dh.JH.nil ?_
      refine Dh.JB.pv rfl ⟨_, rfl, rfl⟩ (fun _ => PR.lss true rfl rfl (by decide)) ?_
      refine Dh.JB.pv rfl trivial (fun _ => PR.pickT rfl rfl) ?_
      refine Dh.JB.nil<|Dh.JL.nil<|Jq.qt<|Jc.condT rfl ?_
      refine Jc.drawn [0, 0, 2, 6, 0, 16, 48, 0, 128, 384, 0, 1024, 3072, 0, 8192, 24576, 65534, 131071] ([], []) [⟨[(0, false), (1, false), (2, false), (3, false), (4, false), (5, false), (6, false), (7, false), (8, false), (9, false), (10, false), (11, false), (12, false), (13, false), (14, false), (15, false), (16, false)], [], 17⟩] tmx (by kernel_rfl) ?_
      refine Dh.JH.cons<|Dh.JB.pv rfl trivial (fun _ => PR.qm rfl)<|Dh.JB.pv rfl trivial (fun _ => PR.qm rfl) ?_
      refine Dh.JB.pv rfl trivial (fun _ => PR.idx1 0 rfl rfl tsl23 zM rfl rfl (by simp)) ?_
      refine Dh.JB.pv rfl trivial (fun _ => PR.loadR rfl tsh3 zM rfl) ?_
      refine Dh.JB.pv rfl trivial (fun _ => PR.qm rfl) ?_
      refine Dh.JB.pv rfl trivial (fun _ => PR.idx1 1 rfl rfl tsl23 zM rfl rfl (by simp)) ?_
      refine Dh.JB.pv rfl trivial (fun _ => PR.loadR rfl tsh3 zM rfl) ?_
      refine Dh.JB.pv rfl trivial (fun _ => PR.qm rfl) ?_
      refine Dh.JB.pv rfl trivial (fun _ => PR.idx1 2 rfl rfl tsl23 zM rfl rfl (by simp)) ?_
      refine Dh.JB.pv rfl trivial (fun _ => PR.loadR rfl tsh3 zM rfl) ?_
      refine Dh.JB.pv rfl trivial (fun _ => PR.qm rfl) ?_
      refine Dh.JB.pv rfl trivial (fun _ => PR.idx1 3 rfl rfl tsl23 zM rfl rfl (by simp)) ?_
      refine Dh.JB.pv rfl trivial (fun _ => PR.loadR rfl tsh3 zM rfl) ?_
      refine Dh.JB.pv rfl trivial (fun _ => PR.qm rfl) ?_
      refine Dh.JB.pv rfl trivial (fun _ => PR.idx1 4 rfl rfl tsl23 zM rfl rfl (by simp)) ?_
      refine Dh.JB.pv rfl trivial (fun _ => PR.loadR rfl tsh3 zM rfl) ?_
      refine Dh.JB.pv rfl trivial (fun _ => PR.build (by rfl) tze72 tpl72_0_1_2_3_4_5 (by rfl)) ?_
      refine Dh.JB.nil<|Dh.JL.nil ?_
      refine Dh.JE.mk rfl (fun _ h => by cases h) (fun C1_17 => ?_)
      refine Jl.call (bkeep_ct b ((M, cM), (I, cI), (K, cK)) bb ⟨id, t, v, zo, 8, now, false, false⟩ hm) en118 (by rfl) zT zF ?_
      rintro z'
      refine Jl.qn ?_
      refine Dh.Jq.segV zX ?_ zK
      refine Dh.JH.nil ?_
      refine Dh.JB.nil<|Dh.JL.nil ?_
      exact Jq.fin z' (.inr rfl) rfl RetVs.nil rfl zT zF
      -- hint not used: one
    | some i =>
      rw [take1_no (.inr (by rw [hf]; rfl))]
      refine Ct.of _ Tryz.func87 Tryz.ntmps87 rfl rfl (fun X W => ?_)
      refine Jc.qs ?_
      refine Jc.drawn [0, 1, 3, 7, 15, 31, 63, 127, 31, 287, 799, 2047, 4095, 8191] ([(12, false), (13, false)], []) [⟨[(0, false), (1, false), (2, false), (3, false), (4, false), (5, false), (6, false), (7, false), (8, false), (9, false), (10, false)], [], 11⟩] tmx (by kernel_rfl) ?_
      refine Dh.JH.cons<|Dh.JB.pv rfl trivial (fun _ => PR.qm rfl) ?_
      refine Dh.JB.pv rfl trivial (fun _ => PR.idx1 0 rfl rfl tsl23 zM rfl rfl (by simp)) ?_
      refine Dh.JB.pv rfl trivial (fun _ => PR.loadR rfl tsh3 zM rfl) ?_
      refine Dh.JB.pv rfl trivial (fun _ => PR.geq true rfl rfl (decide_eq_true hid)) ?_
      refine Dh.JB.pv rfl trivial (fun _ => PR.qm rfl) ?_
      refine Dh.JB.pv rfl ⟨_, rfl, rfl⟩ (fun _ => PR.qm rfl) ?_
      refine Dh.JB.pv rfl ⟨_, rfl, rfl⟩ (fun _ => PR.nilCheck rfl) ?_
      refine Dh.JB.rd [.blk _ _ _] rfl ⟨_, rfl, rfl⟩ zT (fun _ => PR.loadA rfl tsh38 Has.here (by rfl)) ?_
      refine Dh.JB.pv rfl ⟨_, rfl, rfl⟩ (fun _ => PR.qm rfl) ?_
      refine Dh.JB.pv rfl ⟨_, rfl, rfl⟩ (fun _ => PR.idx1 0 rfl rfl tsl23 zM rfl rfl (by simp)) ?_
      refine Dh.JB.pv rfl ⟨_, rfl, rfl⟩ (fun _ => PR.loadR rfl tsh3 zM rfl) ?_
      refine Dh.JB.nil<|Dh.JL.nil ?_
      refine Dh.JE.mk rfl (fun _ h => by cases h) (fun C0_11 => ?_)
      refine Jl.on rfl rfl ?_
      refine Jl.calll (fs := []) (cs := []) (bfind_ct b ((M, cM), (I, cI), (K, cK)) id (by omega)) en116 rfl (by rfl) (by rfl) zT (ls := [b.rM ((M, cM), (I, cI), (K, cK)), b.rI ((M, cM), (I, cI), (K, cK)), b.rK ((M, cM), (I, cI), (K, cK))]) zT zL zF ?_
      rintro ⟨⟩
      refine Jl.as (.int .i64 (i : Int)) (by rw [hf]; rfl) ?_
      refine Jl.qn ?_
      refine Dh.Jq.segV zX ?_ zK
      refine Dh.JH.nil ?_
      refine Dh.JB.pv rfl ⟨_, rfl, rfl⟩ (fun _ => PR.lss false rfl rfl (decide_eq_false (by omega))) ?_
      refine Dh.JB.pv rfl trivial (fun _ => PR.pickT rfl rfl) ?_
      refine Dh.JB.nil<|Dh.JL.nil<|Jq.qt<|Jc.condF rfl<|Jc.skip ?_
      exact Jq.fin ((M, cM), (I, cI), (K, cK)) (.inr rfl) rfl RetVs.nil rfl zT zF
      -- hint not used: one
  · rw [take1_no (.inl (by omega))]
    refine Ct.of _ Tryz.func87 Tryz.ntmps87 rfl rfl (fun X W => ?_)
    refine Jc.qs ?_
    refine Jc.drawn [0, 1, 3, 7, 15, 31, 63, 127, 31, 287, 799, 2047, 4095, 8191] ([(12, false), (13, false)], []) [⟨[(0, false), (1, false), (2, false), (3, false), (4, false), (5, false), (6, false), (7, false), (8, false), (9, false), (10, false)], [], 11⟩] tmx (by kernel_rfl) ?_
    refine Dh.JH.cons<|Dh.JB.pv rfl trivial (fun _ => PR.qm rfl) ?_
    refine Dh.JB.pv rfl trivial (fun _ => PR.idx1 0 rfl rfl tsl23 zM rfl rfl (by simp)) ?_
    refine Dh.JB.pv rfl trivial (fun _ => PR.loadR rfl tsh3 zM rfl) ?_
    refine Dh.JB.pv rfl trivial (fun _ => PR.geq false rfl rfl (decide_eq_false hid)) ?_
    refine Dh.JB.pv rfl trivial (fun _ => PR.qm rfl)<|Dh.JB.off rfl ⟨_, rfl, .inr rfl⟩<|Dh.JB.off rfl ⟨_, rfl, .inr rfl⟩<|Dh.JB.off rfl ⟨_, rfl, .inr rfl⟩<|Dh.JB.off rfl ⟨_, rfl, .inr rfl⟩<|Dh.JB.off rfl ⟨_, rfl, .inr rfl⟩<|Dh.JB.off rfl ⟨_, rfl, .inr rfl⟩<|Dh.JB.nil<|Dh.JL.nil ?_
    refine Dh.JE.mk rfl (fun _ h => by cases h) (fun C0_11 => ?_)
    refine Jl.qo rfl rfl rfl<|Jl.qn ?_
    refine Dh.Jq.segV zX ?_ zK
    refine Dh.JH.nil ?_
    refine Dh.JB.off rfl ⟨_, rfl, .inr rfl⟩ ?_
    refine Dh.JB.pv rfl trivial (fun _ => PR.pickF rfl rfl) ?_
    refine Dh.JB.nil<|Dh.JL.nil<|Jq.qt<|Jc.condF rfl<|Jc.skip ?_
    exact Jq.fin ((M, cM), (I, cI), (K, cK)) (.inr rfl) rfl RetVs.nil rfl zT zF
    -- hint not used: one
end Go.Proofs.YtakbgccddokbbaaGreatDoor
namespace Go.Proofs.YtakbgccddokbbaaGreatDoor
open Go.RowKit
attribute [local irreducible] Res.blk Res.row Fact.rd
theorem tidx_ct (K : Option Addr) (c : Nat) (l : List It1) (q : It1 → Bool) (g : FuncId) (bd : Nat) (T : TypeId) (cc : List Value) (hg : ∀ x : It1, Ct Tryz.prog g [x.v, .pointer (some ⟨bd, 0, none⟩)] [.blk bd T cc] [] (fun _ : Unit => .bool (q x)) (fun _ => [.blk bd T cc]) (fun _ => []))
 (hen : ∀ args w, (callFunc g args).run Tryz.prog w = .ok (.enter g args) w) (hn : l.length ≤ 1000000) :
 Ct Tryz.prog 136 [.slice K l.length c, .func (.func g) #[] #[.pointer (some ⟨bd, 0, none⟩)]] [.blk bd T cc] [.rd K (itsV l)] (fun _ : Unit => .int .i64 (plcI (l.findIdx? q))) (fun _ => [.blk bd T cc]) (fun _ => []) := by
 have hl8 := itsV_len l
 refine Ct.of _ Tryz.func136 Tryz.ntmps136 rfl rfl (fun X W => ?_)
 refine Jc.qs<|Jc.qr<|Jl.pv (PR.qa rfl)<|Jl.qn<|Jq.qt<|Jc.qs<|Jc.qs<|Jc.qr<|Jl.pv (PR.qm rfl) ?_
 refine Jl.pv (PR.len rfl tsl33) ?_
 refine Jl.pv (PR.qm rfl)<|Jl.qn<|Jq.qt ?_
 refine Jc.block ?_
 refine Jc.loop (σ := { k : Nat // k ≤ l.length ∧ ∀ j (h : j < l.length), j < k → q l[j] = false }) (fun s => [(8, .int .i64 (s.1 : Int)), (7, .int .i64 (l.length : Int)), (1, .func (.func g) #[] #[.pointer (some ⟨bd, 0, none⟩)]), (0, .slice K l.length c)]) (fun _ => [.blk bd T cc]) (fun _ => [.rd K (itsV l)]) (fun s => l.length - s.1) ⟨0, Nat.zero_le _, fun j h h2 => by omega⟩ (by repeat (first | exact trivial | refine And.intro rfl ?_)) rfl zF ?_
 rintro ⟨k, hk, hq⟩
 show Jc _ _ _ _ _ _ [(8, Value.int .i64 (k : Int)), (7, .int .i64 (l.length : Int)), (1, .func (.func g) #[] #[.pointer (some ⟨bd, 0, none⟩)]), (0, .slice K l.length c)] [.blk bd T cc] [.rd K (itsV l)]
 refine Jc.qs<|Jc.qr ?_
 refine Jl.pv (PR.lss _ rfl rfl rfl) ?_
 refine Jl.qn<|Jq.qt<|Jc.qs ?_
 refine Jc.cond rfl (fun h0 => ?_) (fun h0 => ?_)
 · try replace h0 := zV h0
   have hlt : k < l.length := by omega
   refine Jc.skip<|Jq.qt<|Jc.qs ?_
   refine Jc.block ?_
   refine Jc.qs<|Jc.qr<|Jl.pv (PR.qm rfl)<|Jl.pv (PR.qa rfl)<|Jl.qn<|Jq.qt<|Jc.qs<|Jc.qr<|Jl.pv (PR.qm rfl)<|Jl.pv (PR.qm rfl)<|Jl.pv (PR.qm rfl) ?_
   refine Jl.pv (PR.idx k rfl rfl tsl33 zM (itsV_len _) (by omega) rfl hlt) ?_
   refine Jl.pv (PR.loadRA rfl tsh70 zM (by decide) (its_at hlt)) ?_
   refine Jl.callv (hg l[k]) hen rfl (by rfl) (by rfl) zT zF ?_
   rintro ⟨⟩
   refine Jl.qn<|Jq.qt ?_
   refine Jc.cond rfl (fun h1 => ?_) (fun h1 => ?_)
   · try replace h1 := zV h1
     refine Jc.qs<|Jc.qr<|Jl.pv (PR.qm rfl)<|Jl.pv (PR.qa rfl)<|Jl.qn<|Jq.qt<|Jc.ret ?_
     refine Jq.blkR ?_
     refine Jq.thenR<|Jq.thenR ?_
     refine Jq.blkR ?_
     refine Jq.thenR ?_
     exact Jq.fin () (.inl rfl) rfl (RetVs.tmp rfl RetVs.nil) (by rw [fidx_at hlt h1 hq]; rfl) zT zF
   try replace h1 := zW h1
   refine Jc.skip ?_
   refine Jq.blkN ?_
   refine Jq.qt<|Jc.qr ?_
   refine Jl.pv (PR.add ((k + 1 : Nat) : Int) rfl rfl (by rw [w64 (by omega) (by omega)]; rfl)) ?_
   refine Jl.pv (PR.qm rfl)<|Jl.qn ?_
   exact Jq.againT ⟨k + 1, hlt, fun j hj hjk => by rcases Nat.lt_succ_iff_lt_or_eq.1 hjk with h | rfl; exact hq j hj h; exact h1⟩ (by simp only; omega) (by repeat (first | exact trivial | refine And.intro rfl ?_)) zT zF
 try replace h0 := zW h0
 refine Jc.exit ?_
 refine Jq.thenX ?_
 refine Jq.thenX ?_
 refine Jq.blkX ?_
 refine Jq.qt<|Jc.qs<|Jc.qr<|Jl.pv (PR.qa rfl)<|Jl.qn<|Jq.qt<|Jc.ret ?_
 exact Jq.fin () (.inl rfl) rfl (RetVs.tmp rfl RetVs.nil) (by rw [fidx_none fun j hj => hq j hj (by omega)]; rfl) zT zF
 -- hint not used: one
theorem tok1_ct (t : Int) (bd : Nat) (x : It1) : Ct Tryz.prog 137 [x.v, .pointer (some ⟨bd, 0, none⟩)] [.blk bd 3 [.int .i64 t]] [] (fun _ : Unit => .bool (decide (x.tok = t))) (fun _ => [.blk bd 3 [.int .i64 t]]) (fun _ => []) := by
 refine Ct.of _ Tryz.func137 Tryz.ntmps137 rfl rfl (fun X W => ?_)
 refine Jc.qs<|Jc.qr ?_
 refine Jl.box rfl (by rfl) ?_
 intro b2
 refine Jl.pv (PR.qa rfl)<|Jl.qn<|Jq.qt<|Jc.qs<|Jc.qr<|Jl.pv (PR.qf rfl tfl70_0) ?_
 refine Jl.pv (PR.load1 rfl tsh3 zH (by rfl)) ?_
 refine Jl.pv (PR.load1 rfl tsh3 zH (by rfl)) ?_
 refine Jl.pv (PR.eql _ rfl rfl rfl) ?_
 refine Jl.pv (PR.qa rfl)<|Jl.qn<|Jq.qt<|Jc.ret ?_
 exact Jq.fin () (.inl rfl) rfl (RetVs.tmp rfl RetVs.nil) rfl zT zF
 -- hint not used: one
theorem btok_ct (b : Br) (z : BrA) (t : Int) (hm : b.its.length ≤ 1000000) : Ct Tryz.prog 115 [b.v z, .int .i64 t] [] (b.rd z) (fun _ : Unit => .int .i64 (plcI (b.findT t))) (fun _ => []) (fun _ => []) := by
 obtain ⟨⟨M, cM⟩, ⟨I, cI⟩, ⟨K, cK⟩⟩ := z
 refine Ct.of _ Tryz.func115 Tryz.ntmps115 rfl rfl (fun X W => ?_)
 refine Jc.qs<|Jc.qr ?_
 refine Jl.box rfl (by rfl) ?_
 intro b2
 refine Jl.box rfl (by rfl) ?_
 intro b3
 refine Jl.pv (PR.qa rfl)<|Jl.qn<|Jq.qt<|Jc.qs<|Jc.qr<|Jl.pv (PR.qf rfl tfl38_4) ?_
 refine Jl.pv (PR.load1 rfl tsh33 zH (by rfl)) ?_
 refine Jl.pv (PR.makeFunc rfl rfl) ?_
 refine Jl.call (tidx_ct I cI b.its (fun x => decide (x.tok = t)) 137 b3 3 [.int .i64 t] (tok1_ct t b3) en137 hm) en136 (by rfl) zT zF ?_
 rintro ⟨⟩
 refine Jl.pv (PR.qa rfl)<|Jl.qn<|Jq.qt<|Jc.ret ?_
 exact Jq.fin () (.inl rfl) rfl (RetVs.tmp rfl RetVs.nil) rfl zT zF
 -- hint not used: one
theorem mk1_none {b : Br} {t id now : Int} (h : b.findT t = none) : b.mk1 t id now = b := by rw [Br.mk1, h]
theorem mk1_no {b : Br} {t id now : Int} (h : id < 1 ∨ (b.findK id).isSome = true) : b.mk1 t id now = b := by
  rw [Br.mk1]
  cases b.findT t with
  | none => rfl
  | some i =>
    dsimp only
    rw [if_pos]
    simpa using h
theorem mk1_yes {b : Br} {t id now : Int} {i : Nat} (hi : i < b.its.length) (h : b.findT t = some i) (h1 : ¬ id < 1) (h2 : b.findK id = none) : b.mk1 t id now = b.made i (insAt b.kps id) b.its[i] id now := by
 rw [Br.mk1, h]
 dsimp only
 rw [if_neg (by simp [h1, h2]), List.getD_eq_getElem?_getD, List.getElem?_eq_getElem hi]
 rfl
theorem made_act {b : Br} {i a : Nat} {x : It1} {id now : Int} (h : (b.rf.st.toNat : Int) = 1) : b.made i a x id now = { b with its := eraL b.its i, kps := insL b.kps a (madeK x id now), rf := { b.rf with fa := 0 } } := by
 rw [Br.made, Br.rf0, if_pos (show b.act = true from decide_eq_true (by omega))]
theorem made_na {b : Br} {i a : Nat} {x : It1} {id now : Int} (h : ¬ (b.rf.st.toNat : Int) = 1) : b.made i a x id now = { b with its := eraL b.its i, kps := insL b.kps a (madeK x id now) } := by
 rw [Br.made, Br.rf0, if_neg (show ¬ b.act = true from fun h2 => h (by have := of_decide_eq_true h2; omega))]
theorem dmade_ct (b : Br) (z : BrA) (bb : Nat) (L : Option Addr) (cL : Nat) (t id now : Int) (h1 : b.its.length ≤ 900000) (hm : b.kps.length ≤ 900000) : Ct Tryz.prog 86 [ptr bb, .slice L [t, id, now].length cL] (b.st bb z) [.rd L (i64s [t, id, now])] (fun _ : BrA => .tuple #[]) (fun z' => (b.mk1 t id now).st bb z') (fun _ => []) := by
  obtain ⟨⟨M, cM⟩, ⟨I, cI⟩, ⟨K, cK⟩⟩ := z
  cases ht : b.findT t with
  | none =>
    rw [mk1_none ht]
    refine Ct.of _ Tryz.func86 Tryz.ntmps86 rfl rfl (fun X W => ?_)
    refine Jc.qs ?_
    refine Jc.drawn [0, 1, 3, 0, 8, 24, 63, 127] ([(7, false)], []) [⟨[(0, false), (1, false), (2, false), (3, false), (4, false), (5, false)], [], 6⟩] tmx (by kernel_rfl) ?_
    refine Dh.JH.cons<|Dh.JB.pv rfl trivial (fun _ => PR.qm rfl) ?_
    refine Dh.JB.pv rfl trivial (fun _ => PR.nilCheck rfl) ?_
    refine Dh.JB.rd [.blk _ _ _] rfl trivial zT (fun _ => PR.loadA rfl tsh38 Has.here (by rfl)) ?_
    refine Dh.JB.pv rfl trivial (fun _ => PR.qm rfl) ?_
    refine Dh.JB.pv rfl trivial (fun _ => PR.idx1 0 rfl rfl tsl23 zM rfl rfl (by simp)) ?_
    refine Dh.JB.pv rfl trivial (fun _ => PR.loadR rfl tsh3 zM rfl) ?_
    refine Dh.JB.nil<|Dh.JL.nil ?_
    refine Dh.JE.mk rfl (fun _ h => by cases h) (fun C0_6 => ?_)
    refine Jl.calll (fs := []) (cs := []) (btok_ct b ((M, cM), (I, cI), (K, cK)) t (by omega)) en115 rfl (by rfl) (by rfl) zT (ls := [b.rM ((M, cM), (I, cI), (K, cK)), b.rI ((M, cM), (I, cI), (K, cK)), b.rK ((M, cM), (I, cI), (K, cK))]) zT zL zF ?_
    rintro ⟨⟩
    refine Jl.as (.int .i64 (-1)) (by rw [ht]; rfl) ?_
    refine Jl.qn ?_
    refine Dh.Jq.segV zX ?_ zK
    refine Dh.JH.nil ?_
    refine Dh.JB.pv rfl trivial (fun _ => PR.qa rfl) ?_
    refine Dh.JB.nil<|Dh.JL.nil<|Jq.qt<|Jc.qs<|Jc.qs ?_
    refine Jc.drawn [0, 1, 3, 7, 15, 31, 63, 127, 255, 511, 1023, 2047, 511, 4607, 12799, 32767, 65535, 131071] ([(16, false), (17, false)], []) [⟨[(0, false), (1, false), (2, false), (3, false), (4, false), (5, false), (6, false), (7, false), (8, false), (9, false), (10, false), (11, false), (12, false), (13, false), (14, false)], [], 15⟩] tmx (by kernel_rfl) ?_
    refine Dh.JH.cons<|Dh.JB.pv rfl trivial (fun _ => PR.qm rfl) ?_
    refine Dh.JB.pv rfl trivial (fun _ => PR.lss true rfl rfl (by decide)) ?_
    refine Dh.JB.pv rfl trivial (fun _ => PR.qm rfl)<|Dh.JB.off rfl ⟨_, rfl, .inr rfl⟩<|Dh.JB.off rfl ⟨_, rfl, .inr rfl⟩<|Dh.JB.off rfl ⟨_, rfl, .inr rfl⟩<|Dh.JB.off rfl ⟨_, rfl, .inr rfl⟩ ?_
    refine Dh.JB.pv rfl trivial (fun _ => PR.pickT rfl rfl) ?_
    refine Dh.JB.pv rfl trivial (fun _ => PR.qm rfl)<|Dh.JB.off rfl ⟨_, rfl, .inr rfl⟩<|Dh.JB.off rfl ⟨_, rfl, .inr rfl⟩<|Dh.JB.off rfl ⟨_, rfl, .inr rfl⟩<|Dh.JB.off rfl ⟨_, rfl, .inr rfl⟩<|Dh.JB.off rfl ⟨_, rfl, .inr rfl⟩<|Dh.JB.off rfl ⟨_, rfl, .inr rfl⟩<|Dh.JB.nil<|Dh.JL.nil ?_
    refine Dh.JE.mk rfl (fun _ h => by cases h) (fun C1_15 => ?_)
    refine Jl.qo rfl rfl rfl<|Jl.qn ?_
    refine Dh.Jq.segV zX ?_ zK
    refine Dh.JH.nil ?_
    refine Dh.JB.off rfl ⟨_, rfl, .inr rfl⟩ ?_
    refine Dh.JB.pv rfl trivial (fun _ => PR.pickT rfl rfl) ?_
    refine Dh.JB.nil<|Dh.JL.nil<|Jq.qt<|Jc.condT rfl<|Jc.ret<|Jq.thenR ?_
    exact Jq.fin ((M, cM), (I, cI), (K, cK)) (.inl rfl) rfl RetVs.nil rfl zT zF
    -- hint not used: one
  | some i =>
    obtain ⟨hi, -⟩ := findT_some ht
    by_cases hid : id < 1
    · rw [mk1_no (.inl hid)]
      refine Ct.of _ Tryz.func86 Tryz.ntmps86 rfl rfl (fun X W => ?_)
      refine Jc.qs ?_
      refine Jc.drawn [0, 1, 3, 0, 8, 24, 63, 127] ([(7, false)], []) [⟨[(0, false), (1, false), (2, false), (3, false), (4, false), (5, false)], [], 6⟩] tmx (by kernel_rfl) ?_
      refine Dh.JH.cons<|Dh.JB.pv rfl trivial (fun _ => PR.qm rfl) ?_
      refine Dh.JB.pv rfl trivial (fun _ => PR.nilCheck rfl) ?_
      refine Dh.JB.rd [.blk _ _ _] rfl trivial zT (fun _ => PR.loadA rfl tsh38 Has.here (by rfl)) ?_
      refine Dh.JB.pv rfl trivial (fun _ => PR.qm rfl) ?_
      refine Dh.JB.pv rfl trivial (fun _ => PR.idx1 0 rfl rfl tsl23 zM rfl rfl (by simp)) ?_
      refine Dh.JB.pv rfl trivial (fun _ => PR.loadR rfl tsh3 zM rfl) ?_
      refine Dh.JB.nil<|Dh.JL.nil ?_
      refine Dh.JE.mk rfl (fun _ h => by cases h) (fun C0_6 => ?_)
      refine Jl.calll (fs := []) (cs := []) (btok_ct b ((M, cM), (I, cI), (K, cK)) t (by omega)) en115 rfl (by rfl) (by rfl) zT (ls := [b.rM ((M, cM), (I, cI), (K, cK)), b.rI ((M, cM), (I, cI), (K, cK)), b.rK ((M, cM), (I, cI), (K, cK))]) zT zL zF ?_
      rintro ⟨⟩
      refine Jl.as (.int .i64 (i : Int)) (by rw [ht]; rfl) ?_
      refine Jl.qn ?_
      refine Dh.Jq.segV zX ?_ zK
      refine Dh.JH.nil ?_
      refine Dh.JB.pv rfl trivial (fun _ => PR.qa rfl) ?_
      refine Dh.JB.nil<|Dh.JL.nil<|Jq.qt<|Jc.qs<|Jc.qs ?_
      refine Jc.drawn [0, 1, 3, 7, 15, 31, 63, 127, 255, 511, 1023, 2047, 511, 4607, 12799, 32767, 65535, 131071] ([(16, false), (17, false)], []) [⟨[(0, false), (1, false), (2, false), (3, false), (4, false), (5, false), (6, false), (7, false), (8, false), (9, false), (10, false), (11, false), (12, false), (13, false), (14, false)], [], 15⟩] tmx (by kernel_rfl) ?_
      refine Dh.JH.cons<|Dh.JB.pv rfl trivial (fun _ => PR.qm rfl) ?_
      refine Dh.JB.pv rfl trivial (fun _ => PR.lss false rfl rfl (decide_eq_false (by omega))) ?_
      refine Dh.JB.pv rfl trivial (fun _ => PR.qm rfl) ?_
      refine Dh.JB.pv rfl ⟨_, rfl, rfl⟩ (fun _ => PR.qm rfl) ?_
      refine Dh.JB.pv rfl ⟨_, rfl, rfl⟩ (fun _ => PR.idx1 1 rfl rfl tsl23 zM rfl rfl (by simp)) ?_
      refine Dh.JB.pv rfl ⟨_, rfl, rfl⟩ (fun _ => PR.loadR rfl tsh3 zM rfl) ?_
      refine Dh.JB.pv rfl ⟨_, rfl, rfl⟩ (fun _ => PR.lss true rfl rfl (decide_eq_true hid)) ?_
      refine Dh.JB.pv rfl trivial (fun _ => PR.pickF rfl rfl) ?_
      refine Dh.JB.pv rfl trivial (fun _ => PR.qm rfl)<|Dh.JB.off rfl ⟨_, rfl, .inr rfl⟩<|Dh.JB.off rfl ⟨_, rfl, .inr rfl⟩<|Dh.JB.off rfl ⟨_, rfl, .inr rfl⟩<|Dh.JB.off rfl ⟨_, rfl, .inr rfl⟩<|Dh.JB.off rfl ⟨_, rfl, .inr rfl⟩<|Dh.JB.off rfl ⟨_, rfl, .inr rfl⟩<|Dh.JB.nil<|Dh.JL.nil ?_
      refine Dh.JE.mk rfl (fun _ h => by cases h) (fun C1_15 => ?_)
      refine Jl.qo rfl rfl rfl<|Jl.qn ?_
      refine Dh.Jq.segV zX ?_ zK
      refine Dh.JH.nil ?_
      refine Dh.JB.off rfl ⟨_, rfl, .inr rfl⟩ ?_
      refine Dh.JB.pv rfl trivial (fun _ => PR.pickT rfl rfl) ?_
      refine Dh.JB.nil<|Dh.JL.nil<|Jq.qt<|Jc.condT rfl<|Jc.ret<|Jq.thenR ?_
      exact Jq.fin ((M, cM), (I, cI), (K, cK)) (.inl rfl) rfl RetVs.nil rfl zT zF
      -- hint not used: one
    · cases hf : b.findK id with
      | some j =>
        rw [mk1_no (.inr (by rw [hf]; rfl))]
        refine Ct.of _ Tryz.func86 Tryz.ntmps86 rfl rfl (fun X W => ?_)
        refine Jc.qs ?_
        refine Jc.drawn [0, 1, 3, 0, 8, 24, 63, 127] ([(7, false)], []) [⟨[(0, false), (1, false), (2, false), (3, false), (4, false), (5, false)], [], 6⟩] tmx (by kernel_rfl) ?_
        refine Dh.JH.cons<|Dh.JB.pv rfl trivial (fun _ => PR.qm rfl) ?_
        refine Dh.JB.pv rfl trivial (fun _ => PR.nilCheck rfl) ?_
        refine Dh.JB.rd [.blk _ _ _] rfl trivial zT (fun _ => PR.loadA rfl tsh38 Has.here (by rfl)) ?_
        refine Dh.JB.pv rfl trivial (fun _ => PR.qm rfl) ?_
        refine Dh.JB.pv rfl trivial (fun _ => PR.idx1 0 rfl rfl tsl23 zM rfl rfl (by simp)) ?_
        refine Dh.JB.pv rfl trivial (fun _ => PR.loadR rfl tsh3 zM rfl) ?_
        refine Dh.JB.nil<|Dh.JL.nil ?_
        refine Dh.JE.mk rfl (fun _ h => by cases h) (fun C0_6 => ?_)
        refine Jl.calll (fs := []) (cs := []) (btok_ct b ((M, cM), (I, cI), (K, cK)) t (by omega)) en115 rfl (by rfl) (by rfl) zT (ls := [b.rM ((M, cM), (I, cI), (K, cK)), b.rI ((M, cM), (I, cI), (K, cK)), b.rK ((M, cM), (I, cI), (K, cK))]) zT zL zF ?_
        rintro ⟨⟩
        refine Jl.as (.int .i64 (i : Int)) (by rw [ht]; rfl) ?_
        refine Jl.qn ?_
        refine Dh.Jq.segV zX ?_ zK
        refine Dh.JH.nil ?_
        refine Dh.JB.pv rfl trivial (fun _ => PR.qa rfl) ?_
        refine Dh.JB.nil<|Dh.JL.nil<|Jq.qt<|Jc.qs<|Jc.qs ?_
        refine Jc.drawn [0, 1, 3, 7, 15, 31, 63, 127, 255, 511, 1023, 2047, 511, 4607, 12799, 32767, 65535, 131071] ([(16, false), (17, false)], []) [⟨[(0, false), (1, false), (2, false), (3, false), (4, false), (5, false), (6, false), (7, false), (8, false), (9, false), (10, false), (11, false), (12, false), (13, false), (14, false)], [], 15⟩] tmx (by kernel_rfl) ?_
        refine Dh.JH.cons<|Dh.JB.pv rfl trivial (fun _ => PR.qm rfl) ?_
        refine Dh.JB.pv rfl trivial (fun _ => PR.lss false rfl rfl (decide_eq_false (by omega))) ?_
        refine Dh.JB.pv rfl trivial (fun _ => PR.qm rfl) ?_
        refine Dh.JB.pv rfl ⟨_, rfl, rfl⟩ (fun _ => PR.qm rfl) ?_
        refine Dh.JB.pv rfl ⟨_, rfl, rfl⟩ (fun _ => PR.idx1 1 rfl rfl tsl23 zM rfl rfl (by simp)) ?_
        refine Dh.JB.pv rfl ⟨_, rfl, rfl⟩ (fun _ => PR.loadR rfl tsh3 zM rfl) ?_
        refine Dh.JB.pv rfl ⟨_, rfl, rfl⟩ (fun _ => PR.lss false rfl rfl (decide_eq_false hid)) ?_
        refine Dh.JB.pv rfl trivial (fun _ => PR.pickF rfl rfl) ?_
        refine Dh.JB.pv rfl trivial (fun _ => PR.qm rfl) ?_
        refine Dh.JB.pv rfl ⟨_, rfl, rfl⟩ (fun _ => PR.qm rfl) ?_
        refine Dh.JB.pv rfl ⟨_, rfl, rfl⟩ (fun _ => PR.nilCheck rfl) ?_
        refine Dh.JB.rd [.blk _ _ _] rfl ⟨_, rfl, rfl⟩ zT (fun _ => PR.loadA rfl tsh38 Has.here (by rfl)) ?_
        refine Dh.JB.pv rfl ⟨_, rfl, rfl⟩ (fun _ => PR.qm rfl) ?_
        refine Dh.JB.pv rfl ⟨_, rfl, rfl⟩ (fun _ => PR.idx1 1 rfl rfl tsl23 zM rfl rfl (by simp)) ?_
        refine Dh.JB.pv rfl ⟨_, rfl, rfl⟩ (fun _ => PR.loadR rfl tsh3 zM rfl) ?_
        refine Dh.JB.nil<|Dh.JL.nil ?_
        refine Dh.JE.mk rfl (fun _ h => by cases h) (fun C1_15 => ?_)
        refine Jl.on rfl rfl ?_
        refine Jl.calll (fs := []) (cs := []) (bfind_ct b ((M, cM), (I, cI), (K, cK)) id (by omega)) en116 rfl (by rfl) (by rfl) zT (ls := [b.rM ((M, cM), (I, cI), (K, cK)), b.rI ((M, cM), (I, cI), (K, cK)), b.rK ((M, cM), (I, cI), (K, cK))]) zT zL zF ?_
        rintro ⟨⟩
        refine Jl.as (.int .i64 (j : Int)) (by rw [hf]; rfl) ?_
        refine Jl.qn ?_
        refine Dh.Jq.segV zX ?_ zK
        refine Dh.JH.nil ?_
        refine Dh.JB.pv rfl ⟨_, rfl, rfl⟩ (fun _ => PR.geq true rfl rfl (decide_eq_true (by omega))) ?_
        refine Dh.JB.pv rfl trivial (fun _ => PR.pickF rfl rfl) ?_
        refine Dh.JB.nil<|Dh.JL.nil<|Jq.qt<|Jc.condT rfl<|Jc.ret<|Jq.thenR ?_
        exact Jq.fin ((M, cM), (I, cI), (K, cK)) (.inl rfl) rfl RetVs.nil rfl zT zF
        -- hint not used: one
      | none =>
        rw [mk1_yes hi ht hid hf]
        refine Ct.of _ Tryz.func86 Tryz.ntmps86 rfl rfl (fun X W => ?_)
        refine Jc.qs ?_
        refine Jc.drawn [0, 1, 3, 0, 8, 24, 63, 127] ([(7, false)], []) [⟨[(0, false), (1, false), (2, false), (3, false), (4, false), (5, false)], [], 6⟩] tmx (by kernel_rfl) ?_
        refine Dh.JH.cons<|Dh.JB.pv rfl trivial (fun _ => PR.qm rfl) ?_
        refine Dh.JB.pv rfl trivial (fun _ => PR.nilCheck rfl) ?_
        refine Dh.JB.rd [.blk _ _ _] rfl trivial zT (fun _ => PR.loadA rfl tsh38 Has.here (by rfl)) ?_
        refine Dh.JB.pv rfl trivial (fun _ => PR.qm rfl) ?_
        refine Dh.JB.pv rfl trivial (fun _ => PR.idx1 0 rfl rfl tsl23 zM rfl rfl (by simp)) ?_
        refine Dh.JB.pv rfl trivial (fun _ => PR.loadR rfl tsh3 zM rfl) ?_
        refine Dh.JB.nil<|Dh.JL.nil ?_
        refine Dh.JE.mk rfl (fun _ h => by cases h) (fun C0_6 => ?_)
        refine Jl.calll (fs := []) (cs := []) (btok_ct b ((M, cM), (I, cI), (K, cK)) t (by omega)) en115 rfl (by rfl) (by rfl) zT (ls := [b.rM ((M, cM), (I, cI), (K, cK)), b.rI ((M, cM), (I, cI), (K, cK)), b.rK ((M, cM), (I, cI), (K, cK))]) zT zL zF ?_
        rintro ⟨⟩
        refine Jl.as (.int .i64 (i : Int)) (by rw [ht]; rfl) ?_
        refine Jl.qn ?_
        refine Dh.Jq.segV zX ?_ zK
        refine Dh.JH.nil ?_
        refine Dh.JB.pv rfl trivial (fun _ => PR.qa rfl) ?_
        refine Dh.JB.nil<|Dh.JL.nil<|Jq.qt<|Jc.qs<|Jc.qs ?_
        refine Jc.drawn [0, 1, 3, 7, 15, 31, 63, 127, 255, 511, 1023, 2047, 511, 4607, 12799, 32767, 65535, 131071] ([(16, false), (17, false)], []) [⟨[(0, false), (1, false), (2, false), (3, false), (4, false), (5, false), (6, false), (7, false), (8, false), (9, false), (10, false), (11, false), (12, false), (13, false), (14, false)], [], 15⟩] tmx (by kernel_rfl) ?_
        refine Dh.JH.cons<|Dh.JB.pv rfl trivial (fun _ => PR.qm rfl) ?_
        refine Dh.JB.pv rfl trivial (fun _ => PR.lss false rfl rfl (decide_eq_false (by omega))) ?_
        refine Dh.JB.pv rfl trivial (fun _ => PR.qm rfl) ?_
        refine Dh.JB.pv rfl ⟨_, rfl, rfl⟩ (fun _ => PR.qm rfl) ?_
        refine Dh.JB.pv rfl ⟨_, rfl, rfl⟩ (fun _ => PR.idx1 1 rfl rfl tsl23 zM rfl rfl (by simp)) ?_
        refine Dh.JB.pv rfl ⟨_, rfl, rfl⟩ (fun _ => PR.loadR rfl tsh3 zM rfl) ?_
        refine Dh.JB.pv rfl ⟨_, rfl, rfl⟩ (fun _ => PR.lss false rfl rfl (decide_eq_false hid)) ?_
        refine Dh.JB.pv rfl trivial (fun _ => PR.pickF rfl rfl) ?_
        refine Dh.JB.pv rfl trivial (fun _ => PR.qm rfl) ?_
        refine Dh.JB.pv rfl ⟨_, rfl, rfl⟩ (fun _ => PR.qm rfl) ?_
        refine Dh.JB.pv rfl ⟨_, rfl, rfl⟩ (fun _ => PR.nilCheck rfl) ?_
        refine Dh.JB.rd [.blk _ _ _] rfl ⟨_, rfl, rfl⟩ zT (fun _ => PR.loadA rfl tsh38 Has.here (by rfl)) ?_
        refine Dh.JB.pv rfl ⟨_, rfl, rfl⟩ (fun _ => PR.qm rfl) ?_
        refine Dh.JB.pv rfl ⟨_, rfl, rfl⟩ (fun _ => PR.idx1 1 rfl rfl tsl23 zM rfl rfl (by simp)) ?_
        refine Dh.JB.pv rfl ⟨_, rfl, rfl⟩ (fun _ => PR.loadR rfl tsh3 zM rfl) ?_
        refine Dh.JB.nil<|Dh.JL.nil ?_
        refine Dh.JE.mk rfl (fun _ h => by cases h) (fun C1_15 => ?_)
        refine Jl.on rfl rfl ?_
        refine Jl.calll (fs := []) (cs := []) (bfind_ct b ((M, cM), (I, cI), (K, cK)) id (by omega)) en116 rfl (by rfl) (by rfl) zT (ls := [b.rM ((M, cM), (I, cI), (K, cK)), b.rI ((M, cM), (I, cI), (K, cK)), b.rK ((M, cM), (I, cI), (K, cK))]) zT zL zF ?_
        rintro ⟨⟩
        refine Jl.as (.int .i64 (-1)) (by rw [hf]; rfl) ?_
        refine Jl.qn ?_
        refine Dh.Jq.segV zX ?_ zK
        refine Dh.JH.nil ?_
        refine Dh.JB.pv rfl ⟨_, rfl, rfl⟩ (fun _ => PR.geq false rfl rfl (by decide)) ?_
        refine Dh.JB.pv rfl trivial (fun _ => PR.pickF rfl rfl) ?_
        refine Dh.JB.nil<|Dh.JL.nil<|Jq.qt<|Jc.condF rfl<|Jc.skip<|Jq.qt<|Jc.qs<|Jc.qr<|Jl.pv (PR.qm rfl)<|Jl.pv (PR.nilCheck rfl)<|Jl.pv (PR.qf rfl tfl38_4) ?_
        refine Jl.pv (PR.load1 rfl tsh33 zH (by rfl)) ?_
        refine Jl.pv (PR.qm rfl) ?_
        refine Jl.pv (PR.idxO i rfl rfl tsl33 zD (by decide) rfl hi) ?_
        refine Jl.pv (PR.loadOA rfl tsh70 zD (by decide) (its_at hi)) ?_
        refine Jl.alloc tze70 ?_
        intro b5
        refine Jl.storeW rfl tsh70 rfl (by rfl) (by first | exact Br.cs_one _ _ | simp [Value.oneCell', Br.cs, It1.cs]) zS (by rfl) ?_
        refine Jl.pv (PR.qa rfl)<|Jl.qn<|Jq.qt ?_
        refine Jc.mid (σ := Unit) (fun _ => [(6, .int .u8 ((if b.its[i].warm = true then (9 : UInt8) else 1).toNat : Int)), (5, ptr b5), (4, .int .i64 (i : Int)), (0, ptr bb), (1, .slice L [t, id, now].length cL)]) (fun _ => .blk b5 70 b.its[i].cs :: b.st bb ((M, cM), (I, cI), (K, cK))) (fun _ => [.rd L (i64s [t, id, now])]) ?_ ?_
        · refine Jc.qs<|Jc.qr<|Jl.pv (PR.qf rfl tfl70_3) ?_
          refine Jl.pv (PR.load1 rfl tsh4 zH (by rfl)) ?_
          refine Jl.qn<|Jq.qt ?_
          refine Jc.cond rfl (fun hw => ?_) (fun hw => ?_)
          · try replace hw := zV hw
            refine Jc.qr<|Jl.pv (PR.qa rfl)<|Jl.qn ?_
            exact Jq.midT () (by exact ⟨congrArg (fun v => some (Value.int .u8 v)) (by rw [if_pos hw]; rfl), rfl, rfl, rfl, rfl, trivial⟩) zT zF
          try replace hw := zW hw
          refine Jc.skip ?_
          exact Jq.midT () (by exact ⟨congrArg (fun v => some (Value.int .u8 v)) (by rw [if_neg (by simp [hw])]; rfl), rfl, rfl, rfl, rfl, trivial⟩) zT zF
        rintro ⟨⟩
        refine Jc.qs<|Jc.qr<|Jl.pv (PR.qm rfl)<|Jl.pv (PR.qm rfl)<|Jl.pv (PR.nilCheck rfl)<|Jl.pv (PR.qf rfl tfl38_4) ?_
        refine Jl.pv (PR.load1 rfl tsh33 zH (by rfl)) ?_
        refine Jl.pv (PR.qm rfl)<|Jl.pv (PR.qm rfl) ?_
        refine Jl.pv (PR.add ((i + 1 : Nat) : Int) rfl rfl (by rw [w64 (by omega) (by omega)]; omega)) ?_
        refine Jl.call (tdel_ct I cI b.its i hi (by omega)) en117 (by rfl) zT zF ?_
        rintro ⟨⟩
        refine Jl.pv (PR.nilCheck rfl)<|Jl.pv (PR.qf rfl tfl38_4) ?_
        refine Jl.store1 rfl tsh33 rfl (by rfl) zS (by rfl) ?_
        refine Jl.qn<|Jq.qt<|Jc.qs ?_
        refine Jc.drawn [0, 0, 2, 6, 0, 16, 0, 64, 0, 256, 0, 0, 2048, 6144, 16382, 32767] ([], []) [⟨[(0, false), (1, false), (2, false), (3, false), (4, false), (5, false), (6, false), (7, false), (8, false), (9, false), (10, false), (11, false), (12, false), (13, false), (14, false)], [], 15⟩] tmx (by kernel_rfl) ?_
        refine Dh.JH.cons<|Dh.JB.pv rfl trivial (fun _ => PR.qm rfl)<|Dh.JB.pv rfl trivial (fun _ => PR.qm rfl) ?_
        refine Dh.JB.pv rfl trivial (fun _ => PR.idx1 1 rfl rfl tsl23 zM rfl rfl (by simp)) ?_
        refine Dh.JB.pv rfl trivial (fun _ => PR.loadR rfl tsh3 zM rfl) ?_
        refine Dh.JB.pv rfl trivial (fun _ => PR.qf rfl tfl70_0) ?_
        refine Dh.JB.rd [.blk _ _ _] rfl trivial zT (fun _ => PR.load1 rfl tsh3 Has.here (by rfl)) ?_
        refine Dh.JB.pv rfl trivial (fun _ => PR.qf rfl tfl70_1) ?_
        refine Dh.JB.rd [.blk _ _ _] rfl trivial zT (fun _ => PR.load1 rfl tsh3 Has.here (by rfl)) ?_
        refine Dh.JB.pv rfl trivial (fun _ => PR.qf rfl tfl70_2) ?_
        refine Dh.JB.rd [.blk _ _ _] rfl trivial zT (fun _ => PR.load1 rfl tsh3 Has.here (by rfl)) ?_
        refine Dh.JB.pv rfl trivial (fun _ => PR.qm rfl)<|Dh.JB.pv rfl trivial (fun _ => PR.qm rfl) ?_
        refine Dh.JB.pv rfl trivial (fun _ => PR.idx1 2 rfl rfl tsl23 zM rfl rfl (by simp)) ?_
        refine Dh.JB.pv rfl trivial (fun _ => PR.loadR rfl tsh3 zM rfl) ?_
        refine Dh.JB.pv rfl trivial (fun _ => PR.build (by rfl) tze72 tpl72_0_1_2_3_4_5 (by rfl)) ?_
        refine Dh.JB.nil<|Dh.JL.nil ?_
        refine Dh.JE.mk rfl (fun _ h => by cases h) (fun C6_15 => ?_)
        refine Jl.call (bkeep_ct { b with its := eraL b.its i } ((M, cM), (I, cI), (K, cK)) bb (madeK b.its[i] id now) hm) en118 (by rfl) zT zF ?_
        rintro ⟨⟨M2, m2⟩, ⟨I2, i2⟩, ⟨K2, k2⟩⟩
        refine Jl.qn ?_
        refine Dh.Jq.segV zX ?_ zK
        refine Dh.JH.nil ?_
        refine Dh.JB.nil<|Dh.JL.nil<|Jq.qt<|Jc.qs<|Jc.qr<|Jl.pv (PR.qm rfl)<|Jl.pv (PR.nilCheck rfl)<|Jl.pv (PR.qf rfl tfl38_6)<|Jl.pv (PR.qf rfl tfl36_0) ?_
        refine Jl.pv (PR.load1 rfl tsh5 zH (by rfl)) ?_
        refine Jl.pv (PR.eql _ rfl rfl rfl) ?_
        refine Jl.qn<|Jq.qt ?_
        refine Jc.cond rfl (fun ha => ?_) (fun ha => ?_)
        · try replace ha := zV ha
          refine Jc.qr<|Jl.pv (PR.qm rfl)<|Jl.pv (PR.nilCheck rfl)<|Jl.pv (PR.qf rfl tfl38_6)<|Jl.pv (PR.qf rfl tfl36_6) ?_
          refine Jl.store1 rfl tsh3 rfl (by rfl) zS (by rfl) ?_
          refine Jl.qn ?_
          rw [made_act (b := b) ha]
          exact Jq.fin ((M2, m2), (I2, i2), (K2, k2)) (.inr rfl) rfl RetVs.nil rfl zT zF
        try replace ha := zW ha
        refine Jc.skip ?_
        rw [made_na (b := b) ha]
        exact Jq.fin ((M2, m2), (I2, i2), (K2, k2)) (.inr rfl) rfl RetVs.nil rfl zT zF
end Go.Proofs.YtakbgccddokbbaaGreatDoor
namespace Go.Proofs.YtakbgccddokbbaaGreatDoor
open Go.RowKit
def u8V (l : List Nat) : List Value := l.map fun n : Nat => .int .u8 (n : Int)
theorem u8V_len (l : List Nat) : (u8V l).length = l.length := List.length_map ..
def chgV (As : Nat → AdC) : List Value := (List.range 11).map fun i => .slice (As i).1 (legalL.getD i []).length (As i).2
def Fact.chg : Fact where
 p := fun X W => ∃ As : Nat → AdC, (Fact.rd (some ⟨0, 0, none⟩) (chgV As)).p X W ∧ ∀ i, i < 11 → (Fact.rd (As i).1 (u8V (legalL.getD i []))).p X W
 fr := fun X X' W W' h hf hx => by
  obtain ⟨As, h1, h2⟩ := h
  exact ⟨As, (Fact.rd _ _).fr X X' W W' h1 hf hx, fun i hi => (Fact.rd _ _).fr X X' W W' (h2 i hi) hf hx⟩
theorem Jc.chg {P : Program} {r : Option Nat} {C : Cx} {n : Nat × List Nat} {Q : Exit → Act → World → Prop} {c : Code} {env : List (Nat × Value)} {R : List Res} {Φ : List Fact} {ops : Array Oper} {i : Nat} (hm : Mem .chg Φ) (hi : i < 11)
 (k : ∀ As, Jc P r C n Q c env R (.rd (some ⟨0, 0, none⟩) (chgV As) :: .rd (As i).1 (u8V (legalL.getD i [])) :: Φ)) : Jc P r C n Q c env R Φ := fun a W he hs => by
 obtain ⟨As, h1, h2⟩ := hs.facts _ hm.mem
 exact k As a W he ((hs.add (h2 i hi)).add (by
  have h := (hs.add (h2 i hi))
  exact h1))
attribute [local irreducible] Res.blk Res.row Fact.rd
theorem chg_at (As : Nat → AdC) {i : Nat} (hi : i < 11) : (chgV As)[i]? = some (.slice (As i).1 (legalL.getD i []).length (As i).2) := by
 simp [chgV, hi]
theorem chg_at' (As : Nat → AdC) {i : Nat} (hi : i < 11) : (chgV As)[i * 1]? = some (.slice (As i).1 (legalL.getD i []).length (As i).2) := by
 rw [Nat.mul_one]; exact chg_at As hi
theorem legal_len (i : Nat) : (legalL.getD i []).length ≤ 2 := by
 match i with
 | 0 => decide
 | 1 => decide
 | 2 => decide
 | 3 => decide
 | 4 => decide
 | 5 => decide
 | 6 => decide
 | 7 => decide
 | 8 => decide
 | 9 => decide
 | 10 => decide
 | n + 11 => simp [legalL]
theorem u8idx_ct (K : Option Addr) (c : Nat) (l : List Nat) (n : Nat) (hn : l.length ≤ 1000) :
 Ct Tryz.prog 142 [.slice K l.length c, .int .u8 (n : Int)] [] [.rd K (u8V l)] (fun _ : Unit => .int .i64 (plcI (l.findIdx? fun x => decide (n = x)))) (fun _ => []) (fun _ => []) := by
 have hl8 := u8V_len l
 refine Ct.of _ Tryz.func142 Tryz.ntmps142 rfl rfl (fun X W => ?_)
 refine Jc.qs<|Jc.qr<|Jl.pv (PR.qa rfl)<|Jl.qn<|Jq.qt<|Jc.qs<|Jc.qs<|Jc.qr<|Jl.pv (PR.qm rfl) ?_
 refine Jl.pv (PR.len rfl tsl25) ?_
 refine Jl.pv (PR.qm rfl)<|Jl.qn<|Jq.qt ?_
 refine Jc.block ?_
 refine Jc.loop (σ := { k : Nat // k ≤ l.length ∧ ∀ j (h : j < l.length), j < k → decide (n = l[j]) = false }) (fun s => [(8, .int .i64 (s.1 : Int)), (7, .int .i64 (l.length : Int)), (1, .int .u8 (n : Int)), (0, .slice K l.length c)]) (fun _ => []) (fun _ => [.rd K (u8V l)]) (fun s => l.length - s.1) ⟨0, Nat.zero_le _, fun j h h2 => by omega⟩ (by repeat (first | exact trivial | refine And.intro rfl ?_)) rfl zF ?_
 rintro ⟨k, hk, hq⟩
 show Jc _ _ _ _ _ _ [(8, Value.int .i64 (k : Int)), (7, .int .i64 (l.length : Int)), (1, .int .u8 (n : Int)), (0, .slice K l.length c)] [] [.rd K (u8V l)]
 refine Jc.qs<|Jc.qr ?_
 refine Jl.pv (PR.lss _ rfl rfl rfl) ?_
 refine Jl.qn<|Jq.qt<|Jc.qs ?_
 refine Jc.cond rfl (fun h0 => ?_) (fun h0 => ?_)
 · try replace h0 := zV h0
   have hlt : k < l.length := by omega
   refine Jc.skip<|Jq.qt<|Jc.qs ?_
   refine Jc.block ?_
   refine Jc.qs<|Jc.qr<|Jl.pv (PR.qm rfl)<|Jl.pv (PR.qa rfl)<|Jl.qn<|Jq.qt<|Jc.qs<|Jc.qr<|Jl.pv (PR.qm rfl)<|Jl.pv (PR.qm rfl)<|Jl.pv (PR.qm rfl) ?_
   refine Jl.pv (PR.idx1 k rfl rfl tsl25 zM (u8V_len _) (by omega) hlt) ?_
   refine Jl.pv (PR.loadR rfl tsh5 zM (getm hlt)) ?_
   refine Jl.pv (PR.eql _ rfl rfl rfl) ?_
   refine Jl.qn<|Jq.qt ?_
   refine Jc.cond rfl (fun h1 => ?_) (fun h1 => ?_)
   · try replace h1 := zV h1
     refine Jc.qs<|Jc.qr<|Jl.pv (PR.qm rfl)<|Jl.pv (PR.qa rfl)<|Jl.qn<|Jq.qt<|Jc.ret ?_
     refine Jq.blkR ?_
     refine Jq.thenR<|Jq.thenR ?_
     refine Jq.blkR ?_
     refine Jq.thenR ?_
     exact Jq.fin () (.inl rfl) rfl (RetVs.tmp rfl RetVs.nil) (by rw [fidx_at hlt (decide_eq_true (by omega)) hq]; rfl) zT zF
   try replace h1 := zW h1
   refine Jc.skip ?_
   refine Jq.blkN ?_
   refine Jq.qt<|Jc.qr ?_
   refine Jl.pv (PR.add ((k + 1 : Nat) : Int) rfl rfl (by rw [w64 (by omega) (by omega)]; rfl)) ?_
   refine Jl.pv (PR.qm rfl)<|Jl.qn ?_
   exact Jq.againT ⟨k + 1, hlt, fun j hj hjk => by rcases Nat.lt_succ_iff_lt_or_eq.1 hjk with h | rfl; exact hq j hj h; exact decide_eq_false (by omega)⟩ (by simp only; omega) (by repeat (first | exact trivial | refine And.intro rfl ?_)) zT zF
 try replace h0 := zW h0
 refine Jc.exit ?_
 refine Jq.thenX ?_
 refine Jq.thenX ?_
 refine Jq.blkX ?_
 refine Jq.qt<|Jc.qs<|Jc.qr<|Jl.pv (PR.qa rfl)<|Jl.qn<|Jq.qt<|Jc.ret ?_
 exact Jq.fin () (.inl rfl) rfl (RetVs.tmp rfl RetVs.nil) (by rw [fidx_none fun j hj => hq j hj (by omega)]; rfl) zT zF
theorem idx_has (l : List Nat) (n : Nat) : decide (0 ≤ plcI (l.findIdx? fun x => decide (n = x))) = l.contains n := by
  rw [Bool.eq_iff_iff, decide_eq_true_iff, List.contains_iff_mem]
  cases h : l.findIdx? fun x => decide (n = x) with
  | none =>
    rw [List.findIdx?_eq_none_iff] at h
    refine ⟨fun h2 => absurd h2 (by decide), fun h2 => ?_⟩
    have := h _ h2
    simp at this
  | some i =>
    obtain ⟨hi, h2⟩ := findIdx_some h
    refine ⟨fun _ => ?_, fun _ => Int.natCast_nonneg i⟩
    rw [of_decide_eq_true h2]
    exact List.getElem_mem hi
theorem u8has_ct (K : Option Addr) (c : Nat) (l : List Nat) (n : Nat) (hn : l.length ≤ 1000) :
 Ct Tryz.prog 120 [.slice K l.length c, .int .u8 (n : Int)] [] [.rd K (u8V l)] (fun _ : Unit => .bool (l.contains n)) (fun _ => []) (fun _ => []) := by
 have h := idx_has l n
 refine Ct.of _ Tryz.func120 Tryz.ntmps120 rfl rfl (fun X W => ?_)
 refine Jc.qs<|Jc.qr<|Jl.pv (PR.qa rfl)<|Jl.qn<|Jq.qt<|Jc.qs<|Jc.qr<|Jl.pv (PR.qm rfl)<|Jl.pv (PR.qm rfl) ?_
 refine Jl.call (u8idx_ct K c l n hn) en142 (by rfl) zT zF ?_
 rintro ⟨⟩
 refine Jl.pv (PR.geq _ rfl rfl rfl) ?_
 refine Jl.pv (PR.qa rfl)<|Jl.qn<|Jq.qt<|Jc.ret ?_
 exact Jq.fin () (.inl rfl) rfl (RetVs.tmp rfl RetVs.nil) (congrArg Value.bool h.symm) zT zF
theorem legal_ct (f : UInt8) (t : Int) (ht : 0 ≤ t) : Ct Tryz.prog 90 [.int .u8 (f.toNat : Int), .int .i64 t] [] [.chg] (fun _ : Unit => .bool (legal f.toNat t)) (fun _ => []) (fun _ => []) := by
 by_cases hf : f.toNat < 11
 · by_cases h11 : t < 11
   · have hf' := hf
     refine Ct.of _ Tryz.func90 Tryz.ntmps90 rfl rfl (fun X W => ?_)
     refine Jc.chg (ops := #[]) (i := f.toNat) zM hf (fun As => ?_)
     refine Jc.qs<|Jc.qr<|Jl.pv (PR.qa rfl)<|Jl.qn<|Jq.qt<|Jc.qs<|Jc.qr<|Jl.pv (PR.qm rfl) ?_
     refine Jl.pv (PR.lss true rfl rfl (decide_eq_true (by omega))) ?_
     refine Jl.pv (PR.qm rfl)<|Jl.on rfl rfl<|Jl.pv (PR.qm rfl)<|Jl.on rfl rfl ?_
     refine Jl.pv (PR.lss true rfl rfl (decide_eq_true h11)) ?_
     refine Jl.pv (PR.pickT rfl rfl)<|Jl.pv (PR.qm rfl)<|Jl.on rfl rfl<|Jl.pv (PR.qm rfl)<|Jl.on rfl rfl ?_
     refine Jl.pv (PR.idxRA f.toNat rfl rfl tar153 rfl hf) ?_
     refine Jl.on rfl rfl ?_
     refine Jl.pv (PR.loadR rfl tsh25 zM (chg_at' As hf)) ?_
     refine Jl.on rfl rfl<|Jl.pv (PR.qm rfl)<|Jl.on rfl rfl ?_
     refine Jl.pv (PR.conv ((t.toNat : Nat) : Int) rfl Tryz.underlying3 Tryz.underlying5 (by rw [IntKind.wrap_u8]; omega)) ?_
     refine Jl.on rfl rfl ?_
     refine Jl.call (u8has_ct (As f.toNat).1 (As f.toNat).2 (legalL.getD f.toNat []) t.toNat (by have := legal_len f.toNat; omega)) en120 (by rfl) zT zF ?_
     rintro ⟨⟩
     refine Jl.pv (PR.pickT rfl rfl)<|Jl.pv (PR.qa rfl)<|Jl.qn<|Jq.qt<|Jc.ret ?_
     exact Jq.fin () (.inl rfl) rfl (RetVs.tmp rfl RetVs.nil) (congrArg Value.bool (by rw [legal, decide_eq_true h11, Bool.true_and])) zT zF
   · have hf' := hf
     refine Ct.of _ Tryz.func90 Tryz.ntmps90 rfl rfl (fun X W => ?_)
     refine Jc.qs<|Jc.qr<|Jl.pv (PR.qa rfl)<|Jl.qn<|Jq.qt<|Jc.qs<|Jc.qr<|Jl.pv (PR.qm rfl) ?_
     refine Jl.pv (PR.lss true rfl rfl (decide_eq_true (by omega))) ?_
     refine Jl.pv (PR.qm rfl)<|Jl.on rfl rfl<|Jl.pv (PR.qm rfl)<|Jl.on rfl rfl ?_
     refine Jl.pv (PR.lss false rfl rfl (decide_eq_false h11)) ?_
     refine Jl.pv (PR.pickT rfl rfl)<|Jl.pv (PR.qm rfl)<|Jl.qo rfl rfl rfl<|Jl.qo rfl rfl rfl<|Jl.qo rfl rfl rfl<|Jl.qo rfl rfl rfl<|Jl.qo rfl rfl rfl<|Jl.qo rfl rfl rfl<|Jl.pv (PR.pickF rfl rfl)<|Jl.pv (PR.qa rfl)<|Jl.qn<|Jq.qt<|Jc.ret ?_
     exact Jq.fin () (.inl rfl) rfl (RetVs.tmp rfl RetVs.nil) (congrArg Value.bool (by rw [legal, decide_eq_false h11, Bool.false_and])) zT zF
 · have hf' := hf
   refine Ct.of _ Tryz.func90 Tryz.ntmps90 rfl rfl (fun X W => ?_)
   refine Jc.qs<|Jc.qr<|Jl.pv (PR.qa rfl)<|Jl.qn<|Jq.qt<|Jc.qs<|Jc.qr<|Jl.pv (PR.qm rfl) ?_
   refine Jl.pv (PR.lss false rfl rfl (decide_eq_false (by omega))) ?_
   refine Jl.pv (PR.qm rfl)<|Jl.qo rfl rfl rfl<|Jl.qo rfl rfl rfl<|Jl.pv (PR.pickF rfl rfl)<|Jl.pv (PR.qm rfl)<|Jl.qo rfl rfl rfl<|Jl.qo rfl rfl rfl<|Jl.qo rfl rfl rfl<|Jl.qo rfl rfl rfl<|Jl.qo rfl rfl rfl<|Jl.qo rfl rfl rfl<|Jl.pv (PR.pickF rfl rfl)<|Jl.pv (PR.qa rfl)<|Jl.qn<|Jq.qt<|Jc.ret ?_
   exact Jq.fin () (.inl rfl) rfl (RetVs.tmp rfl RetVs.nil) (congrArg Value.bool (by rw [legal, show legalL.getD f.toNat [] = [] by rw [List.getD_eq_getElem?_getD, List.getElem?_eq_none (by show 11 ≤ _; omega)]; rfl]; simp)) zT zF
theorem dphase_ct (b : Br) (z : BrA) (bb : Nat) (L : Option Addr) (cL : Nat) (id p now : Int) (i : Nat) (hi : i < b.kps.length) (hp : 0 ≤ p) : Ct Tryz.prog 89 [ptr bb, .int .i64 (i : Int), .slice L [id, p, now].length cL] (b.st bb z) [.rd L (i64s [id, p, now]), .chg] (fun _ : Unit => .tuple #[]) (fun _ => (if legal (b.kAt i).ph.toNat p = true then b.onK1 i { b.kAt i with ph := UInt8.ofNat p.toNat, si := now, co := false } else b).st bb z) (fun _ => []) := by
 obtain ⟨⟨M, cM⟩, ⟨I, cI⟩, ⟨K, cK⟩⟩ := z
 have hl8 := kpsV_len b.kps
 have hl8a := kpsV_len (b.kps.set i { b.kps[i] with ph := UInt8.ofNat p.toNat })
 have hl8b := kpsV_len (b.kps.set i { b.kps[i] with ph := UInt8.ofNat p.toNat, si := now })
 rw [List.length_set] at hl8a hl8b
 rw [kAt_eq hi]
 refine Ct.of _ Tryz.func89 Tryz.ntmps89 rfl rfl (fun X W => ?_)
 refine Jc.qs<|Jc.qr<|Jl.pv (PR.qm rfl)<|Jl.pv (PR.nilCheck rfl)<|Jl.pv (PR.qf rfl tfl38_5) ?_
 refine Jl.pv (PR.load1 rfl tsh34 zH (by rfl)) ?_
 refine Jl.pv (PR.qm rfl) ?_
 refine Jl.pv (PR.idxO i rfl rfl tsl34 zD (by decide) rfl hi) ?_
 refine Jl.pv (PR.qa rfl)<|Jl.qn<|Jq.qt<|Jc.qs ?_
 refine Jc.drawn [0, 1, 3, 7, 0, 16, 48, 127] ([], []) [⟨[(0, false), (1, false), (2, false), (3, false), (4, false), (5, false), (6, false)], [], 7⟩] tmx (by kernel_rfl) ?_
 refine Dh.JH.cons<|Dh.JB.pv rfl trivial (fun _ => PR.qm rfl) ?_
 refine Dh.JB.rd [.row _ _ _ _ _] rfl trivial zT (fun _ => PR.nilCheckO rfl Del.here (by omega)) ?_
 refine Dh.JB.rd [.row _ _ _ _ _] rfl trivial zT (fun _ => PR.fieldAddrO rfl tfl72_4 Del.here (by omega)) ?_
 refine Dh.JB.rd [.row _ _ _ _ _] rfl trivial zT (fun _ => PR.loadO rfl tsh5 Del.here (kps_f hi 4 rfl)) ?_
 refine Dh.JB.pv rfl trivial (fun _ => PR.qm rfl) ?_
 refine Dh.JB.pv rfl trivial (fun _ => PR.idx1 1 rfl rfl tsl23 zM rfl rfl (by simp)) ?_
 refine Dh.JB.pv rfl trivial (fun _ => PR.loadR rfl tsh3 zM rfl) ?_
 refine Dh.JB.nil<|Dh.JL.nil ?_
 refine Dh.JE.mk rfl (fun _ h => by cases h) (fun C1_7 => ?_)
 refine Jl.call (legal_ct b.kps[i].ph p hp) en90 (by rfl) zT zF ?_
 rintro ⟨⟩
 refine Jl.qn ?_
 refine Dh.Jq.segV zX ?_ zK
 refine Dh.JH.nil ?_
 refine Dh.JB.nil<|Dh.JL.nil<|Jq.qt ?_
 refine Jc.cond rfl (fun hl => ?_) (fun hl => ?_)
 · try replace hl := zV hl
   refine Jc.drawn [0, 0, 0, 0, 8, 24, 56, 0, 128, 384, 1017, 2041, 4089, 8187, 16379, 32763, 65535, 131071, 262143] ([], []) [⟨[(0, false), (1, false), (2, false), (3, false), (4, false), (5, false), (6, false), (7, false), (8, false), (9, false), (10, false), (11, false)], [], 12⟩, ⟨[(13, false), (14, false)], [], 15⟩, ⟨[(16, false), (17, false)], [], 18⟩] tmx (by kernel_rfl) ?_
   refine Dh.JH.cons<|Dh.JB.pv rfl trivial (fun _ => PR.qm rfl)<|Dh.JB.pv rfl trivial (fun _ => PR.qm rfl)<|Dh.JB.pv rfl trivial (fun _ => PR.qm rfl)<|Dh.JB.pv rfl trivial (fun _ => PR.qm rfl) ?_
   refine Dh.JB.pv rfl trivial (fun _ => PR.idx1 1 rfl rfl tsl23 zM rfl rfl (by simp)) ?_
   refine Dh.JB.pv rfl trivial (fun _ => PR.loadR rfl tsh3 zM rfl) ?_
   refine Dh.JB.pv rfl trivial (fun _ => PR.conv ((UInt8.ofNat p.toNat).toNat : Int) rfl Tryz.underlying3 Tryz.underlying5 (by rw [IntKind.wrap_u8]; simp; omega)) ?_
   refine Dh.JB.pv rfl trivial (fun _ => PR.qm rfl) ?_
   refine Dh.JB.pv rfl trivial (fun _ => PR.idx1 2 rfl rfl tsl23 zM rfl rfl (by simp)) ?_
   refine Dh.JB.pv rfl trivial (fun _ => PR.loadR rfl tsh3 zM rfl) ?_
   refine Dh.JB.rd [.row _ _ _ _ _] rfl trivial zT (fun _ => PR.nilCheckO rfl Del.here (by omega)) ?_
   refine Dh.JB.rd [.row _ _ _ _ _] rfl trivial zT (fun _ => PR.fieldAddrO rfl tfl72_4 Del.here (by omega)) ?_
   refine Dh.JB.nil<|Dh.JL.nil ?_
   refine Dh.JE.mk rfl (fun _ h => by cases h) (fun C2_12 => ?_)
   refine Jl.storeO rfl tsh5 rfl (by rfl) zS (by omega) (kps_set (x := { b.kps[i] with ph := UInt8.ofNat p.toNat }) hi (by decide) rfl) ?_
   refine Jl.qn ?_
   refine Dh.Jq.segN zX ?_ zK
   refine Dh.JH.cons ?_
   refine Dh.JB.rd [.row _ _ _ _ _] rfl trivial zT (fun _ => PR.nilCheckO rfl Del.here (by omega)) ?_
   refine Dh.JB.rd [.row _ _ _ _ _] rfl trivial zT (fun _ => PR.fieldAddrO rfl tfl72_5 Del.here (by omega)) ?_
   refine Dh.JB.nil<|Dh.JL.nil ?_
   refine Dh.JE.mk rfl (fun _ h => by cases h) (fun C2_15 => ?_)
   refine Jl.storeO rfl tsh3 rfl (by rfl) zS (by omega) ((kps_set (l := b.kps.set i { b.kps[i] with ph := UInt8.ofNat p.toNat }) (x := { b.kps[i] with ph := UInt8.ofNat p.toNat, si := now }) (by rw [List.length_set]; exact hi) (by decide) (by rw [List.getElem_set_self]; rfl)).trans (by rw [List.set_set])) ?_
   refine Jl.qn ?_
   refine Dh.Jq.segN zX ?_ zK
   refine Dh.JH.cons ?_
   refine Dh.JB.rd [.row _ _ _ _ _] rfl trivial zT (fun _ => PR.nilCheckO rfl Del.here (by omega)) ?_
   refine Dh.JB.rd [.row _ _ _ _ _] rfl trivial zT (fun _ => PR.fieldAddrO rfl tfl72_7 Del.here (by omega)) ?_
   refine Dh.JB.nil<|Dh.JL.nil ?_
   refine Dh.JE.mk rfl (fun _ h => by cases h) (fun C2_18 => ?_)
   refine Jl.storeO rfl tsh4 rfl (by rfl) zS (by omega) ((kps_set (l := b.kps.set i { b.kps[i] with ph := UInt8.ofNat p.toNat, si := now }) (x := { b.kps[i] with ph := UInt8.ofNat p.toNat, si := now, co := false }) (by rw [List.length_set]; exact hi) (by decide) (by rw [List.getElem_set_self]; rfl)).trans (by rw [List.set_set])) ?_
   refine Jl.qn ?_
   refine Dh.Jq.segN zX ?_ zK
   refine Dh.JH.nil ?_
   refine Dh.JB.nil<|Dh.JL.nil ?_
   rw [if_pos hl, onK1_st]
   exact Jq.fin () (.inr rfl) rfl RetVs.nil rfl zT zF
 try replace hl := zW hl
 refine Jc.skip ?_
 rw [if_neg (by simp [hl])]
 exact Jq.fin () (.inr rfl) rfl RetVs.nil rfl zT zF
end Go.Proofs.YtakbgccddokbbaaGreatDoor
namespace Go.Proofs.YtakbgccddokbbaaGreatDoor
open Go.RowKit
attribute [local irreducible] Res.blk Res.row Fact.rd Res.mapV
def rcvals (zs : Rcs) (k : Nat) : List Value := match zs[k]? with
 | some z => [z.2.v z.1]
 | none => [Rc.zero.v (none, 0)]
theorem rcvals_at {zs : Rcs} {k : Nat} (h : k < zs.length) : rcvals zs k = [zs[k].2.v zs[k].1] := by rw [rcvals, List.getElem?_eq_getElem h]
theorem rcvals_len (zs : Rcs) (k : Nat) : (rcvals zs k).length = 1 := by unfold rcvals; split <;> rfl
theorem records_ct (L : Option Addr) (n cL : Nat) : Ct Tryz.prog 53 [.slice L n cL] [] [] (fun b : Nat => .func (.func 72) #[] #[.pointer (some ⟨b, 0, none⟩)]) (fun b => [.blk b 22 [.slice L n cL]]) (fun _ => []) := by
 refine Ct.of _ Tryz.func53 Tryz.ntmps53 rfl rfl (fun X W => ?_)
 refine Jc.qs<|Jc.qr ?_
 refine Jl.box rfl (by rfl) ?_
 intro b1
 refine Jl.pv (PR.qa rfl)<|Jl.qn<|Jq.qt<|Jc.qs<|Jc.qr ?_
 refine Jl.pv (PR.makeFunc rfl rfl) ?_
 refine Jl.pv (PR.qa rfl)<|Jl.qn<|Jq.qt<|Jc.ret ?_
 exact Jq.fin b1 (.inl rfl) rfl (RetVs.tmp rfl RetVs.nil) rfl zT zF
theorem records1_it (L : Option Addr) (cL b0 : Nat) (zs : Rcs) (hn : zs.length ≤ 1000000) : It Tryz.prog 72 [.pointer (some ⟨b0, 0, none⟩)] [.blk b0 22 [.slice L zs.length cL]] [.rd L (rcsV zs)] zs.length (rcvals zs) := by
 refine It.of _ Tryz.func72 Tryz.ntmps72 rfl rfl (by rfl) (by simp only [List.mem_singleton]; rintro φ rfl; exact Fact.rd_old _ _) (fun W l cl clx hy => ?_)
 have hrl := rcsV_len zs
 refine Jc.qs<|Jc.qr ?_
 refine Jl.pv (PR.load1 rfl tsh22 zH (by rfl)) ?_
 refine Jl.pv (PR.len rfl tsl22) ?_
 refine Jl.pv (PR.qm rfl)<|Jl.qn<|Jq.qt ?_
 refine Jc.block ?_
 refine Jc.loop (σ := { k : Nat // k ≤ zs.length }) (fun s => [(7, .int .i64 (s.1 : Int)), (6, .int .i64 (zs.length : Int)), (5, .slice L zs.length cL), (0, .func (.yield l) #[] #[])]) (fun _ => [.blk b0 22 [.slice L zs.length cL]]) (fun s => [cl s.1, .rd L (rcsV zs)]) (fun s => zs.length - s.1) ⟨0, Nat.zero_le _⟩ (by repeat (first | exact trivial | refine And.intro rfl ?_)) rfl zF ?_
 rintro ⟨k, hk⟩
 show Jc _ _ _ _ _ _ [(7, Value.int .i64 (k : Int)), (6, .int .i64 (zs.length : Int)), (5, .slice L zs.length cL), (0, .func (.yield l) #[] #[])] [.blk b0 22 [.slice L zs.length cL]] [cl k, .rd L (rcsV zs)]
 refine Jc.qs<|Jc.qr ?_
 refine Jl.pv (PR.lss _ rfl rfl rfl) ?_
 refine Jl.qn<|Jq.qt<|Jc.qs ?_
 refine Jc.cond rfl (fun h0 => ?_) (fun h0 => ?_)
 · try replace h0 := zV h0
   have hlt : k < zs.length := by omega
   refine Jc.skip<|Jq.qt<|Jc.qs ?_
   refine Jc.block ?_
   refine Jc.qs<|Jc.qr ?_
   refine Jl.pv (PR.idx k rfl rfl tsl22 zM (rcsV_len _) (by omega) rfl hlt) ?_
   refine Jl.pv (PR.loadRA rfl tsh54 zM (by decide) (rcs_at hlt)) ?_
   refine Jl.alloc tze54 ?_
   intro b4
   refine Jl.storeW rfl tsh54 rfl (by rfl) (by simp [Value.oneCell', Rc.cs]) zS (by rfl) ?_
   refine Jl.qn<|Jq.qt<|Jc.qs<|Jc.qr<|Jl.pv (PR.qm rfl) ?_
   refine Jl.pv (PR.loadW rfl tsh54 zH (by rfl)) ?_
   refine hy _ _ _ _ _ _ _ _ _ _ _ _ _ _ k (by omega) rfl (by rw [rcvals_at hlt]; rfl) zM rfl ?_ ?_
   · refine Jl.pv (PR.not rfl) ?_
     refine Jl.qn<|Jq.qt<|Jc.condF rfl<|Jc.skip ?_
     refine Jq.blkN ?_
     refine Jq.qt<|Jc.qr ?_
     refine Jl.pv (PR.add ((k + 1 : Nat) : Int) rfl rfl (by rw [w64 (by omega) (by omega)]; rfl)) ?_
     refine Jl.pv (PR.qm rfl)<|Jl.qn ?_
     exact Jq.againT ⟨k + 1, hlt⟩ (by simp only; omega) (by repeat (first | exact trivial | refine And.intro rfl ?_)) zT zF
   refine Jl.pv (PR.not rfl) ?_
   refine Jl.qn<|Jq.qt<|Jc.condT rfl<|Jc.ret ?_
   refine Jq.blkR ?_
   refine Jq.thenR<|Jq.thenR ?_
   refine Jq.blkR ?_
   exact Jq.itStop (k := k) (.inl rfl) (by omega) zM
 try replace h0 := zW h0
 obtain rfl : k = zs.length := by omega
 refine Jc.exit ?_
 refine Jq.thenX ?_
 refine Jq.thenX ?_
 refine Jq.blkX ?_
 exact Jq.itDone (.inr rfl) zM
def allK (b : Br) (zs : Rcs) (k : Nat) : Br := (zs.take k).foldl (fun b z => b.apply z.2) b
theorem allK_succ (b : Br) {zs : Rcs} {k : Nat} (h : k < zs.length) : allK b zs (k + 1) = (allK b zs k).apply zs[k].2 := by
 rw [allK, List.take_succ_eq_append_getElem h, List.foldl_append]; rfl
theorem allK_end (b : Br) (zs : Rcs) : allK b zs zs.length = zs.foldl (fun b z => b.apply z.2) b := by rw [allK, List.take_length]
structure StepOk (φ : Fact) (b : Br) (r : Rc) (x : AdC) : Prop where
 len : r.l.length ≤ 1000
 cap : r.l.length ≤ x.2
 deed : ∀ z, r.k.toNat ≠ 2 → dT r.k.toNat = true → (r.l.length : Int) = dM r.k.toNat → numsOk r.l = true → DeedOk φ b z r x
 no : r.k.toNat ≠ 2 → ¬ (dT r.k.toNat = true ∧ (r.l.length : Int) = dM r.k.toNat) → b.deed r.k.toNat r.l = b
theorem ball_ct (φ : Fact) (b : Br) (z : BrA) (L : Option Addr) (cL : Nat) (zs : Rcs) (hn : b.its.length ≤ 1000000) (hm : b.kps.length ≤ 1000000) (hms : b.cf.ms.length ≤ 1000000) (hz : zs.length ≤ 1000000) (hS : ∀ k (h : k < zs.length), StepOk φ (allK b zs k) zs[k].2 zs[k].1) :
 Ct Tryz.prog 29 [b.v z, .slice L zs.length cL] [] (b.rd z ++ [.rd L (rcsV zs), .rcs zs, .lim, φ]) (fun x : BrA => (allK b zs zs.length).v x) (fun x => (allK b zs zs.length).rows x) (fun _ => []) := by
 obtain ⟨⟨M, cM⟩, ⟨I, cI⟩, ⟨K, cK⟩⟩ := z
 refine Ct.of _ Tryz.func29 Tryz.ntmps29 rfl rfl (fun X W => ?_)
 refine Jc.qs<|Jc.qr ?_
 refine Jl.box rfl (by rfl) ?_
 intro b2
 refine Jl.alloc tze38 ?_
 intro b4
 refine Jl.qn<|Jq.qt<|Jc.qs<|Jc.qr ?_
 refine Jl.pv (PR.loadW rfl tsh38 zH (by rfl)) ?_
 refine Jl.call (bown_ct b ((M, cM), (I, cI), (K, cK)) hn hm hms) en28 (by rfl) zT zF ?_
 rintro ⟨⟨A1, c1⟩, ⟨A2, c2⟩, ⟨A3, c3⟩⟩
 refine Jl.storeW rfl tsh38 rfl (by rfl) (by first | exact Br.cs_one _ _ | simp [Value.oneCell', Rc.cs]) zS (by rfl) ?_
 refine Jl.qn<|Jq.qt<|Jc.qs<|Jc.qs<|Jc.qr<|Jl.pv (PR.qm rfl) ?_
 refine Jl.call (records_ct L zs.length cL) en53 (by rfl) zT zF ?_
 rintro b9
 refine Jl.qn<|Jq.qt ?_
 refine Jc.block ?_
 refine Jc.lessR (rs := .blk b9 22 [.slice L zs.length cL] :: .blk b4 38 ((⟨0, 0, false, Cf.zero, [], [], ⟨0, 0, 0, 0, false, 0, 0⟩⟩ : Br).cs ((none, 0), (none, 0), (none, 0))) :: (allK b zs 0).st b2 ((A1, c1), (A2, c2), (A3, c3))) zT ?_
 refine Jc.range (σ := Nat × BrA) (τ := Empty) (Inv := fun k s => s.1 = k) (Rs := fun s => .blk b4 38 ((⟨0, 0, false, Cf.zero, [], [], ⟨0, 0, 0, 0, false, 0, 0⟩⟩ : Br).cs ((none, 0), (none, 0), (none, 0))) :: (allK b zs s.1).st b2 s.2) (Φs := fun _ => [.rd L (rcsV zs), .rcs zs, .lim, φ]) (InvX := fun _ _ x => x.elim) (RsX := fun x => x.elim) (ΦsX := fun x => x.elim) (vals := rcvals zs) rfl en72 (records1_it L cL b9 zs hz) zT zF (rcvals_len zs) rfl (0, ((A1, c1), (A2, c2), (A3, c3))) rfl rfl zF ?_ ?_ ?_
 · rintro k ⟨j, z'⟩ hk hj l C1
   obtain rfl : j = k := hj
   rw [rcvals_at hk]
   refine Jc.fact (.rd zs[j].1.1 (i64s zs[j].2.l)) (φ := .rcs zs) zM (fun X W h => h _ (List.getElem_mem hk)) ?_
   show Jc _ _ _ _ _ _ (psetL [10] [zs[j].2.v zs[j].1] _) (.blk b4 38 ((⟨0, 0, false, Cf.zero, [], [], ⟨0, 0, 0, 0, false, 0, 0⟩⟩ : Br).cs ((none, 0), (none, 0), (none, 0))) :: (allK b zs j).st b2 z') [.rd zs[j].1.1 (i64s zs[j].2.l), .rd L (rcsV zs), .rcs zs, .lim, φ]
   have hs := hS j hk
   refine Jc.qr ?_
   refine Jl.alloc tze54 ?_
   intro b5
   refine Jl.storeW rfl tsh54 rfl (by rfl) (by first | exact Br.cs_one _ _ | simp [Value.oneCell', Rc.cs]) zS (by rfl) ?_
   refine Jl.qn ?_
   refine Jq.assigned (fun C2 => ?_)
   refine Jc.block ?_
   refine Jc.qr ?_
   refine Jl.pv (PR.loadW rfl tsh54 zH (by rfl)) ?_
   refine Jl.call (apply_ct φ (allK b zs j) z' b2 zs[j].2 zs[j].1 hs.len hs.cap (hs.deed z') hs.no) en54 (by rfl) zT zF ?_
   rintro z''
   refine Jl.qn ?_
   refine Jq.blkN ?_
   rw [← allK_succ b hk]
   refine Jq.lessR (rs := .blk b4 38 ((⟨0, 0, false, Cf.zero, [], [], ⟨0, 0, 0, 0, false, 0, 0⟩⟩ : Br).cs ((none, 0), (none, 0), (none, 0))) :: (allK b zs (j + 1)).st b2 z'') zT ?_
   exact Jq.next (j + 1, z'') rfl rfl zF
 · rintro ⟨j, z'⟩ D0 hj
   obtain rfl : j = zs.length := hj
   refine Jq.blkN ?_
   refine Jq.qt<|Jc.qs<|Jc.qr ?_
   refine Jl.pv (PR.loadW rfl tsh38 zH (by rfl)) ?_
   refine Jl.storeW rfl tsh38 rfl (by rfl) (by first | exact Br.cs_one _ _ | simp [Value.oneCell', Rc.cs]) zS (by rfl) ?_
   refine Jl.qn<|Jq.qt<|Jc.ret ?_
   exact Jq.finM (Ds := [D0]) z' (.inl rfl) rfl zT (RetVs.cellA rfl zH tsh38 (by rfl) RetVs.nil) rfl zT zF
 exact fun _ _ t => t.elim
theorem bapply_ct (φ : Fact) (b : Br) (z : BrA) (r : Rc) (x : AdC) (hn : b.its.length ≤ 1000000) (hm : b.kps.length ≤ 1000000) (hms : b.cf.ms.length ≤ 1000000) (hS : StepOk φ b r x) :
 Ct Tryz.prog 61 [b.v z, r.v x] [] (b.rd z ++ [.rd x.1 (i64s r.l), .lim, φ]) (fun y : BrA => (b.apply r).v y) (fun y => (b.apply r).rows y) (fun _ => []) := by
 obtain ⟨⟨M, cM⟩, ⟨I, cI⟩, ⟨K, cK⟩⟩ := z
 obtain ⟨A, cA⟩ := x
 refine Ct.of _ Tryz.func61 Tryz.ntmps61 rfl rfl (fun X W => ?_)
 refine Jc.qs<|Jc.qr ?_
 refine Jl.box rfl (by rfl) ?_
 intro b2
 refine Jl.box rfl (by rfl) ?_
 intro b3
 refine Jl.alloc tze38 ?_
 intro b4
 refine Jl.qn<|Jq.qt<|Jc.qs<|Jc.qr ?_
 refine Jl.pv (PR.loadW rfl tsh38 zH (by rfl)) ?_
 refine Jl.pv (PR.loadW rfl tsh54 zH (by rfl)) ?_
 refine Jl.buildSlice (by rfl) tsl22 tzr22_1 (by rfl) (by rfl) ?_
 intro b7
 refine Jl.seal zD ?_
 refine Jl.fact (.rcs [((A, cA), r)]) (φ := .rd A (i64s r.l)) zM (fun X W h z hz => by rw [List.mem_singleton] at hz; subst hz; exact h) ?_
 refine Jl.call (ball_ct φ b ((M, cM), (I, cI), (K, cK)) (some ⟨b7, 0, none⟩) 1 [((A, cA), r)] hn hm hms (by simp) (fun k h => by obtain rfl : k = 0 := (by simp at h; omega); exact hS)) en29 (by rfl) zT zF ?_
 rintro y
 refine Jl.storeW rfl tsh38 rfl (by rfl) (by first | exact Br.cs_one _ _ | simp [Value.oneCell', Rc.cs]) zS (by rfl) ?_
 refine Jl.qn<|Jq.qt<|Jc.ret ?_
 exact Jq.fin y (.inl rfl) rfl (RetVs.cellA rfl zH tsh38 (by rfl) RetVs.nil) rfl zT zF
end Go.Proofs.YtakbgccddokbbaaGreatDoor
namespace Go.Proofs.YtakbgccddokbbaaGreatDoor
open Go.RowKit
attribute [local irreducible] Res.blk Res.row Fact.rd Res.mapV Fact.chg
theorem kept2_ct (b : Br) (z : BrA) (bb bd : Nat) (L : Option Addr) (cL : Nat) (id : Int) (l : List Int) (hm : b.kps.length ≤ 1000000) (inner : FuncId) (hen : ∀ args w, (callFunc inner args).run Tryz.prog w = .ok (.enter inner args) w) (T : Br)
    (hno : b.findK id = none → T = b) (hin : ∀ i, b.findK id = some i → Ct Tryz.prog inner [ptr bb, .int .i64 (i : Int), .slice L (id :: l).length cL] (b.st bb z) [.rd L (i64s (id :: l)), .chg] (fun _ : Unit => .tuple #[]) (fun _ => T.st bb z) (fun _ => [])) :
    Ct Tryz.prog 119 [ptr bb, .slice L (id :: l).length cL, ptr bd] (.blk bd 136 [.func (.func inner) #[] #[]] :: b.st bb z) [.rd L (i64s (id :: l)), .chg] (fun _ : Unit => .tuple #[]) (fun _ => T.st bb z) (fun _ => []) := by
  obtain ⟨⟨M, cM⟩, ⟨I, cI⟩, ⟨K, cK⟩⟩ := z
  cases hf : b.findK id with
  | none =>
    obtain rfl := hno hf
    refine Ct.of _ Tryz.func119 Tryz.ntmps119 rfl rfl (fun X W => ?_)
    refine Jc.qs ?_
    refine Jc.drawn [0, 1, 3, 0, 8, 24, 63, 127] ([(7, false)], []) [⟨[(0, false), (1, false), (2, false), (3, false), (4, false), (5, false)], [], 6⟩] tmx (by kernel_rfl) ?_
    refine Dh.JH.cons<|Dh.JB.pv rfl trivial (fun _ => PR.qm rfl) ?_
    refine Dh.JB.pv rfl trivial (fun _ => PR.nilCheck rfl) ?_
    refine Dh.JB.rd [.blk _ _ _] rfl trivial zT (fun _ => PR.loadA rfl tsh38 Has.here (by rfl)) ?_
    refine Dh.JB.pv rfl trivial (fun _ => PR.qm rfl) ?_
    refine Dh.JB.pv rfl trivial (fun _ => PR.idx1 0 rfl rfl tsl23 zM (by simp [i64s]) rfl (by simp)) ?_
    refine Dh.JB.pv rfl trivial (fun _ => PR.loadR rfl tsh3 zM rfl) ?_
    refine Dh.JB.nil<|Dh.JL.nil ?_
    refine Dh.JE.mk rfl (fun _ h => by cases h) (fun C0_6 => ?_)
    refine Jl.calll (fs := []) (cs := []) (bfind_ct T ((M, cM), (I, cI), (K, cK)) id hm) en116 rfl (by rfl) (by rfl) zT (ls := [T.rM ((M, cM), (I, cI), (K, cK)), T.rI ((M, cM), (I, cI), (K, cK)), T.rK ((M, cM), (I, cI), (K, cK))]) zT zL zF ?_
    rintro ⟨⟩
    refine Jl.as (.int .i64 (-1)) (by rw [hf]; rfl) ?_
    refine Jl.qn ?_
    refine Dh.Jq.segV zX ?_ zK
    refine Dh.JH.nil ?_
    refine Dh.JB.pv rfl trivial (fun _ => PR.qa rfl) ?_
    refine Dh.JB.nil<|Dh.JL.nil<|Jq.qt<|Jc.qs<|Jc.qr<|Jl.pv (PR.qm rfl) ?_
    refine Jl.pv (PR.geq false rfl rfl (by decide)) ?_
    refine Jl.qn<|Jq.qt<|Jc.condF rfl<|Jc.skip ?_
    exact Jq.fin () (.inr rfl) rfl RetVs.nil rfl zT zF
  | some i =>
    have hct := hin i hf
    refine Ct.of _ Tryz.func119 Tryz.ntmps119 rfl rfl (fun X W => ?_)
    refine Jc.qs ?_
    refine Jc.drawn [0, 1, 3, 0, 8, 24, 63, 127] ([(7, false)], []) [⟨[(0, false), (1, false), (2, false), (3, false), (4, false), (5, false)], [], 6⟩] tmx (by kernel_rfl) ?_
    refine Dh.JH.cons<|Dh.JB.pv rfl trivial (fun _ => PR.qm rfl) ?_
    refine Dh.JB.pv rfl trivial (fun _ => PR.nilCheck rfl) ?_
    refine Dh.JB.rd [.blk _ _ _] rfl trivial zT (fun _ => PR.loadA rfl tsh38 Has.here (by rfl)) ?_
    refine Dh.JB.pv rfl trivial (fun _ => PR.qm rfl) ?_
    refine Dh.JB.pv rfl trivial (fun _ => PR.idx1 0 rfl rfl tsl23 zM (by simp [i64s]) rfl (by simp)) ?_
    refine Dh.JB.pv rfl trivial (fun _ => PR.loadR rfl tsh3 zM rfl) ?_
    refine Dh.JB.nil<|Dh.JL.nil ?_
    refine Dh.JE.mk rfl (fun _ h => by cases h) (fun C0_6 => ?_)
    refine Jl.calll (fs := []) (cs := []) (bfind_ct b ((M, cM), (I, cI), (K, cK)) id hm) en116 rfl (by rfl) (by rfl) zT (ls := [b.rM ((M, cM), (I, cI), (K, cK)), b.rI ((M, cM), (I, cI), (K, cK)), b.rK ((M, cM), (I, cI), (K, cK))]) zT zL zF ?_
    rintro ⟨⟩
    refine Jl.as (.int .i64 (i : Int)) (by rw [hf]; rfl) ?_
    refine Jl.qn ?_
    refine Dh.Jq.segV zX ?_ zK
    refine Dh.JH.nil ?_
    refine Dh.JB.pv rfl trivial (fun _ => PR.qa rfl) ?_
    refine Dh.JB.nil<|Dh.JL.nil<|Jq.qt<|Jc.qs<|Jc.qr<|Jl.pv (PR.qm rfl) ?_
    refine Jl.pv (PR.geq true rfl rfl (decide_eq_true (by omega))) ?_
    refine Jl.qn<|Jq.qt<|Jc.condT rfl<|Jc.qr ?_
    refine Jl.pv (PR.load1 rfl tsh136 zH (by rfl)) ?_
    refine Jl.pv (PR.qm rfl)<|Jl.pv (PR.qm rfl)<|Jl.pv (PR.qm rfl) ?_
    refine Jl.callv hct hen rfl (by rfl) (by rfl) zT zF ?_
    rintro ⟨⟩
    refine Jl.qn ?_
    exact Jq.fin () (.inr rfl) rfl RetVs.nil rfl zT zF
theorem len3 {l : List Int} (h : (l.length : Int) = 3) : ∃ a b c, l = [a, b, c] := by
 match l, h with
 | [a, b, c], _ => exact ⟨a, b, c, rfl⟩
 | [], h => exact absurd h (by simp)
 | [a], h => exact absurd h (by simp)
 | [a, b], h => exact absurd h (by simp)
 | a :: b :: c :: d :: l, h => exact absurd h (by simp; omega)
theorem len5 {l : List Int} (h : (l.length : Int) = 5) : ∃ a b c d e, l = [a, b, c, d, e] := by
 match l, h with
 | [a, b, c, d, e], _ => exact ⟨a, b, c, d, e, rfl⟩
 | [], h => exact absurd h (by simp)
 | [a], h => exact absurd h (by simp)
 | [a, b], h => exact absurd h (by simp)
 | [a, b, c], h => exact absurd h (by simp)
 | [a, b, c, d], h => exact absurd h (by simp)
 | a :: b :: c :: d :: e :: f :: l, h => exact absurd h (by simp; omega)
structure Br.Fit (b : Br) : Prop where
 ep : -9223372036854775808 ≤ b.ep
 sq : -9223372036854775808 ≤ b.sq
 its : b.its.length ≤ 900000
 kps : b.kps.length ≤ 900000
theorem phaseT (b : Br) (id p now : Int) : (b.findK id = none → b.phase id p now = b) ∧ ∀ i, b.findK id = some i → b.phase id p now = if legal (b.kAt i).ph.toNat p = true then b.onK1 i { b.kAt i with ph := UInt8.ofNat p.toNat, si := now, co := false } else b :=
 ⟨fun h => by rw [Br.phase, h], fun i h => by rw [Br.phase, h]⟩
theorem goneT (b : Br) (id : Int) : (b.findK id = none → b.goneK id = b) ∧ ∀ i, b.findK id = some i → b.goneK id = { b with kps := b.kps.take i ++ b.kps.drop (i + 1) } :=
 ⟨fun h => by rw [Br.goneK, h], fun i h => by rw [Br.goneK, h]⟩
theorem deed_all (b : Br) (z : BrA) (r : Rc) (x : AdC) (hb : b.Fit) (h2 : r.k.toNat ≠ 2) (hk : dT r.k.toNat = true) (hl : (r.l.length : Int) = dM r.k.toNat) (hnum : numsOk r.l = true) : DeedOk .chg b z r x := by
 by_cases ha : admK r.k.toNat = true
 · exact deed_adm .chg b z r x (Nat.le_trans hb.kps (by decide)) ha hl
 obtain ⟨k, l⟩ := r
 obtain ⟨L, cL⟩ := x
 obtain ⟨q1, q2, q3, q4⟩ := hb
 intro p bb
 simp only [admK, Bool.or_eq_true, decide_eq_true_eq] at ha
 simp only [dT, decide_eq_true_eq] at hk
 have hk' : k.toNat = 1 ∨ k.toNat = 3 ∨ k.toNat = 4 ∨ k.toNat = 5 ∨ k.toNat = 6 ∨ k.toNat = 7 ∨ k.toNat = 8 ∨ k.toNat = 14 ∨ k.toNat = 16 := by omega
 rcases hk' with h | h | h | h | h | h | h | h | h <;> (simp only [h] at hl ⊢)
 · obtain rfl := len0 hl
   exact ⟨_, [], rfl, en84, Ct.facts (pre := [.rd L (i64s [])]) zF (Ct.unit z (Ct.more zT (dboot_ct b z bb L cL q1)) rfl rfl)⟩
 · obtain ⟨v, zo, w, rfl⟩ := len3 hl
   exact ⟨_, [], rfl, en85, Ct.facts (pre := [.rd L (i64s [v, zo, w])]) zF (Ct.more zT (dintent_ct b z bb L cL v zo w q2 q3))⟩
 · obtain ⟨t, id, now, rfl⟩ := len3 hl
   exact ⟨_, [], rfl, en86, Ct.facts (pre := [.rd L (i64s [t, id, now])]) zF (Ct.more zT (dmade_ct b z bb L cL t id now q3 q4))⟩
 · obtain ⟨n, rfl⟩ := len1 hl
   exact ⟨_, [ptr p.k5], rfl, en121, Ct.facts (pre := [.rd L (i64s [n])]) zF (Ct.unit z (Ct.more zT (active1_ct b z bb p.k5 L cL [n] 97 en97 _ b.fail rfl fun _ => dfail_ct b z bb L cL n)) rfl rfl)⟩
 · obtain ⟨id, ph, now, rfl⟩ := len3 hl
   have hp : 0 ≤ ph := by simp [numsOk] at hnum; omega
   refine ⟨_, [ptr p.k6], rfl, en119, Ct.facts (pre := [.rd L (i64s [id, ph, now]), .chg]) zF (Ct.unit z (Ct.more zT (kept2_ct b z bb p.k6 L cL id [ph, now] (by omega) 89 en89 (b.phase id ph now) (phaseT b id ph now).1 fun i hi => ?_)) rfl rfl)⟩
   rw [(phaseT b id ph now).2 i hi]
   exact dphase_ct b z bb L cL id ph now i (findK_some hi).1 hp
 · obtain ⟨id, rfl⟩ := len1 hl
   refine ⟨_, [ptr p.k7], rfl, en119, Ct.facts (pre := [.rd L (i64s [id])]) zF (Ct.unit z (Ct.more zT (kept1_ct b z bb p.k7 L cL id [] (by omega) 91 en91 (b.goneK id) (goneT b id).1 fun i hi => ?_)) rfl rfl)⟩
   rw [(goneT b id).2 i hi]
   exact dgone_ct b z bb L cL id i (findK_some hi).1 q4
 · obtain ⟨id, t, v, zo, now, rfl⟩ := len5 hl
   exact ⟨_, [], rfl, en87, Ct.facts (pre := [.rd L (i64s [id, t, v, zo, now])]) zF (Ct.more zT (dtake_ct b z bb L cL id t v zo now q4))⟩
 · obtain ⟨now, rfl⟩ := len1 hl
   exact ⟨_, [ptr p.k14], rfl, en121, Ct.facts (pre := [.rd L (i64s [now])]) zF (Ct.unit z (Ct.more zT (active1_ct b z bb p.k14 L cL [now] 100 en100 _ (b.pause now) rfl fun _ => dpause_ct b z bb L cL now)) rfl rfl)⟩
 · obtain rfl := len0 hl
   exact ⟨_, [ptr p.k16], rfl, en121, Ct.facts (pre := [.rd L (i64s [])]) zF (Ct.unit z (Ct.more zT (active1_ct b z bb p.k16 L cL [] 102 en102 _ b.done1 rfl fun _ => ddone_ct b z bb L cL)) rfl rfl)⟩
end Go.Proofs.YtakbgccddokbbaaGreatDoor
namespace Go.Proofs.YtakbgccddokbbaaGreatDoor
open Go.RowKit
attribute [local irreducible] Res.blk Res.row Fact.rd
def bz0 : Br := ⟨0, 0, false, Cf.zero, [], [], ⟨0, 0, 0, 0, false, 0, 0⟩⟩
abbrev nilZ : BrA := ((none, 0), (none, 0), (none, 0))
theorem insAt_at {l : List Kp} {id : Int} {k : Nat} (hk : k ≤ l.length) (hq : ∀ j (h : j < l.length), j < k → ¬ id < l[j].id) (h2 : ∀ h : k < l.length, id < l[k].id) : insAt l id = k := by
 rcases Nat.lt_or_ge k l.length with h | h
 · exact (insAt_some (fidx_at h (decide_eq_true (h2 h)) fun j hj hjk => decide_eq_false (hq j hj hjk))).1
 · rw [insAt_none (fidx_none fun j hj => decide_eq_false (hq j hj (by omega)))]; omega
def rlegal (f t : UInt8) : Bool := (legalL.getD f.toNat []).contains t.toNat
theorem rl2 (f t : UInt8) (n a c : Nat) (a' c' : Int) (hf : f.toNat = n) (hrow : legalL.getD n [] = [a, c]) (ha : a' = (a : Int)) (hc : c' = (c : Int)) : rlegal f t = (decide ((t.toNat : Int) = a') || decide ((t.toNat : Int) = c')) := by
 subst ha hc hf
 rw [rlegal, hrow, Bool.eq_iff_iff]
 simp only [List.contains_cons, List.contains_nil, Bool.or_false, Bool.or_eq_true, beq_iff_eq, decide_eq_true_eq]
 omega
theorem rl1 (f t : UInt8) (n a : Nat) (a' : Int) (hf : f.toNat = n) (hrow : legalL.getD n [] = [a]) (ha : a' = (a : Int)) : rlegal f t = decide ((t.toNat : Int) = a') := by
 subst ha hf
 rw [rlegal, hrow, Bool.eq_iff_iff]
 simp only [List.contains_cons, List.contains_nil, Bool.or_false, beq_iff_eq, decide_eq_true_eq]
 omega
theorem rl0 (f t : UInt8) (h : f.toNat ≠ 1 ∧ f.toNat ≠ 2 ∧ f.toNat ≠ 3 ∧ f.toNat ≠ 4 ∧ f.toNat ≠ 5 ∧ f.toNat ≠ 6 ∧ f.toNat ≠ 7 ∧ f.toNat ≠ 9 ∧ f.toNat ≠ 10) : rlegal f t = false := by
 have e : legalL.getD f.toNat [] = [] := by
  rcases Nat.lt_or_ge f.toNat 11 with h2 | h2
  · have h3 : f.toNat = 0 ∨ f.toNat = 8 := by omega
    rcases h3 with h3 | h3 <;> rw [h3] <;> rfl
  · rw [List.getD_eq_getElem?_getD, List.getElem?_eq_none (show legalL.length ≤ _ from h2)]; rfl
 rw [rlegal, e]
 simp
theorem rlegal_ct (f t : UInt8) : Ct Tryz.prog 65 [.int .u8 (f.toNat : Int), .int .u8 (t.toNat : Int)] [] [] (fun _ : Unit => .bool (rlegal f t)) (fun _ => []) (fun _ => []) := by
 refine Ct.of _ Tryz.func65 Tryz.ntmps65 rfl rfl (fun X W => ?_)
 refine Jc.qs<|Jc.qr<|Jl.pv (PR.qa rfl)<|Jl.qn<|Jq.qt<|Jc.qs<|Jc.qs<|Jc.qr<|Jl.pv (PR.qm rfl)<|Jl.qn<|Jq.qt ?_
 refine Jc.block ?_
 refine Jc.qs<|Jc.qr ?_
 refine Jl.pv (PR.eql _ rfl rfl rfl) ?_
 refine Jl.pv (PR.qa rfl)<|Jl.qn<|Jq.qt ?_
 refine Jc.cond rfl (fun q0 => ?_) (fun q0 => ?_)
 · try replace q0 := zV q0
   refine Jc.qs<|Jc.qr<|Jl.pv (PR.qm rfl) ?_
   refine Jl.pv (PR.eql _ rfl rfl rfl) ?_
   refine Jl.pv (PR.qm rfl) ?_
   refine Jl.bsplit (fun g10 => ?_) (fun g10 => ?_)
   · try replace g10 := zV g10
     refine Jl.qo rfl rfl rfl<|Jl.qo rfl rfl rfl<|Jl.pv (PR.pickT rfl rfl)<|Jl.pv (PR.qa rfl)<|Jl.qn<|Jq.qt<|Jc.ret ?_
     refine Jq.blkR ?_
     refine Jq.thenR ?_
     exact Jq.fin () (.inl rfl) rfl (RetVs.tmp rfl RetVs.nil) (congrArg Value.bool ((rl2 f t 1 2 8 2 8 (by omega) rfl rfl rfl).trans (by simp [g10]))) zT zF
   try replace g10 := zW g10
   refine Jl.on rfl rfl<|Jl.pv (PR.qm rfl)<|Jl.on rfl rfl ?_
   refine Jl.pv (PR.eql _ rfl rfl rfl) ?_
   refine Jl.pv (PR.pickF rfl rfl)<|Jl.pv (PR.qa rfl)<|Jl.qn<|Jq.qt<|Jc.ret ?_
   refine Jq.blkR ?_
   refine Jq.thenR ?_
   exact Jq.fin () (.inl rfl) rfl (RetVs.tmp rfl RetVs.nil) (congrArg Value.bool ((rl2 f t 1 2 8 2 8 (by omega) rfl rfl rfl).trans (by simp [g10]))) zT zF
 try replace q0 := zW q0
 refine Jc.qs<|Jc.qr ?_
 refine Jl.pv (PR.eql _ rfl rfl rfl) ?_
 refine Jl.pv (PR.qa rfl)<|Jl.qn<|Jq.qt ?_
 refine Jc.cond rfl (fun q1 => ?_) (fun q1 => ?_)
 · try replace q1 := zV q1
   refine Jc.qs<|Jc.qr<|Jl.pv (PR.qm rfl) ?_
   refine Jl.pv (PR.eql _ rfl rfl rfl) ?_
   refine Jl.pv (PR.qm rfl) ?_
   refine Jl.bsplit (fun g18 => ?_) (fun g18 => ?_)
   · try replace g18 := zV g18
     refine Jl.qo rfl rfl rfl<|Jl.qo rfl rfl rfl<|Jl.pv (PR.pickT rfl rfl)<|Jl.pv (PR.qa rfl)<|Jl.qn<|Jq.qt<|Jc.ret ?_
     refine Jq.blkR ?_
     refine Jq.thenR ?_
     exact Jq.fin () (.inl rfl) rfl (RetVs.tmp rfl RetVs.nil) (congrArg Value.bool ((rl2 f t 2 3 8 3 8 (by omega) rfl rfl rfl).trans (by simp [g18]))) zT zF
   try replace g18 := zW g18
   refine Jl.on rfl rfl<|Jl.pv (PR.qm rfl)<|Jl.on rfl rfl ?_
   refine Jl.pv (PR.eql _ rfl rfl rfl) ?_
   refine Jl.pv (PR.pickF rfl rfl)<|Jl.pv (PR.qa rfl)<|Jl.qn<|Jq.qt<|Jc.ret ?_
   refine Jq.blkR ?_
   refine Jq.thenR ?_
   exact Jq.fin () (.inl rfl) rfl (RetVs.tmp rfl RetVs.nil) (congrArg Value.bool ((rl2 f t 2 3 8 3 8 (by omega) rfl rfl rfl).trans (by simp [g18]))) zT zF
 try replace q1 := zW q1
 refine Jc.qs<|Jc.qr ?_
 refine Jl.pv (PR.eql _ rfl rfl rfl) ?_
 refine Jl.pv (PR.qa rfl)<|Jl.qn<|Jq.qt ?_
 refine Jc.cond rfl (fun q2 => ?_) (fun q2 => ?_)
 · try replace q2 := zV q2
   refine Jc.qs<|Jc.qr<|Jl.pv (PR.qm rfl) ?_
   refine Jl.pv (PR.eql _ rfl rfl rfl) ?_
   refine Jl.pv (PR.qa rfl)<|Jl.qn<|Jq.qt<|Jc.ret ?_
   refine Jq.blkR ?_
   refine Jq.thenR ?_
   exact Jq.fin () (.inl rfl) rfl (RetVs.tmp rfl RetVs.nil) (congrArg Value.bool (rl1 f t 3 4 4 (by omega) rfl rfl)) zT zF
 try replace q2 := zW q2
 refine Jc.qs<|Jc.qr ?_
 refine Jl.pv (PR.eql _ rfl rfl rfl) ?_
 refine Jl.pv (PR.qa rfl)<|Jl.qn<|Jq.qt ?_
 refine Jc.cond rfl (fun q3 => ?_) (fun q3 => ?_)
 · try replace q3 := zV q3
   refine Jc.qs<|Jc.qr<|Jl.pv (PR.qm rfl) ?_
   refine Jl.pv (PR.eql _ rfl rfl rfl) ?_
   refine Jl.pv (PR.qm rfl) ?_
   refine Jl.bsplit (fun g30 => ?_) (fun g30 => ?_)
   · try replace g30 := zV g30
     refine Jl.qo rfl rfl rfl<|Jl.qo rfl rfl rfl<|Jl.pv (PR.pickT rfl rfl)<|Jl.pv (PR.qa rfl)<|Jl.qn<|Jq.qt<|Jc.ret ?_
     refine Jq.blkR ?_
     refine Jq.thenR ?_
     exact Jq.fin () (.inl rfl) rfl (RetVs.tmp rfl RetVs.nil) (congrArg Value.bool ((rl2 f t 4 5 3 5 3 (by omega) rfl rfl rfl).trans (by simp [g30]))) zT zF
   try replace g30 := zW g30
   refine Jl.on rfl rfl<|Jl.pv (PR.qm rfl)<|Jl.on rfl rfl ?_
   refine Jl.pv (PR.eql _ rfl rfl rfl) ?_
   refine Jl.pv (PR.pickF rfl rfl)<|Jl.pv (PR.qa rfl)<|Jl.qn<|Jq.qt<|Jc.ret ?_
   refine Jq.blkR ?_
   refine Jq.thenR ?_
   exact Jq.fin () (.inl rfl) rfl (RetVs.tmp rfl RetVs.nil) (congrArg Value.bool ((rl2 f t 4 5 3 5 3 (by omega) rfl rfl rfl).trans (by simp [g30]))) zT zF
 try replace q3 := zW q3
 refine Jc.qs<|Jc.qr ?_
 refine Jl.pv (PR.eql _ rfl rfl rfl) ?_
 refine Jl.pv (PR.qa rfl)<|Jl.qn<|Jq.qt ?_
 refine Jc.cond rfl (fun q4 => ?_) (fun q4 => ?_)
 · try replace q4 := zV q4
   refine Jc.qs<|Jc.qr<|Jl.pv (PR.qm rfl) ?_
   refine Jl.pv (PR.eql _ rfl rfl rfl) ?_
   refine Jl.pv (PR.qm rfl) ?_
   refine Jl.bsplit (fun g38 => ?_) (fun g38 => ?_)
   · try replace g38 := zV g38
     refine Jl.qo rfl rfl rfl<|Jl.qo rfl rfl rfl<|Jl.pv (PR.pickT rfl rfl)<|Jl.pv (PR.qa rfl)<|Jl.qn<|Jq.qt<|Jc.ret ?_
     refine Jq.blkR ?_
     refine Jq.thenR ?_
     exact Jq.fin () (.inl rfl) rfl (RetVs.tmp rfl RetVs.nil) (congrArg Value.bool ((rl2 f t 5 6 4 6 4 (by omega) rfl rfl rfl).trans (by simp [g38]))) zT zF
   try replace g38 := zW g38
   refine Jl.on rfl rfl<|Jl.pv (PR.qm rfl)<|Jl.on rfl rfl ?_
   refine Jl.pv (PR.eql _ rfl rfl rfl) ?_
   refine Jl.pv (PR.pickF rfl rfl)<|Jl.pv (PR.qa rfl)<|Jl.qn<|Jq.qt<|Jc.ret ?_
   refine Jq.blkR ?_
   refine Jq.thenR ?_
   exact Jq.fin () (.inl rfl) rfl (RetVs.tmp rfl RetVs.nil) (congrArg Value.bool ((rl2 f t 5 6 4 6 4 (by omega) rfl rfl rfl).trans (by simp [g38]))) zT zF
 try replace q4 := zW q4
 refine Jc.qs<|Jc.qr ?_
 refine Jl.pv (PR.eql _ rfl rfl rfl) ?_
 refine Jl.pv (PR.qa rfl)<|Jl.qn<|Jq.qt ?_
 refine Jc.cond rfl (fun q5 => ?_) (fun q5 => ?_)
 · try replace q5 := zV q5
   refine Jc.qs<|Jc.qr<|Jl.pv (PR.qm rfl) ?_
   refine Jl.pv (PR.eql _ rfl rfl rfl) ?_
   refine Jl.pv (PR.qa rfl)<|Jl.qn<|Jq.qt<|Jc.ret ?_
   refine Jq.blkR ?_
   refine Jq.thenR ?_
   exact Jq.fin () (.inl rfl) rfl (RetVs.tmp rfl RetVs.nil) (congrArg Value.bool (rl1 f t 6 7 7 (by omega) rfl rfl)) zT zF
 try replace q5 := zW q5
 refine Jc.qs<|Jc.qr ?_
 refine Jl.pv (PR.eql _ rfl rfl rfl) ?_
 refine Jl.pv (PR.qa rfl)<|Jl.qn<|Jq.qt ?_
 refine Jc.cond rfl (fun q6 => ?_) (fun q6 => ?_)
 · try replace q6 := zV q6
   refine Jc.qs<|Jc.qr<|Jl.pv (PR.qm rfl) ?_
   refine Jl.pv (PR.eql _ rfl rfl rfl) ?_
   refine Jl.pv (PR.qa rfl)<|Jl.qn<|Jq.qt<|Jc.ret ?_
   refine Jq.blkR ?_
   refine Jq.thenR ?_
   exact Jq.fin () (.inl rfl) rfl (RetVs.tmp rfl RetVs.nil) (congrArg Value.bool (rl1 f t 7 8 8 (by omega) rfl rfl)) zT zF
 try replace q6 := zW q6
 refine Jc.qs<|Jc.qr ?_
 refine Jl.pv (PR.eql _ rfl rfl rfl) ?_
 refine Jl.pv (PR.qa rfl)<|Jl.qn<|Jq.qt ?_
 refine Jc.cond rfl (fun q7 => ?_) (fun q7 => ?_)
 · try replace q7 := zV q7
   refine Jc.qs<|Jc.qr<|Jl.pv (PR.qm rfl) ?_
   refine Jl.pv (PR.eql _ rfl rfl rfl) ?_
   refine Jl.pv (PR.qm rfl) ?_
   refine Jl.bsplit (fun g54 => ?_) (fun g54 => ?_)
   · try replace g54 := zV g54
     refine Jl.qo rfl rfl rfl<|Jl.qo rfl rfl rfl<|Jl.pv (PR.pickT rfl rfl)<|Jl.pv (PR.qa rfl)<|Jl.qn<|Jq.qt<|Jc.ret ?_
     refine Jq.blkR ?_
     refine Jq.thenR ?_
     exact Jq.fin () (.inl rfl) rfl (RetVs.tmp rfl RetVs.nil) (congrArg Value.bool ((rl2 f t 9 10 8 10 8 (by omega) rfl rfl rfl).trans (by simp [g54]))) zT zF
   try replace g54 := zW g54
   refine Jl.on rfl rfl<|Jl.pv (PR.qm rfl)<|Jl.on rfl rfl ?_
   refine Jl.pv (PR.eql _ rfl rfl rfl) ?_
   refine Jl.pv (PR.pickF rfl rfl)<|Jl.pv (PR.qa rfl)<|Jl.qn<|Jq.qt<|Jc.ret ?_
   refine Jq.blkR ?_
   refine Jq.thenR ?_
   exact Jq.fin () (.inl rfl) rfl (RetVs.tmp rfl RetVs.nil) (congrArg Value.bool ((rl2 f t 9 10 8 10 8 (by omega) rfl rfl rfl).trans (by simp [g54]))) zT zF
 try replace q7 := zW q7
 refine Jc.qs<|Jc.qr ?_
 refine Jl.pv (PR.eql _ rfl rfl rfl) ?_
 refine Jl.pv (PR.qa rfl)<|Jl.qn<|Jq.qt ?_
 refine Jc.cond rfl (fun q8 => ?_) (fun q8 => ?_)
 · try replace q8 := zV q8
   refine Jc.qs<|Jc.qr<|Jl.pv (PR.qm rfl) ?_
   refine Jl.pv (PR.eql _ rfl rfl rfl) ?_
   refine Jl.pv (PR.qa rfl)<|Jl.qn<|Jq.qt<|Jc.ret ?_
   refine Jq.blkR ?_
   refine Jq.thenR ?_
   exact Jq.fin () (.inl rfl) rfl (RetVs.tmp rfl RetVs.nil) (congrArg Value.bool (rl1 f t 10 1 1 (by omega) rfl rfl)) zT zF
 try replace q8 := zW q8
 refine Jc.skip ?_
 refine Jq.blkN ?_
 refine Jq.qt<|Jc.qs<|Jc.qr<|Jl.pv (PR.qa rfl)<|Jl.qn<|Jq.qt<|Jc.ret ?_
 exact Jq.fin () (.inl rfl) rfl (RetVs.tmp rfl RetVs.nil) (congrArg Value.bool (rl0 f t (by omega))) zT zF
theorem rtok_ct (b : Br) (z : BrA) (t : Int) (hn : b.its.length ≤ 1000000) : Ct Tryz.prog 62 [b.v z, .int .i64 t] [] (b.rd z) (fun _ : Unit => .int .i64 (plcI (b.findT t))) (fun _ => []) (fun _ => []) := by
 obtain ⟨⟨M, cM⟩, ⟨I, cI⟩, ⟨K, cK⟩⟩ := z
 have hl8 := itsV_len b.its
 refine Ct.of _ Tryz.func62 Tryz.ntmps62 rfl rfl (fun X W => ?_)
 refine Jc.qs<|Jc.qr ?_
 refine Jl.box rfl (by rfl) ?_
 intro b2
 refine Jl.pv (PR.qa rfl)<|Jl.qn<|Jq.qt<|Jc.qs<|Jc.qs<|Jc.qr<|Jl.pv (PR.qa rfl)<|Jl.qn<|Jq.qt ?_
 refine Jc.block ?_
 refine Jc.loop (σ := { k : Nat // k ≤ b.its.length ∧ ∀ j (h : j < b.its.length), j < k → decide (b.its[j].tok = t) = false }) (fun s => [(5, .int .i64 (s.1 : Int)), (2, .pointer (some ⟨b2, 0, none⟩)), (1, .int .i64 t)]) (fun _ => [.blk b2 38 (b.cs ((M, cM), (I, cI), (K, cK)))]) (fun s => [.rd M (i64s b.cf.ms), .rd I (itsV b.its), .rd K (kpsV b.kps)]) (fun s => b.its.length - s.1) ⟨0, Nat.zero_le _, fun j h h2 => by omega⟩ (by repeat (first | exact trivial | refine And.intro rfl ?_)) rfl zF ?_
 rintro ⟨k, hk, hq⟩
 show Jc _ _ _ _ _ _ [(5, Value.int .i64 (k : Int)), (2, .pointer (some ⟨b2, 0, none⟩)), (1, .int .i64 t)] [.blk b2 38 (b.cs ((M, cM), (I, cI), (K, cK)))] [.rd M (i64s b.cf.ms), .rd I (itsV b.its), .rd K (kpsV b.kps)]
 refine Jc.qs<|Jc.qs<|Jc.qr<|Jl.pv (PR.qm rfl)<|Jl.pv (PR.qf rfl tfl38_4) ?_
 refine Jl.pv (PR.load1 rfl tsh33 zH (by rfl)) ?_
 refine Jl.pv (PR.len rfl tsl33) ?_
 refine Jl.pv (PR.lss _ rfl rfl rfl) ?_
 refine Jl.qn<|Jq.qt ?_
 refine Jc.cond rfl (fun h0 => ?_) (fun h0 => ?_)
 · try replace h0 := zV h0
   have hlt : k < b.its.length := by omega
   refine Jc.skip<|Jq.qt<|Jc.qs ?_
   refine Jc.block ?_
   refine Jc.qs<|Jc.qr<|Jl.pv (PR.qf rfl tfl38_4) ?_
   refine Jl.pv (PR.load1 rfl tsh33 zH (by rfl)) ?_
   refine Jl.pv (PR.qm rfl) ?_
   refine Jl.pv (PR.idx k rfl rfl tsl33 zM (itsV_len _) (by omega) rfl hlt) ?_
   refine Jl.pv (PR.fieldAddrR rfl tfl70_0 zM (by omega)) ?_
   refine Jl.pv (PR.loadR rfl tsh3 zM (its_f hlt 0 rfl)) ?_
   refine Jl.pv (PR.qm rfl) ?_
   refine Jl.pv (PR.eql _ rfl rfl rfl) ?_
   refine Jl.qn<|Jq.qt ?_
   refine Jc.cond rfl (fun h1 => ?_) (fun h1 => ?_)
   · try replace h1 := zV h1
     refine Jc.qs<|Jc.qr<|Jl.pv (PR.qm rfl)<|Jl.pv (PR.qa rfl)<|Jl.qn<|Jq.qt<|Jc.ret ?_
     refine Jq.blkR ?_
     refine Jq.thenR<|Jq.thenR ?_
     refine Jq.blkR ?_
     refine Jq.thenR ?_
     exact Jq.fin () (.inl rfl) rfl (RetVs.tmp rfl RetVs.nil) (by rw [Br.findT, fidx_at hlt (decide_eq_true h1) hq]; rfl) zT zF
   try replace h1 := zW h1
   refine Jc.skip ?_
   refine Jq.blkN ?_
   refine Jq.qt<|Jc.qr<|Jl.pv (PR.qm rfl) ?_
   refine Jl.pv (PR.add ((k + 1 : Nat) : Int) rfl rfl (by rw [w64 (by omega) (by omega)]; rfl)) ?_
   refine Jl.pv (PR.qa rfl)<|Jl.qn ?_
   exact Jq.againT ⟨k + 1, hlt, fun j hj hjk => by rcases Nat.lt_succ_iff_lt_or_eq.1 hjk with h | rfl; exact hq j hj h; exact decide_eq_false h1⟩ (by simp only; omega) (by repeat (first | exact trivial | refine And.intro rfl ?_)) zT zF
 try replace h0 := zW h0
 refine Jc.exit ?_
 refine Jq.thenX ?_
 refine Jq.thenX ?_
 refine Jq.blkX ?_
 refine Jq.qt<|Jc.qs<|Jc.qr<|Jl.pv (PR.qa rfl)<|Jl.qn<|Jq.qt<|Jc.ret ?_
 exact Jq.fin () (.inl rfl) rfl (RetVs.tmp rfl RetVs.nil) (by rw [Br.findT, fidx_none fun j hj => hq j hj (by omega)]; rfl) zT zF
 -- hint not used: one
theorem rkeep_ct (b : Br) (z : BrA) (x : Kp) (hn : b.kps.length ≤ 1000000) (hK : b.kps.length ≤ z.2.2.2) : Ct Tryz.prog 64 [b.v z, x.v] [] (b.rd z) (fun y : AdC => ({ b with kps := insL b.kps (insAt b.kps x.id) x } : Br).v (z.1, z.2.1, y)) (fun y => [.row 72 8 (.slice y.1 (insL b.kps (insAt b.kps x.id) x).length y.2) (insL b.kps (insAt b.kps x.id) x).length (kpsV (insL b.kps (insAt b.kps x.id) x))]) (fun _ => []) := by
 obtain ⟨⟨M, cM⟩, ⟨I, cI⟩, ⟨K, cK⟩⟩ := z
 have hK' : b.kps.length ≤ cK := hK
 have hl8 := kpsV_len b.kps
 refine Ct.of _ Tryz.func64 Tryz.ntmps64 rfl rfl (fun X W => ?_)
 refine Jc.qs<|Jc.qr ?_
 refine Jl.box rfl (by rfl) ?_
 intro b2
 refine Jl.box rfl (by rfl) ?_
 intro b3
 refine Jl.alloc tze38 ?_
 intro b4
 refine Jl.qn<|Jq.qt<|Jc.qs<|Jc.qr<|Jl.pv (PR.qa rfl)<|Jl.qn<|Jq.qt<|Jc.qs ?_
 refine Jc.block ?_
 refine Jc.loop (σ := { k : Nat // k ≤ b.kps.length ∧ ∀ j (h : j < b.kps.length), j < k → ¬ x.id < b.kps[j].id }) (fun s => [(5, .int .i64 (s.1 : Int)), (2, .pointer (some ⟨b2, 0, none⟩)), (3, .pointer (some ⟨b3, 0, none⟩)), (4, .pointer (some ⟨b4, 0, none⟩))]) (fun _ => [.blk b4 38 (bz0.cs nilZ), .blk b3 72 x.cs, .blk b2 38 (b.cs ((M, cM), (I, cI), (K, cK)))]) (fun s => [.rd M (i64s b.cf.ms), .rd I (itsV b.its), .rd K (kpsV b.kps)]) (fun s => b.kps.length - s.1) ⟨0, Nat.zero_le _, fun j h h2 => by omega⟩ (by repeat (first | exact trivial | refine And.intro rfl ?_)) rfl zF ?_
 rintro ⟨k, hk, hq⟩
 show Jc _ _ _ _ _ _ [(5, Value.int .i64 (k : Int)), (2, .pointer (some ⟨b2, 0, none⟩)), (3, .pointer (some ⟨b3, 0, none⟩)), (4, .pointer (some ⟨b4, 0, none⟩))] [.blk b4 38 (bz0.cs nilZ), .blk b3 72 x.cs, .blk b2 38 (b.cs ((M, cM), (I, cI), (K, cK)))] [.rd M (i64s b.cf.ms), .rd I (itsV b.its), .rd K (kpsV b.kps)]
 have hlk : (insL b.kps k x).length = b.kps.length + 1 := insL_len x hk
 have hlt8 : (kpsV (b.kps.take k)).length = k * 8 := by rw [kpsV_len, List.length_take]; omega
 have hld8 : (kpsV (b.kps.drop k)).length = (b.kps.length - k) * 8 := by rw [kpsV_len, List.length_drop]
 refine Jc.qs<|Jc.qs ?_
 refine Jc.drawn [0, 0, 2, 6, 15, 31, 63, 127, 63, 511, 1023, 2047, 63, 4159, 16383, 32767] ([(0, false), (1, false), (2, false), (3, false), (4, false), (5, false), (6, false), (7, false), (8, false), (9, false), (10, false), (11, false), (12, false), (13, false), (14, false), (15, false)], []) [] tmx (by kernel_rfl) ?_
 refine Dh.JH.nil ?_
 refine Dh.JB.pv rfl trivial (fun _ => PR.qm rfl)<|Dh.JB.pv rfl trivial (fun _ => PR.qf rfl tfl38_5) ?_
 refine Dh.JB.rd [.blk _ _ _] rfl trivial zT (fun _ => PR.load1 rfl tsh34 Has.here (by rfl)) ?_
 refine Dh.JB.pv rfl trivial (fun _ => PR.len rfl tsl34) ?_
 refine Dh.JB.pv rfl trivial (fun _ => PR.lss _ rfl rfl rfl) ?_
 refine Dh.JB.pv rfl trivial (fun _ => PR.qm rfl) ?_
 refine Dh.JB.bsplit (fun g11 => ?_) (fun g11 => ?_)
 · try replace g11 := zV g11
   have hlt : k < b.kps.length := by omega
   refine Dh.JB.pv rfl ⟨_, rfl, rfl⟩ (fun _ => PR.qf rfl tfl38_5) ?_
   refine Dh.JB.rd [.blk _ _ _] rfl ⟨_, rfl, rfl⟩ zT (fun _ => PR.load1 rfl tsh34 Has.here (by rfl)) ?_
   refine Dh.JB.pv rfl ⟨_, rfl, rfl⟩ (fun _ => PR.qm rfl) ?_
   refine Dh.JB.pv rfl ⟨_, rfl, rfl⟩ (fun _ => PR.idx k rfl rfl tsl34 zM (kpsV_len _) (by omega) rfl hlt) ?_
   refine Dh.JB.pv rfl ⟨_, rfl, rfl⟩ (fun _ => PR.fieldAddrR rfl tfl72_0 zM (by omega)) ?_
   refine Dh.JB.pv rfl ⟨_, rfl, rfl⟩ (fun _ => PR.loadR rfl tsh3 zM (kps_f hlt 0 rfl)) ?_
   refine Dh.JB.pv rfl ⟨_, rfl, rfl⟩ (fun _ => PR.qf rfl tfl72_0) ?_
   refine Dh.JB.rd [.blk _ _ _] rfl ⟨_, rfl, rfl⟩ zT (fun _ => PR.load1 rfl tsh3 Has.here (by rfl)) ?_
   refine Dh.JB.pv rfl ⟨_, rfl, rfl⟩ (fun _ => PR.leq _ rfl rfl rfl) ?_
   refine Dh.JB.pv rfl trivial (fun _ => PR.pickT rfl rfl) ?_
   refine Dh.JB.nil<|Dh.JL.nil<|Jq.qt ?_
   refine Jc.cond rfl (fun hle => ?_) (fun hle => ?_)
   · try replace hle := zV hle
     refine Jc.skip<|Jq.qt ?_
     refine Jc.block ?_
     refine Jc.qr<|Jl.pv (PR.qm rfl) ?_
     refine Jl.pv (PR.add ((k + 1 : Nat) : Int) rfl rfl (by rw [w64 (by omega) (by omega)]; rfl)) ?_
     refine Jl.pv (PR.qa rfl)<|Jl.qn ?_
     refine Jq.blkN ?_
     exact Jq.againT ⟨k + 1, hlt, fun j hj hjk => by rcases Nat.lt_succ_iff_lt_or_eq.1 hjk with h | rfl; exact hq j hj h; omega⟩ (by simp only; omega) (by repeat (first | exact trivial | refine And.intro rfl ?_)) zT zF
   try replace hle := zW hle
   have hins : insAt b.kps x.id = k := insAt_at hk hq (fun _ => by omega)
   refine Jc.exit ?_
   refine Jq.thenX ?_
   refine Jq.thenX ?_
   refine Jq.blkX ?_
   refine Jq.qt<|Jc.qs ?_
   refine Jc.drawn [0, 0, 2, 0, 14, 31, 0, 64, 255, 0, 512, 0, 3584, 8191, 16383, 32767] ([], []) [⟨[(0, true), (1, false), (2, false), (3, false), (4, false), (6, false), (7, true), (9, false), (10, false), (11, false), (12, false)], [0], 5⟩, ⟨[], [7], 8⟩, ⟨[], [], 13⟩, ⟨[(14, false)], [], 15⟩] tmx (by kernel_rfl) ?_
   refine Dh.JH.cons ?_
   refine Dh.JB.buildSlice rfl trivial (by rfl) tsl34 tzr34_0 (by rfl) (by rfl) ?_
   refine Dh.JB.pv rfl trivial (fun _ => PR.qf rfl tfl38_5) ?_
   refine Dh.JB.rd [.blk _ _ _] rfl trivial zT (fun _ => PR.load1 rfl tsh34 Has.here (by rfl)) ?_
   refine Dh.JB.pv rfl trivial (fun _ => PR.qm rfl) ?_
   refine Dh.JB.slice 0 k k (kpsV (b.kps.take k)) rfl trivial rfl tsl34 rfl rfl zM (by omega) (by omega) hK' (by omega) (by rw [Nat.zero_mul, List.drop_zero, kpsV_take]) ?_
   intro A28 c28 hc28
   clear hc28
   refine Dh.JB.rd [.blk _ _ _] rfl trivial zT (fun _ => PR.loadW rfl tsh72 Has.here (by rfl)) ?_
   refine Dh.JB.buildSlice rfl trivial (by rfl) tsl34 tzr34_1 (by rfl) (by rfl) ?_
   refine Dh.JB.pv rfl trivial (fun _ => PR.qf rfl tfl38_5) ?_
   refine Dh.JB.rd [.blk _ _ _] rfl trivial zT (fun _ => PR.load1 rfl tsh34 Has.here (by rfl)) ?_
   refine Dh.JB.pv rfl trivial (fun _ => PR.qm rfl) ?_
   refine Dh.JB.slice k b.kps.length (b.kps.length - k) (kpsV (b.kps.drop k)) rfl trivial rfl tsl34 rfl rfl zM hk (by omega) hK' rfl (by rw [kpsV_drop, List.take_of_length_le (by omega)]) ?_
   intro A36 c36 hc36
   clear hc36
   refine Dh.JB.nil ?_
   refine Dh.JL.sl rfl (by repeat (first | exact Dh.es_here | apply Dh.es_there)) (fun b24 => ?_)
   refine Dh.JL.nil ?_
   refine Dh.JE.mk rfl (fun _ h => by cases h) (fun C4_5 => ?_)
   refine Jl.toRow 8 0 zS (by rfl) (by rfl) ?_
   refine Jl.append k (kpsV (b.kps.take k)) rfl rfl rfl tsl34 tze72 (by rfl) (by decide) tby72 (fun _ _ => zS) zM (by omega) rfl (by omega) (kps_one _) (by omega) (by decide) ?_
   intro A29 c29
   refine Jl.qn ?_
   refine Dh.Jq.segV zX ?_ zK
   refine Dh.JH.cons<|Dh.JB.nil ?_
   refine Dh.JL.sl rfl (by repeat (first | exact Dh.es_here | apply Dh.es_there)) (fun b31 => ?_)
   refine Dh.JL.nil ?_
   refine Dh.JE.mk rfl (fun _ h => by cases h) (fun C4_8 => ?_)
   refine Jl.seal zD ?_
   refine Jl.append (k + 1) (kpsV (b.kps.take k) ++ x.cs) rfl rfl rfl tsl34 tze72 (by rfl) (by decide) tby72 (fun _ _ => zS) zM rfl rfl rfl (by simp [Kp.cs, Value.oneCell']) (by omega) (by decide) ?_
   intro A32 c32
   refine Jl.qn ?_
   refine Dh.Jq.segV zX ?_ zK
   refine Dh.JH.cons<|Dh.JB.nil<|Dh.JL.nil ?_
   refine Dh.JE.mk rfl (fun _ h => by cases h) (fun C4_13 => ?_)
   refine Jl.append (insL b.kps k x).length (kpsV (insL b.kps k x)) rfl rfl rfl tsl34 tze72 (by rfl) (by decide) tby72 (fun _ _ => zS) zM (by omega) (by rw [insL, kpsV_app, kpsV_app]; simp [kpsV]) (by omega) (kps_one _) (by omega) (by decide) ?_
   intro A37 c37
   refine Jl.qn ?_
   refine Dh.Jq.segV zX ?_ zK
   refine Dh.JH.cons<|Dh.JB.pv rfl trivial (fun _ => PR.qf rfl tfl38_5)<|Dh.JB.nil<|Dh.JL.nil ?_
   refine Dh.JE.mk rfl (fun _ h => by cases h) (fun C4_15 => ?_)
   refine Jl.store1 rfl tsh34 rfl (by rfl) zS (by rfl) ?_
   refine Jl.qn ?_
   refine Dh.Jq.segN zX ?_ zK
   refine Dh.JH.nil ?_
   refine Dh.JB.nil<|Dh.JL.nil<|Jq.qt<|Jc.qs<|Jc.qr ?_
   refine Jl.pv (PR.loadW rfl tsh38 zH (by rfl)) ?_
   refine Jl.storeW rfl tsh38 rfl (by rfl) (by first | exact Br.cs_one _ _ | simp [Value.oneCell', Kp.cs, Br.cs]) zS (by rfl) ?_
   refine Jl.qn<|Jq.qt<|Jc.ret ?_
   rw [hins]
   exact Jq.fin (A37, c37) (.inl rfl) rfl (RetVs.cellA rfl zH tsh38 (by rfl) RetVs.nil) rfl zT zF
 try replace g11 := zW g11
 have hins : insAt b.kps x.id = k := insAt_at hk hq (fun h => by omega)
 refine Dh.JB.off rfl ⟨_, rfl, .inr rfl⟩<|Dh.JB.off rfl ⟨_, rfl, .inr rfl⟩<|Dh.JB.off rfl ⟨_, rfl, .inr rfl⟩<|Dh.JB.off rfl ⟨_, rfl, .inr rfl⟩<|Dh.JB.off rfl ⟨_, rfl, .inr rfl⟩<|Dh.JB.off rfl ⟨_, rfl, .inr rfl⟩<|Dh.JB.off rfl ⟨_, rfl, .inr rfl⟩<|Dh.JB.off rfl ⟨_, rfl, .inr rfl⟩<|Dh.JB.off rfl ⟨_, rfl, .inr rfl⟩ ?_
 refine Dh.JB.pv rfl trivial (fun _ => PR.pickF rfl rfl) ?_
 refine Dh.JB.nil<|Dh.JL.nil<|Jq.qt<|Jc.condF rfl ?_
 refine Jc.exit ?_
 refine Jq.thenX ?_
 refine Jq.thenX ?_
 refine Jq.blkX ?_
 refine Jq.qt<|Jc.qs ?_
 refine Jc.drawn [0, 0, 2, 0, 14, 31, 0, 64, 255, 0, 512, 0, 3584, 8191, 16383, 32767] ([], []) [⟨[(0, true), (1, false), (2, false), (3, false), (4, false), (6, false), (7, true), (9, false), (10, false), (11, false), (12, false)], [0], 5⟩, ⟨[], [7], 8⟩, ⟨[], [], 13⟩, ⟨[(14, false)], [], 15⟩] tmx (by kernel_rfl) ?_
 refine Dh.JH.cons ?_
 refine Dh.JB.buildSlice rfl trivial (by rfl) tsl34 tzr34_0 (by rfl) (by rfl) ?_
 refine Dh.JB.pv rfl trivial (fun _ => PR.qf rfl tfl38_5) ?_
 refine Dh.JB.rd [.blk _ _ _] rfl trivial zT (fun _ => PR.load1 rfl tsh34 Has.here (by rfl)) ?_
 refine Dh.JB.pv rfl trivial (fun _ => PR.qm rfl) ?_
 refine Dh.JB.slice 0 k k (kpsV (b.kps.take k)) rfl trivial rfl tsl34 rfl rfl zM (by omega) (by omega) hK' (by omega) (by rw [Nat.zero_mul, List.drop_zero, kpsV_take]) ?_
 intro A28 c28 hc28
 clear hc28
 refine Dh.JB.rd [.blk _ _ _] rfl trivial zT (fun _ => PR.loadW rfl tsh72 Has.here (by rfl)) ?_
 refine Dh.JB.buildSlice rfl trivial (by rfl) tsl34 tzr34_1 (by rfl) (by rfl) ?_
 refine Dh.JB.pv rfl trivial (fun _ => PR.qf rfl tfl38_5) ?_
 refine Dh.JB.rd [.blk _ _ _] rfl trivial zT (fun _ => PR.load1 rfl tsh34 Has.here (by rfl)) ?_
 refine Dh.JB.pv rfl trivial (fun _ => PR.qm rfl) ?_
 refine Dh.JB.slice k b.kps.length (b.kps.length - k) (kpsV (b.kps.drop k)) rfl trivial rfl tsl34 rfl rfl zM hk (by omega) hK' rfl (by rw [kpsV_drop, List.take_of_length_le (by omega)]) ?_
 intro A36 c36 hc36
 clear hc36
 refine Dh.JB.nil ?_
 refine Dh.JL.sl rfl (by repeat (first | exact Dh.es_here | apply Dh.es_there)) (fun b24 => ?_)
 refine Dh.JL.nil ?_
 refine Dh.JE.mk rfl (fun _ h => by cases h) (fun C4_5 => ?_)
 refine Jl.toRow 8 0 zS (by rfl) (by rfl) ?_
 refine Jl.append k (kpsV (b.kps.take k)) rfl rfl rfl tsl34 tze72 (by rfl) (by decide) tby72 (fun _ _ => zS) zM (by omega) rfl (by omega) (kps_one _) (by omega) (by decide) ?_
 intro A29 c29
 refine Jl.qn ?_
 refine Dh.Jq.segV zX ?_ zK
 refine Dh.JH.cons<|Dh.JB.nil ?_
 refine Dh.JL.sl rfl (by repeat (first | exact Dh.es_here | apply Dh.es_there)) (fun b31 => ?_)
 refine Dh.JL.nil ?_
 refine Dh.JE.mk rfl (fun _ h => by cases h) (fun C4_8 => ?_)
 refine Jl.seal zD ?_
 refine Jl.append (k + 1) (kpsV (b.kps.take k) ++ x.cs) rfl rfl rfl tsl34 tze72 (by rfl) (by decide) tby72 (fun _ _ => zS) zM rfl rfl rfl (by simp [Kp.cs, Value.oneCell']) (by omega) (by decide) ?_
 intro A32 c32
 refine Jl.qn ?_
 refine Dh.Jq.segV zX ?_ zK
 refine Dh.JH.cons<|Dh.JB.nil<|Dh.JL.nil ?_
 refine Dh.JE.mk rfl (fun _ h => by cases h) (fun C4_13 => ?_)
 refine Jl.append (insL b.kps k x).length (kpsV (insL b.kps k x)) rfl rfl rfl tsl34 tze72 (by rfl) (by decide) tby72 (fun _ _ => zS) zM (by omega) (by rw [insL, kpsV_app, kpsV_app]; simp [kpsV]) (by omega) (kps_one _) (by omega) (by decide) ?_
 intro A37 c37
 refine Jl.qn ?_
 refine Dh.Jq.segV zX ?_ zK
 refine Dh.JH.cons<|Dh.JB.pv rfl trivial (fun _ => PR.qf rfl tfl38_5)<|Dh.JB.nil<|Dh.JL.nil ?_
 refine Dh.JE.mk rfl (fun _ h => by cases h) (fun C4_15 => ?_)
 refine Jl.store1 rfl tsh34 rfl (by rfl) zS (by rfl) ?_
 refine Jl.qn ?_
 refine Dh.Jq.segN zX ?_ zK
 refine Dh.JH.nil ?_
 refine Dh.JB.nil<|Dh.JL.nil<|Jq.qt<|Jc.qs<|Jc.qr ?_
 refine Jl.pv (PR.loadW rfl tsh38 zH (by rfl)) ?_
 refine Jl.storeW rfl tsh38 rfl (by rfl) (by first | exact Br.cs_one _ _ | simp [Value.oneCell', Kp.cs, Br.cs]) zS (by rfl) ?_
 refine Jl.qn<|Jq.qt<|Jc.ret ?_
 rw [hins]
 exact Jq.fin (A37, c37) (.inl rfl) rfl (RetVs.cellA rfl zH tsh38 (by rfl) RetVs.nil) rfl zT zF
end Go.Proofs.YtakbgccddokbbaaGreatDoor
namespace Go.Proofs.YtakbgccddokbbaaGreatDoor
open Go.RowKit
attribute [local irreducible] Res.blk Res.row Fact.rd
theorem rmade_ct (b : Br) (z : BrA) (L : Option Addr) (cL : Nat) (t id now : Int) (hn : b.its.length ≤ 900000) (hm : b.kps.length ≤ 900000) : Ct Tryz.prog 41 [b.v z, .slice L 3 cL] [b.rM z, b.rI z, b.rK z] [.rd L (i64s [t, id, now])] (fun z' : BrA => (b.mk1 t id now).v z') (fun z' => [(b.mk1 t id now).rM z', (b.mk1 t id now).rI z', (b.mk1 t id now).rK z']) (fun _ => []) := by
  obtain ⟨⟨M, cM⟩, ⟨I, cI⟩, ⟨K, cK⟩⟩ := z
  have hl4 := itsV_len b.its
  cases ht : b.findT t with
  | none =>
    rw [mk1_none ht]
    refine Ct.of _ Tryz.func41 Tryz.ntmps41 rfl rfl (fun X W => ?_)
    refine Jc.qs<|Jc.qr ?_
    refine Jl.box rfl (by rfl) ?_
    intro b2
    refine Jl.alloc tze38 ?_
    intro b4
    refine Jl.qn<|Jq.qt<|Jc.qs ?_
    refine Jc.drawn [0, 0, 2, 6, 15, 31] ([(5, false)], []) [⟨[(0, false), (1, false), (2, false), (3, false)], [], 4⟩] tmx (by kernel_rfl) ?_
    refine Dh.JH.cons ?_
    refine Dh.JB.rd [.blk _ _ _] rfl trivial zT (fun _ => PR.loadW rfl tsh38 Has.here (by rfl)) ?_
    refine Dh.JB.pv rfl trivial (fun _ => PR.qm rfl) ?_
    refine Dh.JB.pv rfl trivial (fun _ => PR.idx1 0 rfl rfl tsl23 zM rfl rfl (by simp)) ?_
    refine Dh.JB.pv rfl trivial (fun _ => PR.loadR rfl tsh3 zM rfl) ?_
    refine Dh.JB.nil<|Dh.JL.nil ?_
    refine Dh.JE.mk rfl (fun _ h => by cases h) (fun C1_4 => ?_)
    refine Jl.calll (fs := []) (cs := []) (rtok_ct b ((M, cM), (I, cI), (K, cK)) t (by omega)) en62 rfl (by rfl) (by rfl) zT (ls := [b.rM ((M, cM), (I, cI), (K, cK)), b.rI ((M, cM), (I, cI), (K, cK)), b.rK ((M, cM), (I, cI), (K, cK))]) zT zL zF ?_
    rintro ⟨⟩
    refine Jl.as (.int .i64 (-1)) (by rw [ht]; rfl) ?_
    refine Jl.qn ?_
    refine Dh.Jq.segV zX ?_ zK
    refine Dh.JH.nil ?_
    refine Dh.JB.pv rfl trivial (fun _ => PR.qa rfl) ?_
    refine Dh.JB.nil<|Dh.JL.nil<|Jq.qt<|Jc.qs<|Jc.qs ?_
    refine Jc.drawn [0, 1, 3, 7, 15, 31, 63, 127, 255, 511, 511, 1535, 3583, 8191, 16383, 32767] ([(14, false), (15, false)], []) [⟨[(0, false), (1, false), (2, false), (3, false), (4, false), (5, false), (6, false), (7, false), (8, false), (9, false), (10, false), (11, false), (12, false)], [], 13⟩] tmx (by kernel_rfl) ?_
    refine Dh.JH.cons<|Dh.JB.pv rfl trivial (fun _ => PR.qm rfl) ?_
    refine Dh.JB.pv rfl trivial (fun _ => PR.lss true rfl rfl (by decide)) ?_
    refine Dh.JB.pv rfl trivial (fun _ => PR.qm rfl)<|Dh.JB.off rfl ⟨_, rfl, .inr rfl⟩<|Dh.JB.off rfl ⟨_, rfl, .inr rfl⟩<|Dh.JB.off rfl ⟨_, rfl, .inr rfl⟩<|Dh.JB.off rfl ⟨_, rfl, .inr rfl⟩ ?_
    refine Dh.JB.pv rfl trivial (fun _ => PR.pickT rfl rfl) ?_
    refine Dh.JB.pv rfl trivial (fun _ => PR.qm rfl)<|Dh.JB.off rfl ⟨_, rfl, .inr rfl⟩<|Dh.JB.off rfl ⟨_, rfl, .inr rfl⟩<|Dh.JB.off rfl ⟨_, rfl, .inr rfl⟩<|Dh.JB.off rfl ⟨_, rfl, .inr rfl⟩<|Dh.JB.nil<|Dh.JL.nil ?_
    refine Dh.JE.mk rfl (fun _ h => by cases h) (fun C2_13 => ?_)
    refine Jl.qo rfl rfl rfl<|Jl.qn ?_
    refine Dh.Jq.segV zX ?_ zK
    refine Dh.JH.nil ?_
    refine Dh.JB.off rfl ⟨_, rfl, .inr rfl⟩ ?_
    refine Dh.JB.pv rfl trivial (fun _ => PR.pickT rfl rfl) ?_
    refine Dh.JB.nil<|Dh.JL.nil<|Jq.qt<|Jc.condT rfl<|Jc.qs<|Jc.qr ?_
    refine Jl.pv (PR.loadW rfl tsh38 zH (by rfl)) ?_
    refine Jl.storeW rfl tsh38 rfl (by rfl) (by first | exact Br.cs_one _ _ | simp [Value.oneCell', Kp.cs, It1.cs, Br.cs]) zS (by rfl) ?_
    refine Jl.qn<|Jq.qt<|Jc.ret<|Jq.thenR ?_
    exact Jq.fin ((M, cM), (I, cI), (K, cK)) (.inl rfl) rfl (RetVs.cellA rfl zH tsh38 (by rfl) RetVs.nil) rfl zT zF
  | some k =>
    obtain ⟨hk, -⟩ := findT_some ht
    by_cases hid : id < 1
    · rw [mk1_no (.inl hid)]
      refine Ct.of _ Tryz.func41 Tryz.ntmps41 rfl rfl (fun X W => ?_)
      refine Jc.qs<|Jc.qr ?_
      refine Jl.box rfl (by rfl) ?_
      intro b2
      refine Jl.alloc tze38 ?_
      intro b4
      refine Jl.qn<|Jq.qt<|Jc.qs ?_
      refine Jc.drawn [0, 0, 2, 6, 15, 31] ([(5, false)], []) [⟨[(0, false), (1, false), (2, false), (3, false)], [], 4⟩] tmx (by kernel_rfl) ?_
      refine Dh.JH.cons ?_
      refine Dh.JB.rd [.blk _ _ _] rfl trivial zT (fun _ => PR.loadW rfl tsh38 Has.here (by rfl)) ?_
      refine Dh.JB.pv rfl trivial (fun _ => PR.qm rfl) ?_
      refine Dh.JB.pv rfl trivial (fun _ => PR.idx1 0 rfl rfl tsl23 zM rfl rfl (by simp)) ?_
      refine Dh.JB.pv rfl trivial (fun _ => PR.loadR rfl tsh3 zM rfl) ?_
      refine Dh.JB.nil<|Dh.JL.nil ?_
      refine Dh.JE.mk rfl (fun _ h => by cases h) (fun C1_4 => ?_)
      refine Jl.calll (fs := []) (cs := []) (rtok_ct b ((M, cM), (I, cI), (K, cK)) t (by omega)) en62 rfl (by rfl) (by rfl) zT (ls := [b.rM ((M, cM), (I, cI), (K, cK)), b.rI ((M, cM), (I, cI), (K, cK)), b.rK ((M, cM), (I, cI), (K, cK))]) zT zL zF ?_
      rintro ⟨⟩
      refine Jl.as (.int .i64 (k : Int)) (by rw [ht]; rfl) ?_
      refine Jl.qn ?_
      refine Dh.Jq.segV zX ?_ zK
      refine Dh.JH.nil ?_
      refine Dh.JB.pv rfl trivial (fun _ => PR.qa rfl) ?_
      refine Dh.JB.nil<|Dh.JL.nil<|Jq.qt<|Jc.qs<|Jc.qs ?_
      refine Jc.drawn [0, 1, 3, 7, 15, 31, 63, 127, 255, 511, 511, 1535, 3583, 8191, 16383, 32767] ([(14, false), (15, false)], []) [⟨[(0, false), (1, false), (2, false), (3, false), (4, false), (5, false), (6, false), (7, false), (8, false), (9, false), (10, false), (11, false), (12, false)], [], 13⟩] tmx (by kernel_rfl) ?_
      refine Dh.JH.cons<|Dh.JB.pv rfl trivial (fun _ => PR.qm rfl) ?_
      refine Dh.JB.pv rfl trivial (fun _ => PR.lss false rfl rfl (decide_eq_false (by omega))) ?_
      refine Dh.JB.pv rfl trivial (fun _ => PR.qm rfl) ?_
      refine Dh.JB.pv rfl ⟨_, rfl, rfl⟩ (fun _ => PR.qm rfl) ?_
      refine Dh.JB.pv rfl ⟨_, rfl, rfl⟩ (fun _ => PR.idx1 1 rfl rfl tsl23 zM rfl rfl (by simp)) ?_
      refine Dh.JB.pv rfl ⟨_, rfl, rfl⟩ (fun _ => PR.loadR rfl tsh3 zM rfl) ?_
      refine Dh.JB.pv rfl ⟨_, rfl, rfl⟩ (fun _ => PR.lss true rfl rfl (decide_eq_true hid)) ?_
      refine Dh.JB.pv rfl trivial (fun _ => PR.pickF rfl rfl) ?_
      refine Dh.JB.pv rfl trivial (fun _ => PR.qm rfl)<|Dh.JB.off rfl ⟨_, rfl, .inr rfl⟩<|Dh.JB.off rfl ⟨_, rfl, .inr rfl⟩<|Dh.JB.off rfl ⟨_, rfl, .inr rfl⟩<|Dh.JB.off rfl ⟨_, rfl, .inr rfl⟩<|Dh.JB.nil<|Dh.JL.nil ?_
      refine Dh.JE.mk rfl (fun _ h => by cases h) (fun C2_13 => ?_)
      refine Jl.qo rfl rfl rfl<|Jl.qn ?_
      refine Dh.Jq.segV zX ?_ zK
      refine Dh.JH.nil ?_
      refine Dh.JB.off rfl ⟨_, rfl, .inr rfl⟩ ?_
      refine Dh.JB.pv rfl trivial (fun _ => PR.pickT rfl rfl) ?_
      refine Dh.JB.nil<|Dh.JL.nil<|Jq.qt<|Jc.condT rfl<|Jc.qs<|Jc.qr ?_
      refine Jl.pv (PR.loadW rfl tsh38 zH (by rfl)) ?_
      refine Jl.storeW rfl tsh38 rfl (by rfl) (by first | exact Br.cs_one _ _ | simp [Value.oneCell', Kp.cs, It1.cs, Br.cs]) zS (by rfl) ?_
      refine Jl.qn<|Jq.qt<|Jc.ret<|Jq.thenR ?_
      exact Jq.fin ((M, cM), (I, cI), (K, cK)) (.inl rfl) rfl (RetVs.cellA rfl zH tsh38 (by rfl) RetVs.nil) rfl zT zF
    · cases hf : b.findK id with
      | some j =>
        rw [mk1_no (.inr (by rw [hf]; rfl))]
        refine Ct.of _ Tryz.func41 Tryz.ntmps41 rfl rfl (fun X W => ?_)
        refine Jc.qs<|Jc.qr ?_
        refine Jl.box rfl (by rfl) ?_
        intro b2
        refine Jl.alloc tze38 ?_
        intro b4
        refine Jl.qn<|Jq.qt<|Jc.qs ?_
        refine Jc.drawn [0, 0, 2, 6, 15, 31] ([(5, false)], []) [⟨[(0, false), (1, false), (2, false), (3, false)], [], 4⟩] tmx (by kernel_rfl) ?_
        refine Dh.JH.cons ?_
        refine Dh.JB.rd [.blk _ _ _] rfl trivial zT (fun _ => PR.loadW rfl tsh38 Has.here (by rfl)) ?_
        refine Dh.JB.pv rfl trivial (fun _ => PR.qm rfl) ?_
        refine Dh.JB.pv rfl trivial (fun _ => PR.idx1 0 rfl rfl tsl23 zM rfl rfl (by simp)) ?_
        refine Dh.JB.pv rfl trivial (fun _ => PR.loadR rfl tsh3 zM rfl) ?_
        refine Dh.JB.nil<|Dh.JL.nil ?_
        refine Dh.JE.mk rfl (fun _ h => by cases h) (fun C1_4 => ?_)
        refine Jl.calll (fs := []) (cs := []) (rtok_ct b ((M, cM), (I, cI), (K, cK)) t (by omega)) en62 rfl (by rfl) (by rfl) zT (ls := [b.rM ((M, cM), (I, cI), (K, cK)), b.rI ((M, cM), (I, cI), (K, cK)), b.rK ((M, cM), (I, cI), (K, cK))]) zT zL zF ?_
        rintro ⟨⟩
        refine Jl.as (.int .i64 (k : Int)) (by rw [ht]; rfl) ?_
        refine Jl.qn ?_
        refine Dh.Jq.segV zX ?_ zK
        refine Dh.JH.nil ?_
        refine Dh.JB.pv rfl trivial (fun _ => PR.qa rfl) ?_
        refine Dh.JB.nil<|Dh.JL.nil<|Jq.qt<|Jc.qs<|Jc.qs ?_
        refine Jc.drawn [0, 1, 3, 7, 15, 31, 63, 127, 255, 511, 511, 1535, 3583, 8191, 16383, 32767] ([(14, false), (15, false)], []) [⟨[(0, false), (1, false), (2, false), (3, false), (4, false), (5, false), (6, false), (7, false), (8, false), (9, false), (10, false), (11, false), (12, false)], [], 13⟩] tmx (by kernel_rfl) ?_
        refine Dh.JH.cons<|Dh.JB.pv rfl trivial (fun _ => PR.qm rfl) ?_
        refine Dh.JB.pv rfl trivial (fun _ => PR.lss false rfl rfl (decide_eq_false (by omega))) ?_
        refine Dh.JB.pv rfl trivial (fun _ => PR.qm rfl) ?_
        refine Dh.JB.pv rfl ⟨_, rfl, rfl⟩ (fun _ => PR.qm rfl) ?_
        refine Dh.JB.pv rfl ⟨_, rfl, rfl⟩ (fun _ => PR.idx1 1 rfl rfl tsl23 zM rfl rfl (by simp)) ?_
        refine Dh.JB.pv rfl ⟨_, rfl, rfl⟩ (fun _ => PR.loadR rfl tsh3 zM rfl) ?_
        refine Dh.JB.pv rfl ⟨_, rfl, rfl⟩ (fun _ => PR.lss false rfl rfl (decide_eq_false hid)) ?_
        refine Dh.JB.pv rfl trivial (fun _ => PR.pickF rfl rfl) ?_
        refine Dh.JB.pv rfl trivial (fun _ => PR.qm rfl) ?_
        refine Dh.JB.rd [.blk _ _ _] rfl ⟨_, rfl, rfl⟩ zT (fun _ => PR.loadW rfl tsh38 Has.here (by rfl)) ?_
        refine Dh.JB.pv rfl ⟨_, rfl, rfl⟩ (fun _ => PR.qm rfl) ?_
        refine Dh.JB.pv rfl ⟨_, rfl, rfl⟩ (fun _ => PR.idx1 1 rfl rfl tsl23 zM rfl rfl (by simp)) ?_
        refine Dh.JB.pv rfl ⟨_, rfl, rfl⟩ (fun _ => PR.loadR rfl tsh3 zM rfl) ?_
        refine Dh.JB.nil<|Dh.JL.nil ?_
        refine Dh.JE.mk rfl (fun _ h => by cases h) (fun C2_13 => ?_)
        refine Jl.on rfl rfl ?_
        refine Jl.calll (fs := []) (cs := []) (rfind_ct b ((M, cM), (I, cI), (K, cK)) id (by omega)) en63 rfl (by rfl) (by rfl) zT (ls := [b.rM ((M, cM), (I, cI), (K, cK)), b.rI ((M, cM), (I, cI), (K, cK)), b.rK ((M, cM), (I, cI), (K, cK))]) zT zL zF ?_
        rintro ⟨⟩
        refine Jl.as (.int .i64 (j : Int)) (by rw [hf]; rfl) ?_
        refine Jl.qn ?_
        refine Dh.Jq.segV zX ?_ zK
        refine Dh.JH.nil ?_
        refine Dh.JB.pv rfl ⟨_, rfl, rfl⟩ (fun _ => PR.geq true rfl rfl (decide_eq_true (by omega))) ?_
        refine Dh.JB.pv rfl trivial (fun _ => PR.pickF rfl rfl) ?_
        refine Dh.JB.nil<|Dh.JL.nil<|Jq.qt<|Jc.condT rfl<|Jc.qs<|Jc.qr ?_
        refine Jl.pv (PR.loadW rfl tsh38 zH (by rfl)) ?_
        refine Jl.storeW rfl tsh38 rfl (by rfl) (by first | exact Br.cs_one _ _ | simp [Value.oneCell', Kp.cs, It1.cs, Br.cs]) zS (by rfl) ?_
        refine Jl.qn<|Jq.qt<|Jc.ret<|Jq.thenR ?_
        exact Jq.fin ((M, cM), (I, cI), (K, cK)) (.inl rfl) rfl (RetVs.cellA rfl zH tsh38 (by rfl) RetVs.nil) rfl zT zF
      | none =>
        rw [mk1_yes hk ht hid hf]
        have hle := eraL_len hk
        have hlt4 : (itsV (b.its.take k)).length = k * 4 := by rw [itsV_len, List.length_take]; omega
        have hld4 : (itsV (b.its.drop (k + 1))).length = (b.its.length - (k + 1)) * 4 := by rw [itsV_len, List.length_drop]
        refine Ct.of _ Tryz.func41 Tryz.ntmps41 rfl rfl (fun X W => ?_)
        refine Jc.rowCap (A := I) (m := b.its.length) (cap := cI) (Del.there Del.here) (fun hI' => ?_)
        refine Jc.rowCap (A := K) (m := b.kps.length) (cap := cK) (Del.there (Del.there Del.here)) (fun hK' => ?_)
        refine Jc.qs<|Jc.qr ?_
        refine Jl.box rfl (by rfl) ?_
        intro b2
        refine Jl.alloc tze38 ?_
        intro b4
        refine Jl.qn<|Jq.qt<|Jc.qs ?_
        refine Jc.drawn [0, 0, 2, 6, 15, 31] ([(5, false)], []) [⟨[(0, false), (1, false), (2, false), (3, false)], [], 4⟩] tmx (by kernel_rfl) ?_
        refine Dh.JH.cons ?_
        refine Dh.JB.rd [.blk _ _ _] rfl trivial zT (fun _ => PR.loadW rfl tsh38 Has.here (by rfl)) ?_
        refine Dh.JB.pv rfl trivial (fun _ => PR.qm rfl) ?_
        refine Dh.JB.pv rfl trivial (fun _ => PR.idx1 0 rfl rfl tsl23 zM rfl rfl (by simp)) ?_
        refine Dh.JB.pv rfl trivial (fun _ => PR.loadR rfl tsh3 zM rfl) ?_
        refine Dh.JB.nil<|Dh.JL.nil ?_
        refine Dh.JE.mk rfl (fun _ h => by cases h) (fun C1_4 => ?_)
        refine Jl.calll (fs := []) (cs := []) (rtok_ct b ((M, cM), (I, cI), (K, cK)) t (by omega)) en62 rfl (by rfl) (by rfl) zT (ls := [b.rM ((M, cM), (I, cI), (K, cK)), b.rI ((M, cM), (I, cI), (K, cK)), b.rK ((M, cM), (I, cI), (K, cK))]) zT zL zF ?_
        rintro ⟨⟩
        refine Jl.as (.int .i64 (k : Int)) (by rw [ht]; rfl) ?_
        refine Jl.qn ?_
        refine Dh.Jq.segV zX ?_ zK
        refine Dh.JH.nil ?_
        refine Dh.JB.pv rfl trivial (fun _ => PR.qa rfl) ?_
        refine Dh.JB.nil<|Dh.JL.nil<|Jq.qt<|Jc.qs<|Jc.qs ?_
        refine Jc.drawn [0, 1, 3, 7, 15, 31, 63, 127, 255, 511, 511, 1535, 3583, 8191, 16383, 32767] ([(14, false), (15, false)], []) [⟨[(0, false), (1, false), (2, false), (3, false), (4, false), (5, false), (6, false), (7, false), (8, false), (9, false), (10, false), (11, false), (12, false)], [], 13⟩] tmx (by kernel_rfl) ?_
        refine Dh.JH.cons<|Dh.JB.pv rfl trivial (fun _ => PR.qm rfl) ?_
        refine Dh.JB.pv rfl trivial (fun _ => PR.lss false rfl rfl (decide_eq_false (by omega))) ?_
        refine Dh.JB.pv rfl trivial (fun _ => PR.qm rfl) ?_
        refine Dh.JB.pv rfl ⟨_, rfl, rfl⟩ (fun _ => PR.qm rfl) ?_
        refine Dh.JB.pv rfl ⟨_, rfl, rfl⟩ (fun _ => PR.idx1 1 rfl rfl tsl23 zM rfl rfl (by simp)) ?_
        refine Dh.JB.pv rfl ⟨_, rfl, rfl⟩ (fun _ => PR.loadR rfl tsh3 zM rfl) ?_
        refine Dh.JB.pv rfl ⟨_, rfl, rfl⟩ (fun _ => PR.lss false rfl rfl (decide_eq_false hid)) ?_
        refine Dh.JB.pv rfl trivial (fun _ => PR.pickF rfl rfl) ?_
        refine Dh.JB.pv rfl trivial (fun _ => PR.qm rfl) ?_
        refine Dh.JB.rd [.blk _ _ _] rfl ⟨_, rfl, rfl⟩ zT (fun _ => PR.loadW rfl tsh38 Has.here (by rfl)) ?_
        refine Dh.JB.pv rfl ⟨_, rfl, rfl⟩ (fun _ => PR.qm rfl) ?_
        refine Dh.JB.pv rfl ⟨_, rfl, rfl⟩ (fun _ => PR.idx1 1 rfl rfl tsl23 zM rfl rfl (by simp)) ?_
        refine Dh.JB.pv rfl ⟨_, rfl, rfl⟩ (fun _ => PR.loadR rfl tsh3 zM rfl) ?_
        refine Dh.JB.nil<|Dh.JL.nil ?_
        refine Dh.JE.mk rfl (fun _ h => by cases h) (fun C2_13 => ?_)
        refine Jl.on rfl rfl ?_
        refine Jl.calll (fs := []) (cs := []) (rfind_ct b ((M, cM), (I, cI), (K, cK)) id (by omega)) en63 rfl (by rfl) (by rfl) zT (ls := [b.rM ((M, cM), (I, cI), (K, cK)), b.rI ((M, cM), (I, cI), (K, cK)), b.rK ((M, cM), (I, cI), (K, cK))]) zT zL zF ?_
        rintro ⟨⟩
        refine Jl.as (.int .i64 (-1)) (by rw [hf]; rfl) ?_
        refine Jl.qn ?_
        refine Dh.Jq.segV zX ?_ zK
        refine Dh.JH.nil ?_
        refine Dh.JB.pv rfl ⟨_, rfl, rfl⟩ (fun _ => PR.geq false rfl rfl (by decide)) ?_
        refine Dh.JB.pv rfl trivial (fun _ => PR.pickF rfl rfl) ?_
        refine Dh.JB.nil<|Dh.JL.nil<|Jq.qt<|Jc.condF rfl<|Jc.skip<|Jq.qt<|Jc.qs<|Jc.qr<|Jl.pv (PR.qf rfl tfl38_4) ?_
        refine Jl.pv (PR.load1 rfl tsh33 zH (by rfl)) ?_
        refine Jl.pv (PR.qm rfl) ?_
        refine Jl.pv (PR.idxO k rfl rfl tsl33 zD (by decide) rfl hk) ?_
        refine Jl.pv (PR.loadOA rfl tsh70 zD (by decide) (its_at hk)) ?_
        refine Jl.alloc tze70 ?_
        intro b6
        refine Jl.storeW rfl tsh70 rfl (by rfl) (by first | exact Br.cs_one _ _ | simp [Value.oneCell', Kp.cs, It1.cs, Br.cs]) zS (by rfl) ?_
        refine Jl.sealR (A := I) (m := b.its.length) (cap := cI) (xs := itsV b.its) zD ?_
        refine Jl.qn<|Jq.qt<|Jc.qs ?_
        refine Jc.drawn [0, 0, 2, 0, 14, 31, 0, 64, 0, 256, 960, 2047, 4095, 8191] ([], []) [⟨[(0, true), (1, false), (2, false), (3, false), (4, false), (6, false), (7, false), (8, false), (9, false), (10, false)], [0], 5⟩, ⟨[], [], 11⟩, ⟨[(12, false)], [], 13⟩] tmx (by kernel_rfl) ?_
        refine Dh.JH.cons ?_
        refine Dh.JB.buildSlice rfl trivial (by rfl) tsl33 tzr33_0 (by rfl) (by rfl) ?_
        refine Dh.JB.pv rfl trivial (fun _ => PR.qf rfl tfl38_4) ?_
        refine Dh.JB.rd [.blk _ _ _] rfl trivial zT (fun _ => PR.load1 rfl tsh33 Has.here (by rfl)) ?_
        refine Dh.JB.pv rfl trivial (fun _ => PR.qm rfl) ?_
        refine Dh.JB.slice 0 k k (itsV (b.its.take k)) rfl trivial rfl tsl33 rfl rfl zM (by omega) (by omega) hI' (by omega) (by rw [Nat.zero_mul, List.drop_zero, itsV_take]) ?_
        intro A39 c39 hc39
        clear hc39
        refine Dh.JB.pv rfl trivial (fun _ => PR.qf rfl tfl38_4) ?_
        refine Dh.JB.rd [.blk _ _ _] rfl trivial zT (fun _ => PR.load1 rfl tsh33 Has.here (by rfl)) ?_
        refine Dh.JB.pv rfl trivial (fun _ => PR.qm rfl) ?_
        refine Dh.JB.pv rfl trivial (fun _ => PR.add ((k + 1 : Nat) : Int) rfl rfl (w64 (a := ((k + 1 : Nat) : Int)) (by omega) (by omega))) ?_
        refine Dh.JB.slice (k + 1) b.its.length (b.its.length - (k + 1)) (itsV (b.its.drop (k + 1))) rfl trivial rfl tsl33 rfl rfl zM (by omega) (by omega) hI' rfl (by rw [itsV_drop, List.take_of_length_le (by omega)]) ?_
        intro A45 c45 hc45
        clear hc45
        refine Dh.JB.nil ?_
        refine Dh.JL.sl rfl (by repeat (first | exact Dh.es_here | apply Dh.es_there)) (fun b35 => ?_)
        refine Dh.JL.nil ?_
        refine Dh.JE.mk rfl (fun _ h => by cases h) (fun C5_5 => ?_)
        refine Jl.toRow 4 0 zS (by rfl) (by rfl) ?_
        refine Jl.append k (itsV (b.its.take k)) rfl rfl rfl tsl33 tze70 (by rfl) (by decide) tby70 (fun _ _ => zS) zM (by omega) rfl (by omega) (its_one _) (by omega) (by decide) ?_
        intro A40 c40
        refine Jl.qn ?_
        refine Dh.Jq.segV zX ?_ zK
        refine Dh.JH.cons<|Dh.JB.nil<|Dh.JL.nil ?_
        refine Dh.JE.mk rfl (fun _ h => by cases h) (fun C5_11 => ?_)
        refine Jl.append (eraL b.its k).length (itsV (eraL b.its k)) rfl rfl rfl tsl33 tze70 (by rfl) (by decide) tby70 (fun _ _ => zS) zM (by omega) (by rw [eraL, itsV_app]) (by omega) (its_one _) (by omega) (by decide) ?_
        intro A46 c46
        refine Jl.qn ?_
        refine Dh.Jq.segV zX ?_ zK
        refine Dh.JH.cons<|Dh.JB.pv rfl trivial (fun _ => PR.qf rfl tfl38_4)<|Dh.JB.nil<|Dh.JL.nil ?_
        refine Dh.JE.mk rfl (fun _ h => by cases h) (fun C5_13 => ?_)
        refine Jl.store1 rfl tsh33 rfl (by rfl) zS (by rfl) ?_
        refine Jl.qn ?_
        refine Dh.Jq.segN zX ?_ zK
        refine Dh.JH.nil ?_
        refine Dh.JB.nil<|Dh.JL.nil<|Jq.qt<|Jc.qs ?_
        refine Jc.drawn [0, 1, 3, 0, 8, 0, 32, 0, 128, 0, 512, 1536, 4095, 0, 16383] ([], []) [⟨[(0, false), (1, false), (2, false), (3, false), (4, false), (5, false), (6, false), (7, false), (8, false), (9, false), (10, false), (11, false), (12, false), (13, true)], [13], 14⟩] tmx (by kernel_rfl) ?_
        refine Dh.JH.cons<|Dh.JB.pv rfl trivial (fun _ => PR.qm rfl) ?_
        refine Dh.JB.pv rfl trivial (fun _ => PR.idx1 1 rfl rfl tsl23 zM rfl rfl (by decide)) ?_
        refine Dh.JB.pv rfl trivial (fun _ => PR.loadR rfl tsh3 zM rfl) ?_
        refine Dh.JB.pv rfl trivial (fun _ => PR.qf rfl tfl70_0) ?_
        refine Dh.JB.rd [.blk _ _ _] rfl trivial zT (fun _ => PR.load1 rfl tsh3 Has.here (by rfl)) ?_
        refine Dh.JB.pv rfl trivial (fun _ => PR.qf rfl tfl70_1) ?_
        refine Dh.JB.rd [.blk _ _ _] rfl trivial zT (fun _ => PR.load1 rfl tsh3 Has.here (by rfl)) ?_
        refine Dh.JB.pv rfl trivial (fun _ => PR.qf rfl tfl70_2) ?_
        refine Dh.JB.rd [.blk _ _ _] rfl trivial zT (fun _ => PR.load1 rfl tsh3 Has.here (by rfl)) ?_
        refine Dh.JB.pv rfl trivial (fun _ => PR.qm rfl) ?_
        refine Dh.JB.pv rfl trivial (fun _ => PR.idx1 2 rfl rfl tsl23 zM rfl rfl (by decide)) ?_
        refine Dh.JB.pv rfl trivial (fun _ => PR.loadR rfl tsh3 zM rfl) ?_
        refine Dh.JB.pv rfl trivial (fun _ => PR.build (by rfl) tze72 tpl72_0_1_2_3_4_5 (by rfl)) ?_
        refine Dh.JB.alloc rfl trivial tze72 ?_
        refine Dh.JB.nil ?_
        refine Dh.JL.ptr rfl (by repeat (first | exact Dh.es_here | apply Dh.es_there)) (fun b7 => ?_)
        refine Dh.JL.nil ?_
        refine Dh.JE.mk rfl (fun _ h => by cases h) (fun C6_14 => ?_)
        refine Jl.storeW rfl tsh72 rfl (by rfl) (by first | exact Br.cs_one _ _ | simp [Value.oneCell', Kp.cs, It1.cs, Br.cs]) zS (by rfl) ?_
        refine Jl.qn ?_
        refine Dh.Jq.segN zX ?_ zK
        refine Dh.JH.nil ?_
        refine Dh.JB.nil<|Dh.JL.nil<|Jq.qt<|Jc.qs<|Jc.qs<|Jc.qr<|Jl.pv (PR.qf rfl tfl70_3) ?_
        refine Jl.pv (PR.load1 rfl tsh4 zH (by rfl)) ?_
        refine Jl.qn<|Jq.qt ?_
        refine Jc.cond rfl (fun h1 => ?_) (fun h1 => ?_)
        · try replace h1 := zV h1
          refine Jc.qr<|Jl.pv (PR.qf rfl tfl72_4) ?_
          refine Jl.store1 rfl tsh5 rfl (by rfl) zS (by rfl) ?_
          refine Jl.qn<|Jq.qt<|Jc.qs<|Jc.qs<|Jc.qr<|Jl.pv (PR.qf rfl tfl38_6)<|Jl.pv (PR.qf rfl tfl36_0) ?_
          refine Jl.pv (PR.load1 rfl tsh5 zH (by rfl)) ?_
          refine Jl.pv (PR.eql _ rfl rfl rfl) ?_
          refine Jl.qn<|Jq.qt ?_
          refine Jc.cond rfl (fun h2 => ?_) (fun h2 => ?_)
          · try replace h2 := zV h2
            refine Jc.qr<|Jl.pv (PR.qf rfl tfl38_6)<|Jl.pv (PR.qf rfl tfl36_6) ?_
            refine Jl.store1 rfl tsh3 rfl (by rfl) zS (by rfl) ?_
            refine Jl.qn<|Jq.qt<|Jc.qs<|Jc.qr ?_
            refine Jl.pv (PR.loadW rfl tsh38 zH (by rfl)) ?_
            refine Jl.pv (PR.loadW rfl tsh72 zH (by rfl)) ?_
            refine Jl.calll (fs := []) (cs := []) (rkeep_ct { b with its := eraL b.its k, rf := { b.rf with fa := 0 } } ((M, cM), (A46, c46), (K, cK)) ⟨id, b.its[k].tok, b.its[k].ver, b.its[k].zon, 9, now, false, false⟩ (by show b.kps.length ≤ _; omega) hK') en64 rfl (by rfl) (by rfl) zT (ls := [({ b with its := eraL b.its k, rf := { b.rf with fa := 0 } } : Br).rM ((M, cM), (A46, c46), (K, cK)), ({ b with its := eraL b.its k, rf := { b.rf with fa := 0 } } : Br).rI ((M, cM), (A46, c46), (K, cK)), ({ b with its := eraL b.its k, rf := { b.rf with fa := 0 } } : Br).rK ((M, cM), (A46, c46), (K, cK))]) zT zL zF ?_
            rintro ⟨A72, c72⟩
            refine Jl.storeW rfl tsh38 rfl (by rfl) (by first | exact Br.cs_one _ _ | simp [Value.oneCell', Kp.cs, It1.cs, Br.cs]) zS (by rfl) ?_
            refine Jl.qn<|Jq.qt<|Jc.ret ?_
            rw [show b.made k (insAt b.kps id) b.its[k] id now = { b with its := eraL b.its k, kps := insL b.kps (insAt b.kps id) ⟨id, b.its[k].tok, b.its[k].ver, b.its[k].zon, 9, now, false, false⟩, rf := { b.rf with fa := 0 } } by rw [made_act (b := b) h2, madeK, if_pos h1]]
            exact Jq.fin ((M, cM), (A46, c46), (A72, c72)) (.inl rfl) rfl (RetVs.cellA rfl zH tsh38 (by rfl) RetVs.nil) rfl zT zF
          try replace h2 := zW h2
          refine Jc.skip<|Jq.qt<|Jc.qs<|Jc.qr ?_
          refine Jl.pv (PR.loadW rfl tsh38 zH (by rfl)) ?_
          refine Jl.pv (PR.loadW rfl tsh72 zH (by rfl)) ?_
          refine Jl.calll (fs := []) (cs := []) (rkeep_ct { b with its := eraL b.its k } ((M, cM), (A46, c46), (K, cK)) ⟨id, b.its[k].tok, b.its[k].ver, b.its[k].zon, 9, now, false, false⟩ (by show b.kps.length ≤ _; omega) hK') en64 rfl (by rfl) (by rfl) zT (ls := [({ b with its := eraL b.its k } : Br).rM ((M, cM), (A46, c46), (K, cK)), ({ b with its := eraL b.its k } : Br).rI ((M, cM), (A46, c46), (K, cK)), ({ b with its := eraL b.its k } : Br).rK ((M, cM), (A46, c46), (K, cK))]) zT zL zF ?_
          rintro ⟨A72, c72⟩
          refine Jl.storeW rfl tsh38 rfl (by rfl) (by first | exact Br.cs_one _ _ | simp [Value.oneCell', Kp.cs, It1.cs, Br.cs]) zS (by rfl) ?_
          refine Jl.qn<|Jq.qt<|Jc.ret ?_
          rw [show b.made k (insAt b.kps id) b.its[k] id now = { b with its := eraL b.its k, kps := insL b.kps (insAt b.kps id) ⟨id, b.its[k].tok, b.its[k].ver, b.its[k].zon, 9, now, false, false⟩ } by rw [made_na (b := b) h2, madeK, if_pos h1]]
          exact Jq.fin ((M, cM), (A46, c46), (A72, c72)) (.inl rfl) rfl (RetVs.cellA rfl zH tsh38 (by rfl) RetVs.nil) rfl zT zF
        try replace h1 := zW h1
        refine Jc.skip<|Jq.qt<|Jc.qs<|Jc.qs<|Jc.qr<|Jl.pv (PR.qf rfl tfl38_6)<|Jl.pv (PR.qf rfl tfl36_0) ?_
        refine Jl.pv (PR.load1 rfl tsh5 zH (by rfl)) ?_
        refine Jl.pv (PR.eql _ rfl rfl rfl) ?_
        refine Jl.qn<|Jq.qt ?_
        refine Jc.cond rfl (fun h3 => ?_) (fun h3 => ?_)
        · try replace h3 := zV h3
          refine Jc.qr<|Jl.pv (PR.qf rfl tfl38_6)<|Jl.pv (PR.qf rfl tfl36_6) ?_
          refine Jl.store1 rfl tsh3 rfl (by rfl) zS (by rfl) ?_
          refine Jl.qn<|Jq.qt<|Jc.qs<|Jc.qr ?_
          refine Jl.pv (PR.loadW rfl tsh38 zH (by rfl)) ?_
          refine Jl.pv (PR.loadW rfl tsh72 zH (by rfl)) ?_
          refine Jl.calll (fs := []) (cs := []) (rkeep_ct { b with its := eraL b.its k, rf := { b.rf with fa := 0 } } ((M, cM), (A46, c46), (K, cK)) ⟨id, b.its[k].tok, b.its[k].ver, b.its[k].zon, 1, now, false, false⟩ (by show b.kps.length ≤ _; omega) hK') en64 rfl (by rfl) (by rfl) zT (ls := [({ b with its := eraL b.its k, rf := { b.rf with fa := 0 } } : Br).rM ((M, cM), (A46, c46), (K, cK)), ({ b with its := eraL b.its k, rf := { b.rf with fa := 0 } } : Br).rI ((M, cM), (A46, c46), (K, cK)), ({ b with its := eraL b.its k, rf := { b.rf with fa := 0 } } : Br).rK ((M, cM), (A46, c46), (K, cK))]) zT zL zF ?_
          rintro ⟨A72, c72⟩
          refine Jl.storeW rfl tsh38 rfl (by rfl) (by first | exact Br.cs_one _ _ | simp [Value.oneCell', Kp.cs, It1.cs, Br.cs]) zS (by rfl) ?_
          refine Jl.qn<|Jq.qt<|Jc.ret ?_
          rw [show b.made k (insAt b.kps id) b.its[k] id now = { b with its := eraL b.its k, kps := insL b.kps (insAt b.kps id) ⟨id, b.its[k].tok, b.its[k].ver, b.its[k].zon, 1, now, false, false⟩, rf := { b.rf with fa := 0 } } by rw [made_act (b := b) h3, madeK, if_neg (by simp [h1])]]
          exact Jq.fin ((M, cM), (A46, c46), (A72, c72)) (.inl rfl) rfl (RetVs.cellA rfl zH tsh38 (by rfl) RetVs.nil) rfl zT zF
        try replace h3 := zW h3
        refine Jc.skip<|Jq.qt<|Jc.qs<|Jc.qr ?_
        refine Jl.pv (PR.loadW rfl tsh38 zH (by rfl)) ?_
        refine Jl.pv (PR.loadW rfl tsh72 zH (by rfl)) ?_
        refine Jl.calll (fs := []) (cs := []) (rkeep_ct { b with its := eraL b.its k } ((M, cM), (A46, c46), (K, cK)) ⟨id, b.its[k].tok, b.its[k].ver, b.its[k].zon, 1, now, false, false⟩ (by show b.kps.length ≤ _; omega) hK') en64 rfl (by rfl) (by rfl) zT (ls := [({ b with its := eraL b.its k } : Br).rM ((M, cM), (A46, c46), (K, cK)), ({ b with its := eraL b.its k } : Br).rI ((M, cM), (A46, c46), (K, cK)), ({ b with its := eraL b.its k } : Br).rK ((M, cM), (A46, c46), (K, cK))]) zT zL zF ?_
        rintro ⟨A72, c72⟩
        refine Jl.storeW rfl tsh38 rfl (by rfl) (by first | exact Br.cs_one _ _ | simp [Value.oneCell', Kp.cs, It1.cs, Br.cs]) zS (by rfl) ?_
        refine Jl.qn<|Jq.qt<|Jc.ret ?_
        rw [show b.made k (insAt b.kps id) b.its[k] id now = { b with its := eraL b.its k, kps := insL b.kps (insAt b.kps id) ⟨id, b.its[k].tok, b.its[k].ver, b.its[k].zon, 1, now, false, false⟩ } by rw [made_na (b := b) h3, madeK, if_neg (by simp [h1])]]
        exact Jq.fin ((M, cM), (A46, c46), (A72, c72)) (.inl rfl) rfl (RetVs.cellA rfl zH tsh38 (by rfl) RetVs.nil) rfl zT zF
end Go.Proofs.YtakbgccddokbbaaGreatDoor
namespace Go.Proofs.YtakbgccddokbbaaGreatDoor
open Go.RowKit
attribute [local irreducible] Res.blk Res.row Fact.rd
theorem rtake_ct (b : Br) (z : BrA) (k : UInt8) (hk : k.toNat = 8) (L : Option Addr) (cL : Nat) (id t v zo now : Int) (hm : b.kps.length ≤ 900000) : Ct Tryz.prog 42 [b.v z, .int .u8 k.toNat, .slice L 5 cL] [b.rM z, b.rI z, b.rK z] [.rd L (i64s [id, t, v, zo, now])] (fun z' : BrA => (b.take1 id t v zo now).v z') (fun z' => [(b.take1 id t v zo now).rM z', (b.take1 id t v zo now).rI z', (b.take1 id t v zo now).rK z']) (fun _ => []) := by
  obtain ⟨⟨M, cM⟩, ⟨I, cI⟩, ⟨K, cK⟩⟩ := z
  have hl8 := kpsV_len b.kps
  by_cases hid : 1 ≤ id
  · cases hf : b.findK id with
    | none =>
      rw [take1_yes hid hf]
      refine Ct.of _ Tryz.func42 Tryz.ntmps42 rfl rfl (fun X W => ?_)
      refine Jc.rowCap (A := K) (m := b.kps.length) (cap := cK) (Del.there (Del.there Del.here)) (fun hK' => ?_)
      refine Jc.qs<|Jc.qr ?_
      refine Jl.box rfl (by rfl) ?_
      intro b3
      refine Jl.alloc tze38 ?_
      intro b6
      refine Jl.qn<|Jq.qt<|Jc.qs ?_
      refine Jc.drawn [0, 0, 2, 6, 15, 31] ([(5, false)], []) [⟨[(0, false), (1, false), (2, false), (3, false)], [], 4⟩] tmx (by kernel_rfl) ?_
      refine Dh.JH.cons ?_
      refine Dh.JB.rd [.blk _ _ _] rfl trivial zT (fun _ => PR.loadW rfl tsh38 Has.here (by rfl)) ?_
      refine Dh.JB.pv rfl trivial (fun _ => PR.qm rfl) ?_
      refine Dh.JB.pv rfl trivial (fun _ => PR.idx1 0 rfl rfl tsl23 zM rfl rfl (by simp)) ?_
      refine Dh.JB.pv rfl trivial (fun _ => PR.loadR rfl tsh3 zM rfl) ?_
      refine Dh.JB.nil<|Dh.JL.nil ?_
      refine Dh.JE.mk rfl (fun _ h => by cases h) (fun C1_4 => ?_)
      refine Jl.calll (fs := []) (cs := []) (rfind_ct b ((M, cM), (I, cI), (K, cK)) id (by omega)) en63 rfl (by rfl) (by rfl) zT (ls := [b.rM ((M, cM), (I, cI), (K, cK)), b.rI ((M, cM), (I, cI), (K, cK)), b.rK ((M, cM), (I, cI), (K, cK))]) zT zL zF ?_
      rintro ⟨⟩
      refine Jl.as (.int .i64 (-1)) (by rw [hf]; rfl) ?_
      refine Jl.qn ?_
      refine Dh.Jq.segV zX ?_ zK
      refine Dh.JH.nil ?_
      refine Dh.JB.pv rfl trivial (fun _ => PR.qa rfl) ?_
      refine Dh.JB.nil<|Dh.JL.nil<|Jq.qt<|Jc.qs ?_
      refine Jc.block ?_
      refine Jc.qs<|Jc.qr<|Jl.pv (PR.qm rfl) ?_
      refine Jl.pv (PR.eql true rfl rfl (decide_eq_true (by omega))) ?_
      refine Jl.pv (PR.qa rfl)<|Jl.qn<|Jq.qt<|Jc.condT rfl<|Jc.qs<|Jc.qr<|Jl.pv (PR.qm rfl) ?_
      refine Jl.pv (PR.lss true rfl rfl (by decide)) ?_
      refine Jl.pv (PR.qm rfl)<|Jl.on rfl rfl<|Jl.pv (PR.qm rfl)<|Jl.on rfl rfl ?_
      refine Jl.pv (PR.idx1 0 rfl rfl tsl23 zM rfl rfl (by simp)) ?_
      refine Jl.on rfl rfl ?_
      refine Jl.pv (PR.loadR rfl tsh3 zM rfl) ?_
      refine Jl.on rfl rfl ?_
      refine Jl.pv (PR.geq true rfl rfl (decide_eq_true hid)) ?_
      refine Jl.pv (PR.pickT rfl rfl)<|Jl.qn<|Jq.qt<|Jc.condT rfl<|Jc.qs ?_
      refine Jc.drawn [0, 0, 2, 6, 0, 16, 48, 0, 128, 384, 0, 1024, 3072, 0, 8192, 24576, 65534, 131071, 262143] ([], []) [⟨[(0, false), (1, false), (2, false), (3, false), (4, false), (5, false), (6, false), (7, false), (8, false), (9, false), (10, false), (11, false), (12, false), (13, false), (14, false), (15, false), (16, false)], [], 17⟩, ⟨[], [], 18⟩] tmx (by kernel_rfl) ?_
      refine Dh.JH.cons ?_
      refine Dh.JB.rd [.blk _ _ _] rfl trivial zT (fun _ => PR.loadW rfl tsh38 Has.here (by rfl)) ?_
      refine Dh.JB.pv rfl trivial (fun _ => PR.qm rfl) ?_
      refine Dh.JB.pv rfl trivial (fun _ => PR.idx1 0 rfl rfl tsl23 zM rfl rfl (by simp)) ?_
      refine Dh.JB.pv rfl trivial (fun _ => PR.loadR rfl tsh3 zM rfl) ?_
      refine Dh.JB.pv rfl trivial (fun _ => PR.qm rfl) ?_
      refine Dh.JB.pv rfl trivial (fun _ => PR.idx1 1 rfl rfl tsl23 zM rfl rfl (by simp)) ?_
      refine Dh.JB.pv rfl trivial (fun _ => PR.loadR rfl tsh3 zM rfl) ?_
      refine Dh.JB.pv rfl trivial (fun _ => PR.qm rfl) ?_
      refine Dh.JB.pv rfl trivial (fun _ => PR.idx1 2 rfl rfl tsl23 zM rfl rfl (by simp)) ?_
      refine Dh.JB.pv rfl trivial (fun _ => PR.loadR rfl tsh3 zM rfl) ?_
      refine Dh.JB.pv rfl trivial (fun _ => PR.qm rfl) ?_
      refine Dh.JB.pv rfl trivial (fun _ => PR.idx1 3 rfl rfl tsl23 zM rfl rfl (by simp)) ?_
      refine Dh.JB.pv rfl trivial (fun _ => PR.loadR rfl tsh3 zM rfl) ?_
      refine Dh.JB.pv rfl trivial (fun _ => PR.qm rfl) ?_
      refine Dh.JB.pv rfl trivial (fun _ => PR.idx1 4 rfl rfl tsl23 zM rfl rfl (by simp)) ?_
      refine Dh.JB.pv rfl trivial (fun _ => PR.loadR rfl tsh3 zM rfl) ?_
      refine Dh.JB.pv rfl trivial (fun _ => PR.build (by rfl) tze72 tpl72_0_1_2_3_4_5 (by rfl)) ?_
      refine Dh.JB.nil<|Dh.JL.nil ?_
      refine Dh.JE.mk rfl (fun _ h => by cases h) (fun C4_17 => ?_)
      refine Jl.calll (fs := []) (cs := []) (rkeep_ct b ((M, cM), (I, cI), (K, cK)) ⟨id, t, v, zo, 8, now, false, false⟩ (by omega) hK') en64 rfl (by rfl) (by rfl) zT (ls := [b.rM ((M, cM), (I, cI), (K, cK)), b.rI ((M, cM), (I, cI), (K, cK)), b.rK ((M, cM), (I, cI), (K, cK))]) zT zL zF ?_
      rintro ⟨A41, c41⟩
      refine Jl.qn ?_
      refine Dh.Jq.segV zX ?_ zK
      refine Dh.JH.cons<|Dh.JB.nil<|Dh.JL.nil ?_
      refine Dh.JE.mk rfl (fun _ h => by cases h) (fun C4_18 => ?_)
      refine Jl.storeW rfl tsh38 rfl (by rfl) (by first | exact Br.cs_one _ _ | simp [Value.oneCell', Br.cs, Kp.cs]) zS (by rfl) ?_
      refine Jl.qn ?_
      refine Dh.Jq.segN zX ?_ zK
      refine Dh.JH.nil ?_
      refine Dh.JB.nil<|Dh.JL.nil<|Jq.qt<|Jc.ret ?_
      refine Jq.blkR ?_
      refine Jq.thenR ?_
      exact Jq.fin ((M, cM), (I, cI), (A41, c41)) (.inl rfl) rfl (RetVs.cellA rfl zH tsh38 (by rfl) RetVs.nil) rfl zT zF
    | some i =>
      rw [take1_no (.inr (by rw [hf]; rfl))]
      refine Ct.of _ Tryz.func42 Tryz.ntmps42 rfl rfl (fun X W => ?_)
      refine Jc.qs<|Jc.qr ?_
      refine Jl.box rfl (by rfl) ?_
      intro b3
      refine Jl.alloc tze38 ?_
      intro b6
      refine Jl.qn<|Jq.qt<|Jc.qs ?_
      refine Jc.drawn [0, 0, 2, 6, 15, 31] ([(5, false)], []) [⟨[(0, false), (1, false), (2, false), (3, false)], [], 4⟩] tmx (by kernel_rfl) ?_
      refine Dh.JH.cons ?_
      refine Dh.JB.rd [.blk _ _ _] rfl trivial zT (fun _ => PR.loadW rfl tsh38 Has.here (by rfl)) ?_
      refine Dh.JB.pv rfl trivial (fun _ => PR.qm rfl) ?_
      refine Dh.JB.pv rfl trivial (fun _ => PR.idx1 0 rfl rfl tsl23 zM rfl rfl (by simp)) ?_
      refine Dh.JB.pv rfl trivial (fun _ => PR.loadR rfl tsh3 zM rfl) ?_
      refine Dh.JB.nil<|Dh.JL.nil ?_
      refine Dh.JE.mk rfl (fun _ h => by cases h) (fun C1_4 => ?_)
      refine Jl.calll (fs := []) (cs := []) (rfind_ct b ((M, cM), (I, cI), (K, cK)) id (by omega)) en63 rfl (by rfl) (by rfl) zT (ls := [b.rM ((M, cM), (I, cI), (K, cK)), b.rI ((M, cM), (I, cI), (K, cK)), b.rK ((M, cM), (I, cI), (K, cK))]) zT zL zF ?_
      rintro ⟨⟩
      refine Jl.as (.int .i64 (i : Int)) (by rw [hf]; rfl) ?_
      refine Jl.qn ?_
      refine Dh.Jq.segV zX ?_ zK
      refine Dh.JH.nil ?_
      refine Dh.JB.pv rfl trivial (fun _ => PR.qa rfl) ?_
      refine Dh.JB.nil<|Dh.JL.nil<|Jq.qt<|Jc.qs ?_
      refine Jc.block ?_
      refine Jc.qs<|Jc.qr<|Jl.pv (PR.qm rfl) ?_
      refine Jl.pv (PR.eql true rfl rfl (decide_eq_true (by omega))) ?_
      refine Jl.pv (PR.qa rfl)<|Jl.qn<|Jq.qt<|Jc.condT rfl<|Jc.qs<|Jc.qr<|Jl.pv (PR.qm rfl) ?_
      refine Jl.pv (PR.lss false rfl rfl (decide_eq_false (by omega))) ?_
      refine Jl.pv (PR.qm rfl)<|Jl.qo rfl rfl rfl<|Jl.qo rfl rfl rfl<|Jl.qo rfl rfl rfl<|Jl.qo rfl rfl rfl<|Jl.pv (PR.pickF rfl rfl)<|Jl.qn<|Jq.qt<|Jc.condF rfl<|Jc.skip ?_
      refine Jq.blkN ?_
      refine Jq.qt<|Jc.qs<|Jc.qr ?_
      refine Jl.pv (PR.loadW rfl tsh38 zH (by rfl)) ?_
      refine Jl.storeW rfl tsh38 rfl (by rfl) (by first | exact Br.cs_one _ _ | simp [Value.oneCell', Br.cs, Kp.cs]) zS (by rfl) ?_
      refine Jl.qn<|Jq.qt<|Jc.ret ?_
      exact Jq.fin ((M, cM), (I, cI), (K, cK)) (.inl rfl) rfl (RetVs.cellA rfl zH tsh38 (by rfl) RetVs.nil) rfl zT zF
  · rw [take1_no (.inl (by omega))]
    cases hf : b.findK id with
    | none =>
      refine Ct.of _ Tryz.func42 Tryz.ntmps42 rfl rfl (fun X W => ?_)
      refine Jc.qs<|Jc.qr ?_
      refine Jl.box rfl (by rfl) ?_
      intro b3
      refine Jl.alloc tze38 ?_
      intro b6
      refine Jl.qn<|Jq.qt<|Jc.qs ?_
      refine Jc.drawn [0, 0, 2, 6, 15, 31] ([(5, false)], []) [⟨[(0, false), (1, false), (2, false), (3, false)], [], 4⟩] tmx (by kernel_rfl) ?_
      refine Dh.JH.cons ?_
      refine Dh.JB.rd [.blk _ _ _] rfl trivial zT (fun _ => PR.loadW rfl tsh38 Has.here (by rfl)) ?_
      refine Dh.JB.pv rfl trivial (fun _ => PR.qm rfl) ?_
      refine Dh.JB.pv rfl trivial (fun _ => PR.idx1 0 rfl rfl tsl23 zM rfl rfl (by simp)) ?_
      refine Dh.JB.pv rfl trivial (fun _ => PR.loadR rfl tsh3 zM rfl) ?_
      refine Dh.JB.nil<|Dh.JL.nil ?_
      refine Dh.JE.mk rfl (fun _ h => by cases h) (fun C1_4 => ?_)
      refine Jl.calll (fs := []) (cs := []) (rfind_ct b ((M, cM), (I, cI), (K, cK)) id (by omega)) en63 rfl (by rfl) (by rfl) zT (ls := [b.rM ((M, cM), (I, cI), (K, cK)), b.rI ((M, cM), (I, cI), (K, cK)), b.rK ((M, cM), (I, cI), (K, cK))]) zT zL zF ?_
      rintro ⟨⟩
      refine Jl.as (.int .i64 (-1)) (by rw [hf]; rfl) ?_
      refine Jl.qn ?_
      refine Dh.Jq.segV zX ?_ zK
      refine Dh.JH.nil ?_
      refine Dh.JB.pv rfl trivial (fun _ => PR.qa rfl) ?_
      refine Dh.JB.nil<|Dh.JL.nil<|Jq.qt<|Jc.qs ?_
      refine Jc.block ?_
      refine Jc.qs<|Jc.qr<|Jl.pv (PR.qm rfl) ?_
      refine Jl.pv (PR.eql true rfl rfl (decide_eq_true (by omega))) ?_
      refine Jl.pv (PR.qa rfl)<|Jl.qn<|Jq.qt<|Jc.condT rfl<|Jc.qs<|Jc.qr<|Jl.pv (PR.qm rfl) ?_
      refine Jl.pv (PR.lss true rfl rfl (by decide)) ?_
      refine Jl.pv (PR.qm rfl)<|Jl.on rfl rfl<|Jl.pv (PR.qm rfl)<|Jl.on rfl rfl ?_
      refine Jl.pv (PR.idx1 0 rfl rfl tsl23 zM rfl rfl (by simp)) ?_
      refine Jl.on rfl rfl ?_
      refine Jl.pv (PR.loadR rfl tsh3 zM rfl) ?_
      refine Jl.on rfl rfl ?_
      refine Jl.pv (PR.geq false rfl rfl (decide_eq_false hid)) ?_
      refine Jl.pv (PR.pickT rfl rfl)<|Jl.qn<|Jq.qt<|Jc.condF rfl<|Jc.skip ?_
      refine Jq.blkN ?_
      refine Jq.qt<|Jc.qs<|Jc.qr ?_
      refine Jl.pv (PR.loadW rfl tsh38 zH (by rfl)) ?_
      refine Jl.storeW rfl tsh38 rfl (by rfl) (by first | exact Br.cs_one _ _ | simp [Value.oneCell', Br.cs, Kp.cs]) zS (by rfl) ?_
      refine Jl.qn<|Jq.qt<|Jc.ret ?_
      exact Jq.fin ((M, cM), (I, cI), (K, cK)) (.inl rfl) rfl (RetVs.cellA rfl zH tsh38 (by rfl) RetVs.nil) rfl zT zF
    | some i =>
      refine Ct.of _ Tryz.func42 Tryz.ntmps42 rfl rfl (fun X W => ?_)
      refine Jc.qs<|Jc.qr ?_
      refine Jl.box rfl (by rfl) ?_
      intro b3
      refine Jl.alloc tze38 ?_
      intro b6
      refine Jl.qn<|Jq.qt<|Jc.qs ?_
      refine Jc.drawn [0, 0, 2, 6, 15, 31] ([(5, false)], []) [⟨[(0, false), (1, false), (2, false), (3, false)], [], 4⟩] tmx (by kernel_rfl) ?_
      refine Dh.JH.cons ?_
      refine Dh.JB.rd [.blk _ _ _] rfl trivial zT (fun _ => PR.loadW rfl tsh38 Has.here (by rfl)) ?_
      refine Dh.JB.pv rfl trivial (fun _ => PR.qm rfl) ?_
      refine Dh.JB.pv rfl trivial (fun _ => PR.idx1 0 rfl rfl tsl23 zM rfl rfl (by simp)) ?_
      refine Dh.JB.pv rfl trivial (fun _ => PR.loadR rfl tsh3 zM rfl) ?_
      refine Dh.JB.nil<|Dh.JL.nil ?_
      refine Dh.JE.mk rfl (fun _ h => by cases h) (fun C1_4 => ?_)
      refine Jl.calll (fs := []) (cs := []) (rfind_ct b ((M, cM), (I, cI), (K, cK)) id (by omega)) en63 rfl (by rfl) (by rfl) zT (ls := [b.rM ((M, cM), (I, cI), (K, cK)), b.rI ((M, cM), (I, cI), (K, cK)), b.rK ((M, cM), (I, cI), (K, cK))]) zT zL zF ?_
      rintro ⟨⟩
      refine Jl.as (.int .i64 (i : Int)) (by rw [hf]; rfl) ?_
      refine Jl.qn ?_
      refine Dh.Jq.segV zX ?_ zK
      refine Dh.JH.nil ?_
      refine Dh.JB.pv rfl trivial (fun _ => PR.qa rfl) ?_
      refine Dh.JB.nil<|Dh.JL.nil<|Jq.qt<|Jc.qs ?_
      refine Jc.block ?_
      refine Jc.qs<|Jc.qr<|Jl.pv (PR.qm rfl) ?_
      refine Jl.pv (PR.eql true rfl rfl (decide_eq_true (by omega))) ?_
      refine Jl.pv (PR.qa rfl)<|Jl.qn<|Jq.qt<|Jc.condT rfl<|Jc.qs<|Jc.qr<|Jl.pv (PR.qm rfl) ?_
      refine Jl.pv (PR.lss false rfl rfl (decide_eq_false (by omega))) ?_
      refine Jl.pv (PR.qm rfl)<|Jl.qo rfl rfl rfl<|Jl.qo rfl rfl rfl<|Jl.qo rfl rfl rfl<|Jl.qo rfl rfl rfl<|Jl.pv (PR.pickF rfl rfl)<|Jl.qn<|Jq.qt<|Jc.condF rfl<|Jc.skip ?_
      refine Jq.blkN ?_
      refine Jq.qt<|Jc.qs<|Jc.qr ?_
      refine Jl.pv (PR.loadW rfl tsh38 zH (by rfl)) ?_
      refine Jl.storeW rfl tsh38 rfl (by rfl) (by first | exact Br.cs_one _ _ | simp [Value.oneCell', Br.cs, Kp.cs]) zS (by rfl) ?_
      refine Jl.qn<|Jq.qt<|Jc.ret ?_
      exact Jq.fin ((M, cM), (I, cI), (K, cK)) (.inl rfl) rfl (RetVs.cellA rfl zH tsh38 (by rfl) RetVs.nil) rfl zT zF
theorem rgone_ct (b : Br) (z : BrA) (k : UInt8) (hk : k.toNat = 7) (L : Option Addr) (cL : Nat) (id : Int) (hm : b.kps.length ≤ 900000) : Ct Tryz.prog 42 [b.v z, .int .u8 k.toNat, .slice L 1 cL] [b.rM z, b.rI z, b.rK z] [.rd L (i64s [id])] (fun z' : BrA => (b.goneK id).v z') (fun z' => [(b.goneK id).rM z', (b.goneK id).rI z', (b.goneK id).rK z']) (fun _ => []) := by
  obtain ⟨⟨M, cM⟩, ⟨I, cI⟩, ⟨K, cK⟩⟩ := z
  have hl8 := kpsV_len b.kps
  cases hf : b.findK id with
  | none =>
    rw [(goneT b id).1 hf]
    refine Ct.of _ Tryz.func42 Tryz.ntmps42 rfl rfl (fun X W => ?_)
    refine Jc.qs<|Jc.qr ?_
    refine Jl.box rfl (by rfl) ?_
    intro b3
    refine Jl.alloc tze38 ?_
    intro b6
    refine Jl.qn<|Jq.qt<|Jc.qs ?_
    refine Jc.drawn [0, 0, 2, 6, 15, 31] ([(5, false)], []) [⟨[(0, false), (1, false), (2, false), (3, false)], [], 4⟩] tmx (by kernel_rfl) ?_
    refine Dh.JH.cons ?_
    refine Dh.JB.rd [.blk _ _ _] rfl trivial zT (fun _ => PR.loadW rfl tsh38 Has.here (by rfl)) ?_
    refine Dh.JB.pv rfl trivial (fun _ => PR.qm rfl) ?_
    refine Dh.JB.pv rfl trivial (fun _ => PR.idx1 0 rfl rfl tsl23 zM rfl rfl (by simp)) ?_
    refine Dh.JB.pv rfl trivial (fun _ => PR.loadR rfl tsh3 zM rfl) ?_
    refine Dh.JB.nil<|Dh.JL.nil ?_
    refine Dh.JE.mk rfl (fun _ h => by cases h) (fun C1_4 => ?_)
    refine Jl.calll (fs := []) (cs := []) (rfind_ct b ((M, cM), (I, cI), (K, cK)) id (by omega)) en63 rfl (by rfl) (by rfl) zT (ls := [b.rM ((M, cM), (I, cI), (K, cK)), b.rI ((M, cM), (I, cI), (K, cK)), b.rK ((M, cM), (I, cI), (K, cK))]) zT zL zF ?_
    rintro ⟨⟩
    refine Jl.as (.int .i64 (-1)) (by rw [hf]; rfl) ?_
    refine Jl.qn ?_
    refine Dh.Jq.segV zX ?_ zK
    refine Dh.JH.nil ?_
    refine Dh.JB.pv rfl trivial (fun _ => PR.qa rfl) ?_
    refine Dh.JB.nil<|Dh.JL.nil<|Jq.qt<|Jc.qs ?_
    refine Jc.block ?_
    refine Jc.qs<|Jc.qr<|Jl.pv (PR.qm rfl) ?_
    refine Jl.pv (PR.eql false rfl rfl (decide_eq_false (by omega))) ?_
    refine Jl.pv (PR.qa rfl)<|Jl.qn<|Jq.qt<|Jc.condF rfl<|Jc.qs<|Jc.qr<|Jl.pv (PR.qm rfl) ?_
    refine Jl.pv (PR.lss true rfl rfl (by decide)) ?_
    refine Jl.pv (PR.qa rfl)<|Jl.qn<|Jq.qt<|Jc.condT rfl<|Jc.skip ?_
    refine Jq.blkN ?_
    refine Jq.qt<|Jc.qs<|Jc.qr ?_
    refine Jl.pv (PR.loadW rfl tsh38 zH (by rfl)) ?_
    refine Jl.storeW rfl tsh38 rfl (by rfl) (by first | exact Br.cs_one _ _ | simp [Value.oneCell', Br.cs, Kp.cs]) zS (by rfl) ?_
    refine Jl.qn<|Jq.qt<|Jc.ret ?_
    exact Jq.fin ((M, cM), (I, cI), (K, cK)) (.inl rfl) rfl (RetVs.cellA rfl zH tsh38 (by rfl) RetVs.nil) rfl zT zF
  | some k =>
    obtain ⟨hk2, _⟩ := findK_some hf
    rw [(goneT b id).2 k hf]
    have hle : (b.kps.take k ++ b.kps.drop (k + 1)).length = b.kps.length - 1 := by simp; omega
    have hlt4 : (kpsV (b.kps.take k)).length = k * 8 := by rw [kpsV_len, List.length_take]; omega
    have hld4 : (kpsV (b.kps.drop (k + 1))).length = (b.kps.length - (k + 1)) * 8 := by rw [kpsV_len, List.length_drop]
    refine Ct.of _ Tryz.func42 Tryz.ntmps42 rfl rfl (fun X W => ?_)
    refine Jc.rowCap (A := K) (m := b.kps.length) (cap := cK) (Del.there (Del.there Del.here)) (fun hK' => ?_)
    refine Jc.qs<|Jc.qr ?_
    refine Jl.box rfl (by rfl) ?_
    intro b3
    refine Jl.alloc tze38 ?_
    intro b6
    refine Jl.qn<|Jq.qt<|Jc.qs ?_
    refine Jc.drawn [0, 0, 2, 6, 15, 31] ([(5, false)], []) [⟨[(0, false), (1, false), (2, false), (3, false)], [], 4⟩] tmx (by kernel_rfl) ?_
    refine Dh.JH.cons ?_
    refine Dh.JB.rd [.blk _ _ _] rfl trivial zT (fun _ => PR.loadW rfl tsh38 Has.here (by rfl)) ?_
    refine Dh.JB.pv rfl trivial (fun _ => PR.qm rfl) ?_
    refine Dh.JB.pv rfl trivial (fun _ => PR.idx1 0 rfl rfl tsl23 zM rfl rfl (by simp)) ?_
    refine Dh.JB.pv rfl trivial (fun _ => PR.loadR rfl tsh3 zM rfl) ?_
    refine Dh.JB.nil<|Dh.JL.nil ?_
    refine Dh.JE.mk rfl (fun _ h => by cases h) (fun C1_4 => ?_)
    refine Jl.calll (fs := []) (cs := []) (rfind_ct b ((M, cM), (I, cI), (K, cK)) id (by omega)) en63 rfl (by rfl) (by rfl) zT (ls := [b.rM ((M, cM), (I, cI), (K, cK)), b.rI ((M, cM), (I, cI), (K, cK)), b.rK ((M, cM), (I, cI), (K, cK))]) zT zL zF ?_
    rintro ⟨⟩
    refine Jl.as (.int .i64 (k : Int)) (by rw [hf]; rfl) ?_
    refine Jl.qn ?_
    refine Dh.Jq.segV zX ?_ zK
    refine Dh.JH.nil ?_
    refine Dh.JB.pv rfl trivial (fun _ => PR.qa rfl) ?_
    refine Dh.JB.nil<|Dh.JL.nil<|Jq.qt<|Jc.qs ?_
    refine Jc.block ?_
    refine Jc.qs<|Jc.qr<|Jl.pv (PR.qm rfl) ?_
    refine Jl.pv (PR.eql false rfl rfl (decide_eq_false (by omega))) ?_
    refine Jl.pv (PR.qa rfl)<|Jl.qn<|Jq.qt<|Jc.condF rfl<|Jc.qs<|Jc.qr<|Jl.pv (PR.qm rfl) ?_
    refine Jl.pv (PR.lss false rfl rfl (decide_eq_false (by omega))) ?_
    refine Jl.pv (PR.qa rfl)<|Jl.qn<|Jq.qt<|Jc.condF rfl<|Jc.qs<|Jc.qr<|Jl.pv (PR.qm rfl) ?_
    refine Jl.pv (PR.eql false rfl rfl (decide_eq_false (by omega))) ?_
    refine Jl.pv (PR.qa rfl)<|Jl.qn<|Jq.qt<|Jc.condF rfl<|Jc.qs<|Jc.qr<|Jl.pv (PR.qm rfl) ?_
    refine Jl.pv (PR.eql true rfl rfl (decide_eq_true (by omega))) ?_
    refine Jl.pv (PR.qa rfl) ?_
    refine Jl.sealR (A := K) (m := b.kps.length) (cap := cK) (xs := kpsV b.kps) zD ?_
    refine Jl.qn<|Jq.qt<|Jc.condT rfl ?_
    refine Jc.drawn [0, 0, 2, 0, 14, 31, 0, 64, 0, 256, 960, 2047, 4095, 8191] ([], []) [⟨[(0, true), (1, false), (2, false), (3, false), (4, false), (6, false), (7, false), (8, false), (9, false), (10, false)], [0], 5⟩, ⟨[], [], 11⟩, ⟨[(12, false)], [], 13⟩] tmx (by kernel_rfl) ?_
    refine Dh.JH.cons ?_
    refine Dh.JB.buildSlice rfl trivial (by rfl) tsl34 tzr34_0 (by rfl) (by rfl) ?_
    refine Dh.JB.pv rfl trivial (fun _ => PR.qf rfl tfl38_5) ?_
    refine Dh.JB.rd [.blk _ _ _] rfl trivial zT (fun _ => PR.load1 rfl tsh34 Has.here (by rfl)) ?_
    refine Dh.JB.pv rfl trivial (fun _ => PR.qm rfl) ?_
    refine Dh.JB.slice 0 k k (kpsV (b.kps.take k)) rfl trivial rfl tsl34 rfl rfl zM (by omega) (by omega) hK' (by omega) (by rw [Nat.zero_mul, List.drop_zero, kpsV_take]) ?_
    intro A94 c94 hc94
    clear hc94
    refine Dh.JB.pv rfl trivial (fun _ => PR.qf rfl tfl38_5) ?_
    refine Dh.JB.rd [.blk _ _ _] rfl trivial zT (fun _ => PR.load1 rfl tsh34 Has.here (by rfl)) ?_
    refine Dh.JB.pv rfl trivial (fun _ => PR.qm rfl) ?_
    refine Dh.JB.pv rfl trivial (fun _ => PR.add ((k + 1 : Nat) : Int) rfl rfl (w64 (a := ((k + 1 : Nat) : Int)) (by omega) (by omega))) ?_
    refine Dh.JB.slice (k + 1) b.kps.length (b.kps.length - (k + 1)) (kpsV (b.kps.drop (k + 1))) rfl trivial rfl tsl34 rfl rfl zM (by omega) (by omega) hK' rfl (by rw [kpsV_drop, List.take_of_length_le (by omega)]) ?_
    intro A100 c100 hc100
    clear hc100
    refine Dh.JB.nil ?_
    refine Dh.JL.sl rfl (by repeat (first | exact Dh.es_here | apply Dh.es_there)) (fun b90 => ?_)
    refine Dh.JL.nil ?_
    refine Dh.JE.mk rfl (fun _ h => by cases h) (fun C12_5 => ?_)
    refine Jl.toRow 8 0 zS (by rfl) (by rfl) ?_
    refine Jl.append k (kpsV (b.kps.take k)) rfl rfl rfl tsl34 tze72 (by rfl) (by decide) tby72 (fun _ _ => zS) zM (by omega) rfl (by omega) (kps_one _) (by omega) (by decide) ?_
    intro A95 c95
    refine Jl.qn ?_
    refine Dh.Jq.segV zX ?_ zK
    refine Dh.JH.cons<|Dh.JB.nil<|Dh.JL.nil ?_
    refine Dh.JE.mk rfl (fun _ h => by cases h) (fun C12_11 => ?_)
    refine Jl.append (b.kps.take k ++ b.kps.drop (k + 1)).length (kpsV (b.kps.take k ++ b.kps.drop (k + 1))) rfl rfl rfl tsl34 tze72 (by rfl) (by decide) tby72 (fun _ _ => zS) zM (by omega) (by rw [kpsV_app]) (by omega) (kps_one _) (by omega) (by decide) ?_
    intro A101 c101
    refine Jl.qn ?_
    refine Dh.Jq.segV zX ?_ zK
    refine Dh.JH.cons<|Dh.JB.pv rfl trivial (fun _ => PR.qf rfl tfl38_5)<|Dh.JB.nil<|Dh.JL.nil ?_
    refine Dh.JE.mk rfl (fun _ h => by cases h) (fun C12_13 => ?_)
    refine Jl.store1 rfl tsh34 rfl (by rfl) zS (by rfl) ?_
    refine Jl.qn ?_
    refine Dh.Jq.segN zX ?_ zK
    refine Dh.JH.nil ?_
    refine Dh.JB.nil<|Dh.JL.nil ?_
    refine Jq.blkN ?_
    refine Jq.qt<|Jc.qs<|Jc.qr ?_
    refine Jl.pv (PR.loadW rfl tsh38 zH (by rfl)) ?_
    refine Jl.storeW rfl tsh38 rfl (by rfl) (by first | exact Br.cs_one _ _ | simp [Value.oneCell', Br.cs, Kp.cs]) zS (by rfl) ?_
    refine Jl.qn<|Jq.qt<|Jc.ret ?_
    exact Jq.fin ((M, cM), (I, cI), (A101, c101)) (.inl rfl) rfl (RetVs.cellA rfl zH tsh38 (by rfl) RetVs.nil) rfl zT zF
theorem rphase_ct (b : Br) (z : BrA) (k : UInt8) (hk : k.toNat = 6) (L : Option Addr) (cL : Nat) (id p now : Int) (hm : b.kps.length ≤ 900000) (hp : 0 ≤ p) : Ct Tryz.prog 42 [b.v z, .int .u8 k.toNat, .slice L 3 cL] [b.rM z, b.rI z, b.rK z] [.rd L (i64s [id, p, now])] (fun z' : BrA => (b.phase id p now).v z') (fun z' => [(b.phase id p now).rM z', (b.phase id p now).rI z', (b.phase id p now).rK z']) (fun _ => []) := by
  obtain ⟨⟨M, cM⟩, ⟨I, cI⟩, ⟨K, cK⟩⟩ := z
  have hl8 := kpsV_len b.kps
  cases hf : b.findK id with
  | none =>
    rw [(phaseT b id p now).1 hf]
    refine Ct.of _ Tryz.func42 Tryz.ntmps42 rfl rfl (fun X W => ?_)
    refine Jc.qs<|Jc.qr ?_
    refine Jl.box rfl (by rfl) ?_
    intro b3
    refine Jl.alloc tze38 ?_
    intro b6
    refine Jl.qn<|Jq.qt<|Jc.qs ?_
    refine Jc.drawn [0, 0, 2, 6, 15, 31] ([(5, false)], []) [⟨[(0, false), (1, false), (2, false), (3, false)], [], 4⟩] tmx (by kernel_rfl) ?_
    refine Dh.JH.cons ?_
    refine Dh.JB.rd [.blk _ _ _] rfl trivial zT (fun _ => PR.loadW rfl tsh38 Has.here (by rfl)) ?_
    refine Dh.JB.pv rfl trivial (fun _ => PR.qm rfl) ?_
    refine Dh.JB.pv rfl trivial (fun _ => PR.idx1 0 rfl rfl tsl23 zM rfl rfl (by simp)) ?_
    refine Dh.JB.pv rfl trivial (fun _ => PR.loadR rfl tsh3 zM rfl) ?_
    refine Dh.JB.nil<|Dh.JL.nil ?_
    refine Dh.JE.mk rfl (fun _ h => by cases h) (fun C1_4 => ?_)
    refine Jl.calll (fs := []) (cs := []) (rfind_ct b ((M, cM), (I, cI), (K, cK)) id (by omega)) en63 rfl (by rfl) (by rfl) zT (ls := [b.rM ((M, cM), (I, cI), (K, cK)), b.rI ((M, cM), (I, cI), (K, cK)), b.rK ((M, cM), (I, cI), (K, cK))]) zT zL zF ?_
    rintro ⟨⟩
    refine Jl.as (.int .i64 (-1)) (by rw [hf]; rfl) ?_
    refine Jl.qn ?_
    refine Dh.Jq.segV zX ?_ zK
    refine Dh.JH.nil ?_
    refine Dh.JB.pv rfl trivial (fun _ => PR.qa rfl) ?_
    refine Dh.JB.nil<|Dh.JL.nil<|Jq.qt<|Jc.qs ?_
    refine Jc.block ?_
    refine Jc.qs<|Jc.qr<|Jl.pv (PR.qm rfl) ?_
    refine Jl.pv (PR.eql false rfl rfl (decide_eq_false (by omega))) ?_
    refine Jl.pv (PR.qa rfl)<|Jl.qn<|Jq.qt<|Jc.condF rfl<|Jc.qs<|Jc.qr<|Jl.pv (PR.qm rfl) ?_
    refine Jl.pv (PR.lss true rfl rfl (by decide)) ?_
    refine Jl.pv (PR.qa rfl)<|Jl.qn<|Jq.qt<|Jc.condT rfl<|Jc.skip ?_
    refine Jq.blkN ?_
    refine Jq.qt<|Jc.qs<|Jc.qr ?_
    refine Jl.pv (PR.loadW rfl tsh38 zH (by rfl)) ?_
    refine Jl.storeW rfl tsh38 rfl (by rfl) (by first | exact Br.cs_one _ _ | simp [Value.oneCell', Br.cs, Kp.cs]) zS (by rfl) ?_
    refine Jl.qn<|Jq.qt<|Jc.ret ?_
    exact Jq.fin ((M, cM), (I, cI), (K, cK)) (.inl rfl) rfl (RetVs.cellA rfl zH tsh38 (by rfl) RetVs.nil) rfl zT zF
  | some i =>
    obtain ⟨hi, _⟩ := findK_some hf
    rw [(phaseT b id p now).2 i hf, kAt_eq hi]
    have hl8a := kpsV_len (b.kps.set i { b.kps[i] with ph := UInt8.ofNat p.toNat })
    have hl8b := kpsV_len (b.kps.set i { b.kps[i] with ph := UInt8.ofNat p.toNat, si := now })
    rw [List.length_set] at hl8a hl8b
    by_cases h11 : p < 11
    · have hlg : legal b.kps[i].ph.toNat p = rlegal b.kps[i].ph (UInt8.ofNat p.toNat) := by
        rw [legal, rlegal, decide_eq_true h11, Bool.true_and, show (UInt8.ofNat p.toNat).toNat = p.toNat by simp; omega]
      by_cases hl : legal b.kps[i].ph.toNat p = true
      · rw [if_pos hl]
        refine Ct.of _ Tryz.func42 Tryz.ntmps42 rfl rfl (fun X W => ?_)
        refine Jc.qs<|Jc.qr ?_
        refine Jl.box rfl (by rfl) ?_
        intro b3
        refine Jl.alloc tze38 ?_
        intro b6
        refine Jl.qn<|Jq.qt<|Jc.qs ?_
        refine Jc.drawn [0, 0, 2, 6, 15, 31] ([(5, false)], []) [⟨[(0, false), (1, false), (2, false), (3, false)], [], 4⟩] tmx (by kernel_rfl) ?_
        refine Dh.JH.cons ?_
        refine Dh.JB.rd [.blk _ _ _] rfl trivial zT (fun _ => PR.loadW rfl tsh38 Has.here (by rfl)) ?_
        refine Dh.JB.pv rfl trivial (fun _ => PR.qm rfl) ?_
        refine Dh.JB.pv rfl trivial (fun _ => PR.idx1 0 rfl rfl tsl23 zM rfl rfl (by simp)) ?_
        refine Dh.JB.pv rfl trivial (fun _ => PR.loadR rfl tsh3 zM rfl) ?_
        refine Dh.JB.nil<|Dh.JL.nil ?_
        refine Dh.JE.mk rfl (fun _ h => by cases h) (fun C1_4 => ?_)
        refine Jl.calll (fs := []) (cs := []) (rfind_ct b ((M, cM), (I, cI), (K, cK)) id (by omega)) en63 rfl (by rfl) (by rfl) zT (ls := [b.rM ((M, cM), (I, cI), (K, cK)), b.rI ((M, cM), (I, cI), (K, cK)), b.rK ((M, cM), (I, cI), (K, cK))]) zT zL zF ?_
        rintro ⟨⟩
        refine Jl.as (.int .i64 (i : Int)) (by rw [hf]; rfl) ?_
        refine Jl.qn ?_
        refine Dh.Jq.segV zX ?_ zK
        refine Dh.JH.nil ?_
        refine Dh.JB.pv rfl trivial (fun _ => PR.qa rfl) ?_
        refine Dh.JB.nil<|Dh.JL.nil<|Jq.qt<|Jc.qs ?_
        refine Jc.block ?_
        refine Jc.qs<|Jc.qr<|Jl.pv (PR.qm rfl) ?_
        refine Jl.pv (PR.eql false rfl rfl (decide_eq_false (by omega))) ?_
        refine Jl.pv (PR.qa rfl)<|Jl.qn<|Jq.qt<|Jc.condF rfl<|Jc.qs<|Jc.qr<|Jl.pv (PR.qm rfl) ?_
        refine Jl.pv (PR.lss false rfl rfl (decide_eq_false (by omega))) ?_
        refine Jl.pv (PR.qa rfl)<|Jl.qn<|Jq.qt<|Jc.condF rfl<|Jc.qs<|Jc.qr<|Jl.pv (PR.qm rfl) ?_
        refine Jl.pv (PR.eql true rfl rfl (decide_eq_true (by omega))) ?_
        refine Jl.pv (PR.qa rfl)<|Jl.qn<|Jq.qt<|Jc.condT rfl<|Jc.qs ?_
        refine Jc.drawn [0, 1, 3, 7, 15, 31, 63, 31, 255, 511, 1023, 31, 2079, 6175, 14367, 32767, 65535] ([(16, false)], []) [⟨[(0, false), (1, false), (2, false), (3, false), (4, false), (5, false), (6, false), (7, false), (8, false), (9, false), (10, false), (11, false), (12, false), (13, false), (14, false)], [], 15⟩] tmx (by kernel_rfl) ?_
        refine Dh.JH.cons<|Dh.JB.pv rfl trivial (fun _ => PR.qm rfl) ?_
        refine Dh.JB.pv rfl trivial (fun _ => PR.idx1 1 rfl rfl tsl23 zM rfl rfl (by simp)) ?_
        refine Dh.JB.pv rfl trivial (fun _ => PR.loadR rfl tsh3 zM rfl) ?_
        refine Dh.JB.pv rfl trivial (fun _ => PR.lss true rfl rfl (decide_eq_true h11)) ?_
        refine Dh.JB.pv rfl trivial (fun _ => PR.qm rfl) ?_
        refine Dh.JB.pv rfl ⟨_, rfl, rfl⟩ (fun _ => PR.qf rfl tfl38_5) ?_
        refine Dh.JB.rd [.blk _ _ _] rfl ⟨_, rfl, rfl⟩ zT (fun _ => PR.load1 rfl tsh34 Has.here (by rfl)) ?_
        refine Dh.JB.pv rfl ⟨_, rfl, rfl⟩ (fun _ => PR.qm rfl) ?_
        refine Dh.JB.rd [.row _ _ _ _ _] rfl ⟨_, rfl, rfl⟩ zT (fun _ => PR.idxO i rfl rfl tsl34 Del.here (by decide) rfl hi) ?_
        refine Dh.JB.rd [.row _ _ _ _ _] rfl ⟨_, rfl, rfl⟩ zT (fun _ => PR.fieldAddrO rfl tfl72_4 Del.here (by omega)) ?_
        refine Dh.JB.rd [.row _ _ _ _ _] rfl ⟨_, rfl, rfl⟩ zT (fun _ => PR.loadO rfl tsh5 Del.here (kps_f hi 4 rfl)) ?_
        refine Dh.JB.pv rfl ⟨_, rfl, rfl⟩ (fun _ => PR.qm rfl) ?_
        refine Dh.JB.pv rfl ⟨_, rfl, rfl⟩ (fun _ => PR.idx1 1 rfl rfl tsl23 zM rfl rfl (by simp)) ?_
        refine Dh.JB.pv rfl ⟨_, rfl, rfl⟩ (fun _ => PR.loadR rfl tsh3 zM rfl) ?_
        refine Dh.JB.pv rfl ⟨_, rfl, rfl⟩ (fun _ => PR.conv ((UInt8.ofNat p.toNat).toNat : Int) rfl Tryz.underlying3 Tryz.underlying5 (by rw [IntKind.wrap_u8]; simp; omega)) ?_
        refine Dh.JB.nil<|Dh.JL.nil ?_
        refine Dh.JE.mk rfl (fun _ h => by cases h) (fun C7_15 => ?_)
        refine Jl.on rfl rfl ?_
        refine Jl.call (rlegal_ct b.kps[i].ph (UInt8.ofNat p.toNat)) en65 (by rfl) zT zF ?_
        rintro ⟨⟩
        refine Jl.as (.bool true) (congrArg Value.bool (hlg.symm.trans hl)) ?_
        refine Jl.qn ?_
        refine Dh.Jq.segV zX ?_ zK
        refine Dh.JH.nil ?_
        refine Dh.JB.pv rfl trivial (fun _ => PR.pickT rfl rfl) ?_
        refine Dh.JB.nil<|Dh.JL.nil<|Jq.qt<|Jc.condT rfl<|Jc.qs ?_
        refine Jc.drawn [0, 1, 0, 0, 8, 24, 56, 127, 255, 511] ([], []) [⟨[(0, false), (1, false), (2, false), (3, false), (4, false), (5, false), (6, false), (7, false), (8, false)], [], 9⟩] tmx (by kernel_rfl) ?_
        refine Dh.JH.cons<|Dh.JB.pv rfl trivial (fun _ => PR.qf rfl tfl38_5) ?_
        refine Dh.JB.rd [.blk _ _ _] rfl trivial zT (fun _ => PR.load1 rfl tsh34 Has.here (by rfl)) ?_
        refine Dh.JB.pv rfl trivial (fun _ => PR.qm rfl)<|Dh.JB.pv rfl trivial (fun _ => PR.qm rfl) ?_
        refine Dh.JB.pv rfl trivial (fun _ => PR.idx1 1 rfl rfl tsl23 zM rfl rfl (by simp)) ?_
        refine Dh.JB.pv rfl trivial (fun _ => PR.loadR rfl tsh3 zM rfl) ?_
        refine Dh.JB.pv rfl trivial (fun _ => PR.conv ((UInt8.ofNat p.toNat).toNat : Int) rfl Tryz.underlying3 Tryz.underlying5 (by rw [IntKind.wrap_u8]; simp; omega)) ?_
        refine Dh.JB.rd [.row _ _ _ _ _] rfl trivial zT (fun _ => PR.idxO i rfl rfl tsl34 Del.here (by decide) rfl hi) ?_
        refine Dh.JB.rd [.row _ _ _ _ _] rfl trivial zT (fun _ => PR.fieldAddrO rfl tfl72_4 Del.here (by omega)) ?_
        refine Dh.JB.nil<|Dh.JL.nil ?_
        refine Dh.JE.mk rfl (fun _ h => by cases h) (fun C8_9 => ?_)
        refine Jl.storeO rfl tsh5 rfl (by rfl) zS (by omega) (kps_set (x := { b.kps[i] with ph := UInt8.ofNat p.toNat }) hi (by decide) rfl) ?_
        refine Jl.qn ?_
        refine Dh.Jq.segN zX ?_ zK
        refine Dh.JH.nil ?_
        refine Dh.JB.nil<|Dh.JL.nil<|Jq.qt<|Jc.qs ?_
        refine Jc.drawn [0, 1, 0, 0, 8, 24, 63, 127, 255] ([], []) [⟨[(0, false), (1, false), (2, false), (3, false), (4, false), (5, false), (6, false), (7, false)], [], 8⟩] tmx (by kernel_rfl) ?_
        refine Dh.JH.cons<|Dh.JB.pv rfl trivial (fun _ => PR.qf rfl tfl38_5) ?_
        refine Dh.JB.rd [.blk _ _ _] rfl trivial zT (fun _ => PR.load1 rfl tsh34 Has.here (by rfl)) ?_
        refine Dh.JB.pv rfl trivial (fun _ => PR.qm rfl)<|Dh.JB.pv rfl trivial (fun _ => PR.qm rfl) ?_
        refine Dh.JB.pv rfl trivial (fun _ => PR.idx1 2 rfl rfl tsl23 zM rfl rfl (by simp)) ?_
        refine Dh.JB.pv rfl trivial (fun _ => PR.loadR rfl tsh3 zM rfl) ?_
        refine Dh.JB.rd [.row _ _ _ _ _] rfl trivial zT (fun _ => PR.idxO i rfl rfl tsl34 Del.here (by decide) rfl hi) ?_
        refine Dh.JB.rd [.row _ _ _ _ _] rfl trivial zT (fun _ => PR.fieldAddrO rfl tfl72_5 Del.here (by omega)) ?_
        refine Dh.JB.nil<|Dh.JL.nil ?_
        refine Dh.JE.mk rfl (fun _ h => by cases h) (fun C9_8 => ?_)
        refine Jl.storeO rfl tsh3 rfl (by rfl) zS (by omega) ((kps_set (l := b.kps.set i { b.kps[i] with ph := UInt8.ofNat p.toNat }) (x := { b.kps[i] with ph := UInt8.ofNat p.toNat, si := now }) (by rw [List.length_set]; exact hi) (by decide) (by rw [List.getElem_set_self]; rfl)).trans (by rw [List.set_set])) ?_
        refine Jl.qn ?_
        refine Dh.Jq.segN zX ?_ zK
        refine Dh.JH.nil ?_
        refine Dh.JB.nil<|Dh.JL.nil<|Jq.qt<|Jc.qr<|Jl.pv (PR.qf rfl tfl38_5) ?_
        refine Jl.pv (PR.load1 rfl tsh34 zH (by rfl)) ?_
        refine Jl.pv (PR.qm rfl) ?_
        refine Jl.pv (PR.idxO i rfl rfl tsl34 zD (by decide) rfl hi) ?_
        refine Jl.pv (PR.fieldAddrO rfl tfl72_7 zD (by omega)) ?_
        refine Jl.storeO rfl tsh4 rfl (by rfl) zS (by omega) ((kps_set (l := b.kps.set i { b.kps[i] with ph := UInt8.ofNat p.toNat, si := now }) (x := { b.kps[i] with ph := UInt8.ofNat p.toNat, si := now, co := false }) (by rw [List.length_set]; exact hi) (by decide) (by rw [List.getElem_set_self]; rfl)).trans (by rw [List.set_set])) ?_
        refine Jl.qn ?_
        refine Jq.blkN ?_
        refine Jq.qt<|Jc.qs<|Jc.qr ?_
        refine Jl.pv (PR.loadW rfl tsh38 zH (by rfl)) ?_
        refine Jl.storeW rfl tsh38 rfl (by rfl) (by first | exact Br.cs_one _ _ | simp [Value.oneCell', Br.cs, Kp.cs]) zS (by rfl) ?_
        refine Jl.qn<|Jq.qt<|Jc.ret ?_
        rw [show (fun z' : BrA => [(b.onK1 i { b.kps[i] with ph := UInt8.ofNat p.toNat, si := now, co := false }).rM z', (b.onK1 i { b.kps[i] with ph := UInt8.ofNat p.toNat, si := now, co := false }).rI z', (b.onK1 i { b.kps[i] with ph := UInt8.ofNat p.toNat, si := now, co := false }).rK z']) = fun z' => [b.rM z', b.rI z', .row 72 8 (.slice z'.2.2.1 b.kps.length z'.2.2.2) b.kps.length (kpsV (b.kps.set i { b.kps[i] with ph := UInt8.ofNat p.toNat, si := now, co := false }))] by funext z'; rw [onK1_rK]; rfl]
        exact Jq.fin ((M, cM), (I, cI), (K, cK)) (.inl rfl) rfl (RetVs.cellA rfl zH tsh38 (by rfl) RetVs.nil) (by simp [retval, Br.v, Br.cs, Br.onK1]) zT zF
      · rw [if_neg hl]
        refine Ct.of _ Tryz.func42 Tryz.ntmps42 rfl rfl (fun X W => ?_)
        refine Jc.qs<|Jc.qr ?_
        refine Jl.box rfl (by rfl) ?_
        intro b3
        refine Jl.alloc tze38 ?_
        intro b6
        refine Jl.qn<|Jq.qt<|Jc.qs ?_
        refine Jc.drawn [0, 0, 2, 6, 15, 31] ([(5, false)], []) [⟨[(0, false), (1, false), (2, false), (3, false)], [], 4⟩] tmx (by kernel_rfl) ?_
        refine Dh.JH.cons ?_
        refine Dh.JB.rd [.blk _ _ _] rfl trivial zT (fun _ => PR.loadW rfl tsh38 Has.here (by rfl)) ?_
        refine Dh.JB.pv rfl trivial (fun _ => PR.qm rfl) ?_
        refine Dh.JB.pv rfl trivial (fun _ => PR.idx1 0 rfl rfl tsl23 zM rfl rfl (by simp)) ?_
        refine Dh.JB.pv rfl trivial (fun _ => PR.loadR rfl tsh3 zM rfl) ?_
        refine Dh.JB.nil<|Dh.JL.nil ?_
        refine Dh.JE.mk rfl (fun _ h => by cases h) (fun C1_4 => ?_)
        refine Jl.calll (fs := []) (cs := []) (rfind_ct b ((M, cM), (I, cI), (K, cK)) id (by omega)) en63 rfl (by rfl) (by rfl) zT (ls := [b.rM ((M, cM), (I, cI), (K, cK)), b.rI ((M, cM), (I, cI), (K, cK)), b.rK ((M, cM), (I, cI), (K, cK))]) zT zL zF ?_
        rintro ⟨⟩
        refine Jl.as (.int .i64 (i : Int)) (by rw [hf]; rfl) ?_
        refine Jl.qn ?_
        refine Dh.Jq.segV zX ?_ zK
        refine Dh.JH.nil ?_
        refine Dh.JB.pv rfl trivial (fun _ => PR.qa rfl) ?_
        refine Dh.JB.nil<|Dh.JL.nil<|Jq.qt<|Jc.qs ?_
        refine Jc.block ?_
        refine Jc.qs<|Jc.qr<|Jl.pv (PR.qm rfl) ?_
        refine Jl.pv (PR.eql false rfl rfl (decide_eq_false (by omega))) ?_
        refine Jl.pv (PR.qa rfl)<|Jl.qn<|Jq.qt<|Jc.condF rfl<|Jc.qs<|Jc.qr<|Jl.pv (PR.qm rfl) ?_
        refine Jl.pv (PR.lss false rfl rfl (decide_eq_false (by omega))) ?_
        refine Jl.pv (PR.qa rfl)<|Jl.qn<|Jq.qt<|Jc.condF rfl<|Jc.qs<|Jc.qr<|Jl.pv (PR.qm rfl) ?_
        refine Jl.pv (PR.eql true rfl rfl (decide_eq_true (by omega))) ?_
        refine Jl.pv (PR.qa rfl)<|Jl.qn<|Jq.qt<|Jc.condT rfl<|Jc.qs ?_
        refine Jc.drawn [0, 1, 3, 7, 15, 31, 63, 31, 255, 511, 1023, 31, 2079, 6175, 14367, 32767, 65535] ([(16, false)], []) [⟨[(0, false), (1, false), (2, false), (3, false), (4, false), (5, false), (6, false), (7, false), (8, false), (9, false), (10, false), (11, false), (12, false), (13, false), (14, false)], [], 15⟩] tmx (by kernel_rfl) ?_
        refine Dh.JH.cons<|Dh.JB.pv rfl trivial (fun _ => PR.qm rfl) ?_
        refine Dh.JB.pv rfl trivial (fun _ => PR.idx1 1 rfl rfl tsl23 zM rfl rfl (by simp)) ?_
        refine Dh.JB.pv rfl trivial (fun _ => PR.loadR rfl tsh3 zM rfl) ?_
        refine Dh.JB.pv rfl trivial (fun _ => PR.lss true rfl rfl (decide_eq_true h11)) ?_
        refine Dh.JB.pv rfl trivial (fun _ => PR.qm rfl) ?_
        refine Dh.JB.pv rfl ⟨_, rfl, rfl⟩ (fun _ => PR.qf rfl tfl38_5) ?_
        refine Dh.JB.rd [.blk _ _ _] rfl ⟨_, rfl, rfl⟩ zT (fun _ => PR.load1 rfl tsh34 Has.here (by rfl)) ?_
        refine Dh.JB.pv rfl ⟨_, rfl, rfl⟩ (fun _ => PR.qm rfl) ?_
        refine Dh.JB.rd [.row _ _ _ _ _] rfl ⟨_, rfl, rfl⟩ zT (fun _ => PR.idxO i rfl rfl tsl34 Del.here (by decide) rfl hi) ?_
        refine Dh.JB.rd [.row _ _ _ _ _] rfl ⟨_, rfl, rfl⟩ zT (fun _ => PR.fieldAddrO rfl tfl72_4 Del.here (by omega)) ?_
        refine Dh.JB.rd [.row _ _ _ _ _] rfl ⟨_, rfl, rfl⟩ zT (fun _ => PR.loadO rfl tsh5 Del.here (kps_f hi 4 rfl)) ?_
        refine Dh.JB.pv rfl ⟨_, rfl, rfl⟩ (fun _ => PR.qm rfl) ?_
        refine Dh.JB.pv rfl ⟨_, rfl, rfl⟩ (fun _ => PR.idx1 1 rfl rfl tsl23 zM rfl rfl (by simp)) ?_
        refine Dh.JB.pv rfl ⟨_, rfl, rfl⟩ (fun _ => PR.loadR rfl tsh3 zM rfl) ?_
        refine Dh.JB.pv rfl ⟨_, rfl, rfl⟩ (fun _ => PR.conv ((UInt8.ofNat p.toNat).toNat : Int) rfl Tryz.underlying3 Tryz.underlying5 (by rw [IntKind.wrap_u8]; simp; omega)) ?_
        refine Dh.JB.nil<|Dh.JL.nil ?_
        refine Dh.JE.mk rfl (fun _ h => by cases h) (fun C7_15 => ?_)
        refine Jl.on rfl rfl ?_
        refine Jl.call (rlegal_ct b.kps[i].ph (UInt8.ofNat p.toNat)) en65 (by rfl) zT zF ?_
        rintro ⟨⟩
        refine Jl.as (.bool false) (congrArg Value.bool (hlg.symm.trans (by simpa using hl))) ?_
        refine Jl.qn ?_
        refine Dh.Jq.segV zX ?_ zK
        refine Dh.JH.nil ?_
        refine Dh.JB.pv rfl trivial (fun _ => PR.pickT rfl rfl) ?_
        refine Dh.JB.nil<|Dh.JL.nil<|Jq.qt<|Jc.condF rfl<|Jc.skip ?_
        refine Jq.blkN ?_
        refine Jq.qt<|Jc.qs<|Jc.qr ?_
        refine Jl.pv (PR.loadW rfl tsh38 zH (by rfl)) ?_
        refine Jl.storeW rfl tsh38 rfl (by rfl) (by first | exact Br.cs_one _ _ | simp [Value.oneCell', Br.cs, Kp.cs]) zS (by rfl) ?_
        refine Jl.qn<|Jq.qt<|Jc.ret ?_
        exact Jq.fin ((M, cM), (I, cI), (K, cK)) (.inl rfl) rfl (RetVs.cellA rfl zH tsh38 (by rfl) RetVs.nil) rfl zT zF
    · rw [if_neg (by rw [legal, decide_eq_false h11]; simp)]
      refine Ct.of _ Tryz.func42 Tryz.ntmps42 rfl rfl (fun X W => ?_)
      refine Jc.qs<|Jc.qr ?_
      refine Jl.box rfl (by rfl) ?_
      intro b3
      refine Jl.alloc tze38 ?_
      intro b6
      refine Jl.qn<|Jq.qt<|Jc.qs ?_
      refine Jc.drawn [0, 0, 2, 6, 15, 31] ([(5, false)], []) [⟨[(0, false), (1, false), (2, false), (3, false)], [], 4⟩] tmx (by kernel_rfl) ?_
      refine Dh.JH.cons ?_
      refine Dh.JB.rd [.blk _ _ _] rfl trivial zT (fun _ => PR.loadW rfl tsh38 Has.here (by rfl)) ?_
      refine Dh.JB.pv rfl trivial (fun _ => PR.qm rfl) ?_
      refine Dh.JB.pv rfl trivial (fun _ => PR.idx1 0 rfl rfl tsl23 zM rfl rfl (by simp)) ?_
      refine Dh.JB.pv rfl trivial (fun _ => PR.loadR rfl tsh3 zM rfl) ?_
      refine Dh.JB.nil<|Dh.JL.nil ?_
      refine Dh.JE.mk rfl (fun _ h => by cases h) (fun C1_4 => ?_)
      refine Jl.calll (fs := []) (cs := []) (rfind_ct b ((M, cM), (I, cI), (K, cK)) id (by omega)) en63 rfl (by rfl) (by rfl) zT (ls := [b.rM ((M, cM), (I, cI), (K, cK)), b.rI ((M, cM), (I, cI), (K, cK)), b.rK ((M, cM), (I, cI), (K, cK))]) zT zL zF ?_
      rintro ⟨⟩
      refine Jl.as (.int .i64 (i : Int)) (by rw [hf]; rfl) ?_
      refine Jl.qn ?_
      refine Dh.Jq.segV zX ?_ zK
      refine Dh.JH.nil ?_
      refine Dh.JB.pv rfl trivial (fun _ => PR.qa rfl) ?_
      refine Dh.JB.nil<|Dh.JL.nil<|Jq.qt<|Jc.qs ?_
      refine Jc.block ?_
      refine Jc.qs<|Jc.qr<|Jl.pv (PR.qm rfl) ?_
      refine Jl.pv (PR.eql false rfl rfl (decide_eq_false (by omega))) ?_
      refine Jl.pv (PR.qa rfl)<|Jl.qn<|Jq.qt<|Jc.condF rfl<|Jc.qs<|Jc.qr<|Jl.pv (PR.qm rfl) ?_
      refine Jl.pv (PR.lss false rfl rfl (decide_eq_false (by omega))) ?_
      refine Jl.pv (PR.qa rfl)<|Jl.qn<|Jq.qt<|Jc.condF rfl<|Jc.qs<|Jc.qr<|Jl.pv (PR.qm rfl) ?_
      refine Jl.pv (PR.eql true rfl rfl (decide_eq_true (by omega))) ?_
      refine Jl.pv (PR.qa rfl)<|Jl.qn<|Jq.qt<|Jc.condT rfl<|Jc.qs ?_
      refine Jc.drawn [0, 1, 3, 7, 15, 31, 63, 31, 255, 511, 1023, 31, 2079, 6175, 14367, 32767, 65535] ([(16, false)], []) [⟨[(0, false), (1, false), (2, false), (3, false), (4, false), (5, false), (6, false), (7, false), (8, false), (9, false), (10, false), (11, false), (12, false), (13, false), (14, false)], [], 15⟩] tmx (by kernel_rfl) ?_
      refine Dh.JH.cons<|Dh.JB.pv rfl trivial (fun _ => PR.qm rfl) ?_
      refine Dh.JB.pv rfl trivial (fun _ => PR.idx1 1 rfl rfl tsl23 zM rfl rfl (by simp)) ?_
      refine Dh.JB.pv rfl trivial (fun _ => PR.loadR rfl tsh3 zM rfl) ?_
      refine Dh.JB.pv rfl trivial (fun _ => PR.lss false rfl rfl (decide_eq_false h11)) ?_
      refine Dh.JB.pv rfl trivial (fun _ => PR.qm rfl)<|Dh.JB.off rfl ⟨_, rfl, .inr rfl⟩<|Dh.JB.off rfl ⟨_, rfl, .inr rfl⟩<|Dh.JB.off rfl ⟨_, rfl, .inr rfl⟩<|Dh.JB.off rfl ⟨_, rfl, .inr rfl⟩<|Dh.JB.off rfl ⟨_, rfl, .inr rfl⟩<|Dh.JB.off rfl ⟨_, rfl, .inr rfl⟩<|Dh.JB.off rfl ⟨_, rfl, .inr rfl⟩<|Dh.JB.off rfl ⟨_, rfl, .inr rfl⟩<|Dh.JB.off rfl ⟨_, rfl, .inr rfl⟩<|Dh.JB.off rfl ⟨_, rfl, .inr rfl⟩<|Dh.JB.nil<|Dh.JL.nil ?_
      refine Dh.JE.mk rfl (fun _ h => by cases h) (fun C7_15 => ?_)
      refine Jl.qo rfl rfl rfl<|Jl.qn ?_
      refine Dh.Jq.segV zX ?_ zK
      refine Dh.JH.nil ?_
      refine Dh.JB.pv rfl trivial (fun _ => PR.pickF rfl rfl) ?_
      refine Dh.JB.nil<|Dh.JL.nil<|Jq.qt<|Jc.condF rfl<|Jc.skip ?_
      refine Jq.blkN ?_
      refine Jq.qt<|Jc.qs<|Jc.qr ?_
      refine Jl.pv (PR.loadW rfl tsh38 zH (by rfl)) ?_
      refine Jl.storeW rfl tsh38 rfl (by rfl) (by first | exact Br.cs_one _ _ | simp [Value.oneCell', Br.cs, Kp.cs]) zS (by rfl) ?_
      refine Jl.qn<|Jq.qt<|Jc.ret ?_
      exact Jq.fin ((M, cM), (I, cI), (K, cK)) (.inl rfl) rfl (RetVs.cellA rfl zH tsh38 (by rfl) RetVs.nil) rfl zT zF
theorem rfail_ct (b : Br) (z : BrA) (k : UInt8) (hk : k.toNat = 5) (L : Option Addr) (cL : Nat) (n : Int) : Ct Tryz.prog 43 [b.v z, .int .u8 k.toNat, .slice L 1 cL] [] [.rd L (i64s [n])] (fun _ : Unit => (b.fail).v z) (fun _ => []) (fun _ => []) := by
 refine Ct.of _ Tryz.func43 Tryz.ntmps43 rfl rfl (fun X W => ?_)
 refine Jc.qs<|Jc.qr ?_
 refine Jl.box rfl (by rfl) ?_
 intro b3
 refine Jl.alloc tze38 ?_
 intro b6
 refine Jl.qn<|Jq.qt<|Jc.qs<|Jc.qr<|Jl.pv (PR.qf rfl tfl38_6)<|Jl.pv (PR.qf rfl tfl36_0) ?_
 refine Jl.pv (PR.load1 rfl tsh5 zH (by rfl)) ?_
 refine Jl.pv (PR.eql (a := (b.rf.st.toNat : Int)) (b := 1) b.act rfl rfl (by rw [Br.act, decide_eq_decide]; omega)) ?_
 refine Jl.pv (PR.qa rfl)<|Jl.qn<|Jq.qt<|Jc.qs<|Jc.qs<|Jc.qr<|Jl.pv (PR.qm rfl) ?_
 refine Jl.pv (PR.eql false rfl rfl (decide_eq_false (by omega))) ?_
 refine Jl.qn<|Jq.qt<|Jc.condF rfl<|Jc.skip<|Jq.qt<|Jc.qs<|Jc.qs<|Jc.qr<|Jl.pv (PR.qm rfl) ?_
 refine Jl.pv (PR.not rfl) ?_
 refine Jl.qn<|Jq.qt ?_
 refine Jc.cond rfl (fun h0 => ?_) (fun h0 => ?_)
 · try replace h0 := zV h0
   replace h0 : b.act = false := by simpa using h0
   refine Jc.qs<|Jc.qr ?_
   refine Jl.pv (PR.loadW rfl tsh38 zH (by rfl)) ?_
   refine Jl.storeW rfl tsh38 rfl (by rfl) (by first | exact Br.cs_one _ _ | simp [Value.oneCell', Rf.cs, Br.cs]) zS (by rfl) ?_
   refine Jl.qn<|Jq.qt<|Jc.ret<|Jq.thenR ?_
   exact Jq.fin () (.inl rfl) rfl (RetVs.cellA rfl zH tsh38 (by rfl) RetVs.nil) (by rw [show b.fail = b by simp [Br.fail, h0]]; rfl) zT zF
 try replace h0 := zW h0
 replace h0 : b.act = true := by simpa using h0
 refine Jc.skip<|Jq.qt<|Jc.qs<|Jc.qs<|Jc.qr<|Jl.pv (PR.qm rfl)<|Jl.qn<|Jq.qt ?_
 refine Jc.block ?_
 refine Jc.qs<|Jc.qr ?_
 refine Jl.pv (PR.eql true rfl rfl (decide_eq_true (by omega))) ?_
 refine Jl.pv (PR.qa rfl)<|Jl.qn<|Jq.qt<|Jc.condT rfl<|Jc.qs<|Jc.qr<|Jl.pv (PR.qf rfl tfl38_6)<|Jl.pv (PR.qf rfl tfl36_6) ?_
 refine Jl.pv (PR.load1 rfl tsh3 zH (by rfl)) ?_
 refine Jl.pv (PR.add _ rfl rfl rfl) ?_
 refine Jl.pv (PR.qf rfl tfl38_6)<|Jl.pv (PR.qf rfl tfl36_6) ?_
 refine Jl.store1 rfl tsh3 rfl (by rfl) zS (by rfl) ?_
 refine Jl.qn<|Jq.qt<|Jc.qs<|Jc.qr<|Jl.pv (PR.qf rfl tfl38_6)<|Jl.pv (PR.qf rfl tfl36_6) ?_
 refine Jl.pv (PR.load1 rfl tsh3 zH (by rfl)) ?_
 refine Jl.pv (PR.qf rfl tfl38_3)<|Jl.pv (PR.qf rfl tfl32_10) ?_
 refine Jl.pv (PR.load1 rfl tsh3 zH (by rfl)) ?_
 refine Jl.pv (PR.geq _ rfl rfl rfl) ?_
 refine Jl.qn<|Jq.qt ?_
 refine Jc.cond rfl (fun h1 => ?_) (fun h1 => ?_)
 · try replace h1 := zV h1
   refine Jc.qs<|Jc.qr<|Jl.pv (PR.qf rfl tfl38_6)<|Jl.pv (PR.qf rfl tfl36_1) ?_
   refine Jl.pv (PR.load1 rfl tsh3 zH (by rfl)) ?_
   refine Jl.pv (PR.qf rfl tfl38_6)<|Jl.pv (PR.qf rfl tfl36_2) ?_
   refine Jl.store1 rfl tsh3 rfl (by rfl) zS (by rfl) ?_
   refine Jl.qn<|Jq.qt<|Jc.qr<|Jl.pv (PR.qf rfl tfl38_6)<|Jl.pv (PR.qf rfl tfl36_6) ?_
   refine Jl.store1 rfl tsh3 rfl (by rfl) zS (by rfl) ?_
   refine Jl.qn ?_
   refine Jq.blkN ?_
   refine Jq.qt<|Jc.qs<|Jc.qr ?_
   refine Jl.pv (PR.loadW rfl tsh38 zH (by rfl)) ?_
   refine Jl.storeW rfl tsh38 rfl (by rfl) (by first | exact Br.cs_one _ _ | simp [Value.oneCell', Rf.cs, Br.cs]) zS (by rfl) ?_
   refine Jl.qn<|Jq.qt<|Jc.ret ?_
   exact Jq.fin () (.inl rfl) rfl (RetVs.cellA rfl zH tsh38 (by rfl) RetVs.nil) (by rw [show b.fail = { b with rf := { b.rf with ta := b.rf.fr, fa := 0 } } by rw [Br.fail, if_pos h0, if_pos h1]]; rfl) zT zF
 try replace h1 := zW h1
 refine Jc.skip ?_
 refine Jq.blkN ?_
 refine Jq.qt<|Jc.qs<|Jc.qr ?_
 refine Jl.pv (PR.loadW rfl tsh38 zH (by rfl)) ?_
 refine Jl.storeW rfl tsh38 rfl (by rfl) (by first | exact Br.cs_one _ _ | simp [Value.oneCell', Rf.cs, Br.cs]) zS (by rfl) ?_
 refine Jl.qn<|Jq.qt<|Jc.ret ?_
 exact Jq.fin () (.inl rfl) rfl (RetVs.cellA rfl zH tsh38 (by rfl) RetVs.nil) (by rw [show b.fail = { b with rf := { b.rf with fa := IntKind.i64.wrap (b.rf.fa + 1) } } by rw [Br.fail, if_pos h0, if_neg h1]]; rfl) zT zF
theorem rpause_ct (b : Br) (z : BrA) (k : UInt8) (hk : k.toNat = 14) (L : Option Addr) (cL : Nat) (now : Int) : Ct Tryz.prog 43 [b.v z, .int .u8 k.toNat, .slice L 1 cL] [] [.rd L (i64s [now])] (fun _ : Unit => (b.pause now).v z) (fun _ => []) (fun _ => []) := by
 refine Ct.of _ Tryz.func43 Tryz.ntmps43 rfl rfl (fun X W => ?_)
 refine Jc.qs<|Jc.qr ?_
 refine Jl.box rfl (by rfl) ?_
 intro b3
 refine Jl.alloc tze38 ?_
 intro b6
 refine Jl.qn<|Jq.qt<|Jc.qs<|Jc.qr<|Jl.pv (PR.qf rfl tfl38_6)<|Jl.pv (PR.qf rfl tfl36_0) ?_
 refine Jl.pv (PR.load1 rfl tsh5 zH (by rfl)) ?_
 refine Jl.pv (PR.eql (a := (b.rf.st.toNat : Int)) (b := 1) b.act rfl rfl (by rw [Br.act, decide_eq_decide]; omega)) ?_
 refine Jl.pv (PR.qa rfl)<|Jl.qn<|Jq.qt<|Jc.qs<|Jc.qs<|Jc.qr<|Jl.pv (PR.qm rfl) ?_
 refine Jl.pv (PR.eql false rfl rfl (decide_eq_false (by omega))) ?_
 refine Jl.qn<|Jq.qt<|Jc.condF rfl<|Jc.skip<|Jq.qt<|Jc.qs<|Jc.qs<|Jc.qr<|Jl.pv (PR.qm rfl) ?_
 refine Jl.pv (PR.not rfl) ?_
 refine Jl.qn<|Jq.qt ?_
 refine Jc.cond rfl (fun h0 => ?_) (fun h0 => ?_)
 · try replace h0 := zV h0
   replace h0 : b.act = false := by simpa using h0
   refine Jc.qs<|Jc.qr ?_
   refine Jl.pv (PR.loadW rfl tsh38 zH (by rfl)) ?_
   refine Jl.storeW rfl tsh38 rfl (by rfl) (by first | exact Br.cs_one _ _ | simp [Value.oneCell', Rf.cs, Br.cs]) zS (by rfl) ?_
   refine Jl.qn<|Jq.qt<|Jc.ret<|Jq.thenR ?_
   exact Jq.fin () (.inl rfl) rfl (RetVs.cellA rfl zH tsh38 (by rfl) RetVs.nil) (by rw [show b.pause now = b by simp [Br.pause, h0]]; rfl) zT zF
 try replace h0 := zW h0
 replace h0 : b.act = true := by simpa using h0
 refine Jc.skip<|Jq.qt<|Jc.qs<|Jc.qs<|Jc.qr<|Jl.pv (PR.qm rfl)<|Jl.qn<|Jq.qt ?_
 refine Jc.block ?_
 refine Jc.qs<|Jc.qr ?_
 refine Jl.pv (PR.eql false rfl rfl (decide_eq_false (by omega))) ?_
 refine Jl.pv (PR.qa rfl)<|Jl.qn<|Jq.qt<|Jc.condF rfl<|Jc.qs<|Jc.qr ?_
 refine Jl.pv (PR.eql false rfl rfl (decide_eq_false (by omega))) ?_
 refine Jl.pv (PR.qa rfl)<|Jl.qn<|Jq.qt<|Jc.condF rfl<|Jc.qs<|Jc.qr ?_
 refine Jl.pv (PR.eql false rfl rfl (decide_eq_false (by omega))) ?_
 refine Jl.pv (PR.qa rfl)<|Jl.qn<|Jq.qt<|Jc.condF rfl<|Jc.qs<|Jc.qr ?_
 refine Jl.pv (PR.eql true rfl rfl (decide_eq_true (by omega))) ?_
 refine Jl.pv (PR.qa rfl)<|Jl.qn<|Jq.qt<|Jc.condT rfl<|Jc.qs<|Jc.qr<|Jl.pv (PR.qf rfl tfl38_6)<|Jl.pv (PR.qf rfl tfl36_4) ?_
 refine Jl.pv (PR.load1 rfl tsh4 zH (by rfl)) ?_
 refine Jl.pv (PR.not rfl) ?_
 refine Jl.qn<|Jq.qt ?_
 refine Jc.cond rfl (fun h1 => ?_) (fun h1 => ?_)
 · try replace h1 := zV h1
   refine Jc.qs<|Jc.qr<|Jl.pv (PR.qf rfl tfl38_6)<|Jl.pv (PR.qf rfl tfl36_4) ?_
   refine Jl.store1 rfl tsh4 rfl (by rfl) zS (by rfl) ?_
   refine Jl.qn<|Jq.qt<|Jc.qr<|Jl.pv (PR.qm rfl) ?_
   refine Jl.pv (PR.idx1 0 rfl rfl tsl23 zM rfl rfl (by simp)) ?_
   refine Jl.pv (PR.loadR rfl tsh3 zM rfl) ?_
   refine Jl.pv (PR.qf rfl tfl38_6)<|Jl.pv (PR.qf rfl tfl36_5) ?_
   refine Jl.store1 rfl tsh3 rfl (by rfl) zS (by rfl) ?_
   refine Jl.qn ?_
   refine Jq.blkN ?_
   refine Jq.qt<|Jc.qs<|Jc.qr ?_
   refine Jl.pv (PR.loadW rfl tsh38 zH (by rfl)) ?_
   refine Jl.storeW rfl tsh38 rfl (by rfl) (by first | exact Br.cs_one _ _ | simp [Value.oneCell', Rf.cs, Br.cs]) zS (by rfl) ?_
   refine Jl.qn<|Jq.qt<|Jc.ret ?_
   exact Jq.fin () (.inl rfl) rfl (RetVs.cellA rfl zH tsh38 (by rfl) RetVs.nil) (by rw [show b.pause now = { b with rf := { b.rf with pa := true, si := now } } by rw [Br.pause, if_pos h0, if_neg (by simpa using h1)]]; rfl) zT zF
 try replace h1 := zW h1
 refine Jc.skip ?_
 refine Jq.blkN ?_
 refine Jq.qt<|Jc.qs<|Jc.qr ?_
 refine Jl.pv (PR.loadW rfl tsh38 zH (by rfl)) ?_
 refine Jl.storeW rfl tsh38 rfl (by rfl) (by first | exact Br.cs_one _ _ | simp [Value.oneCell', Rf.cs, Br.cs]) zS (by rfl) ?_
 refine Jl.qn<|Jq.qt<|Jc.ret ?_
 exact Jq.fin () (.inl rfl) rfl (RetVs.cellA rfl zH tsh38 (by rfl) RetVs.nil) (by rw [show b.pause now = b by rw [Br.pause, if_pos h0, if_pos (by simpa using h1)]]; rfl) zT zF
theorem rdone_ct (b : Br) (z : BrA) (k : UInt8) (hk : k.toNat = 16) (L : Option Addr) (cL : Nat) : Ct Tryz.prog 43 [b.v z, .int .u8 k.toNat, .slice L 0 cL] [] [] (fun _ : Unit => (b.done1).v z) (fun _ => []) (fun _ => []) := by
 refine Ct.of _ Tryz.func43 Tryz.ntmps43 rfl rfl (fun X W => ?_)
 refine Jc.qs<|Jc.qr ?_
 refine Jl.box rfl (by rfl) ?_
 intro b3
 refine Jl.alloc tze38 ?_
 intro b6
 refine Jl.qn<|Jq.qt<|Jc.qs<|Jc.qr<|Jl.pv (PR.qf rfl tfl38_6)<|Jl.pv (PR.qf rfl tfl36_0) ?_
 refine Jl.pv (PR.load1 rfl tsh5 zH (by rfl)) ?_
 refine Jl.pv (PR.eql (a := (b.rf.st.toNat : Int)) (b := 1) b.act rfl rfl (by rw [Br.act, decide_eq_decide]; omega)) ?_
 refine Jl.pv (PR.qa rfl)<|Jl.qn<|Jq.qt<|Jc.qs<|Jc.qs<|Jc.qr<|Jl.pv (PR.qm rfl) ?_
 refine Jl.pv (PR.eql false rfl rfl (decide_eq_false (by omega))) ?_
 refine Jl.qn<|Jq.qt<|Jc.condF rfl<|Jc.skip<|Jq.qt<|Jc.qs<|Jc.qs<|Jc.qr<|Jl.pv (PR.qm rfl) ?_
 refine Jl.pv (PR.not rfl) ?_
 refine Jl.qn<|Jq.qt ?_
 refine Jc.cond rfl (fun h0 => ?_) (fun h0 => ?_)
 · try replace h0 := zV h0
   replace h0 : b.act = false := by simpa using h0
   refine Jc.qs<|Jc.qr ?_
   refine Jl.pv (PR.loadW rfl tsh38 zH (by rfl)) ?_
   refine Jl.storeW rfl tsh38 rfl (by rfl) (by first | exact Br.cs_one _ _ | simp [Value.oneCell', Rf.cs, Br.cs]) zS (by rfl) ?_
   refine Jl.qn<|Jq.qt<|Jc.ret<|Jq.thenR ?_
   exact Jq.fin () (.inl rfl) rfl (RetVs.cellA rfl zH tsh38 (by rfl) RetVs.nil) (by rw [show b.done1 = b by simp [Br.done1, h0]]; rfl) zT zF
 try replace h0 := zW h0
 replace h0 : b.act = true := by simpa using h0
 refine Jc.skip<|Jq.qt<|Jc.qs<|Jc.qs<|Jc.qr<|Jl.pv (PR.qm rfl)<|Jl.qn<|Jq.qt ?_
 refine Jc.block ?_
 refine Jc.qs<|Jc.qr ?_
 refine Jl.pv (PR.eql false rfl rfl (decide_eq_false (by omega))) ?_
 refine Jl.pv (PR.qa rfl)<|Jl.qn<|Jq.qt<|Jc.condF rfl<|Jc.qs<|Jc.qr ?_
 refine Jl.pv (PR.eql false rfl rfl (decide_eq_false (by omega))) ?_
 refine Jl.pv (PR.qa rfl)<|Jl.qn<|Jq.qt<|Jc.condF rfl<|Jc.qs<|Jc.qr ?_
 refine Jl.pv (PR.eql false rfl rfl (decide_eq_false (by omega))) ?_
 refine Jl.pv (PR.qa rfl)<|Jl.qn<|Jq.qt<|Jc.condF rfl<|Jc.qs<|Jc.qr ?_
 refine Jl.pv (PR.eql false rfl rfl (decide_eq_false (by omega))) ?_
 refine Jl.pv (PR.qa rfl)<|Jl.qn<|Jq.qt<|Jc.condF rfl<|Jc.qs<|Jc.qr ?_
 refine Jl.pv (PR.eql false rfl rfl (decide_eq_false (by omega))) ?_
 refine Jl.pv (PR.qa rfl)<|Jl.qn<|Jq.qt<|Jc.condF rfl<|Jc.qs<|Jc.qr ?_
 refine Jl.pv (PR.eql true rfl rfl (decide_eq_true (by omega))) ?_
 refine Jl.pv (PR.qa rfl)<|Jl.qn<|Jq.qt<|Jc.condT rfl<|Jc.qs<|Jc.qr<|Jl.pv (PR.qf rfl tfl38_6)<|Jl.pv (PR.qf rfl tfl36_0) ?_
 refine Jl.store1 rfl tsh5 rfl (by rfl) zS (by rfl) ?_
 refine Jl.qn<|Jq.qt<|Jc.qs<|Jc.qr<|Jl.pv (PR.qf rfl tfl38_6)<|Jl.pv (PR.qf rfl tfl36_4) ?_
 refine Jl.store1 rfl tsh4 rfl (by rfl) zS (by rfl) ?_
 refine Jl.qn<|Jq.qt<|Jc.qr<|Jl.pv (PR.qf rfl tfl38_6)<|Jl.pv (PR.qf rfl tfl36_2) ?_
 refine Jl.pv (PR.load1 rfl tsh3 zH (by rfl)) ?_
 refine Jl.pv (PR.qf rfl tfl38_3)<|Jl.pv (PR.qf rfl tfl32_12) ?_
 refine Jl.store1 rfl tsh3 rfl (by rfl) zS (by rfl) ?_
 refine Jl.qn ?_
 refine Jq.blkN ?_
 refine Jq.qt<|Jc.qs<|Jc.qr ?_
 refine Jl.pv (PR.loadW rfl tsh38 zH (by rfl)) ?_
 refine Jl.storeW rfl tsh38 rfl (by rfl) (by first | exact Br.cs_one _ _ | simp [Value.oneCell', Rf.cs, Br.cs]) zS (by rfl) ?_
 refine Jl.qn<|Jq.qt<|Jc.ret ?_
 exact Jq.fin () (.inl rfl) rfl (RetVs.cellA rfl zH tsh38 (by rfl) RetVs.nil) (by rw [show b.done1 = { b with rf := { b.rf with st := 2, pa := false }, cf := { b.cf with ve := b.rf.ta } } by simp [Br.done1, h0]]; rfl) zT zF
end Go.Proofs.YtakbgccddokbbaaGreatDoor
