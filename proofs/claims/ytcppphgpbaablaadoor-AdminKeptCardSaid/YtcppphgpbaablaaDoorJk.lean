/-
The rules of regions that draw their order, in a canonical order.
Conditions: none; no program in sight.
-/
import Derived.Test.YtcppphgpbaablaaDoorJh
namespace Go.Proofs.YtcppphgpbaablaaDoor
set_option linter.unusedVariables false
open Go.RowKit
namespace Dh
theorem FExt.refl {Φ : List Fact} : FExt Φ Φ := ⟨[], rfl⟩
theorem FExt.cons {φ : Fact} {Φ' Φ : List Fact} (h : FExt Φ' Φ) : FExt (φ :: Φ') Φ := by obtain ⟨Φn, rfl⟩ := h; exact ⟨φ :: Φn, rfl⟩
theorem FExt.app {Φ' Φ Ψ : List Fact} (h : FExt Φ' Φ) : FExt (Ψ ++ Φ') Φ := by obtain ⟨Φn, rfl⟩ := h; exact ⟨Ψ ++ Φn, by rw [List.append_assoc]⟩
theorem FMore.refl {Φ : List Fact} : FMore Φ Φ := ⟨[], rfl, fun _ _ _ φ h => by simp at h⟩
theorem FMore.one {φ ψ : Fact} {Φ : List Fact} (hm : Mem φ Φ) (h : ∀ X W, φ.p X W → ψ.p X W) : FMore (ψ :: Φ) Φ := ⟨[ψ], rfl, fun X W hf x hx => by
  obtain rfl : x = ψ := by simpa using hx
  exact h X W (hf _ hm.mem)⟩
theorem KeepL.nil {ms : List Nat} {e : Nat} {R' : List Res} : KeepL ms e R' [] [] := rfl
theorem KeepL.anc {ms : List Nat} {e i : Nat} {R' Ri : List Res} {acc acc' : List (Nat × List Res)} (h : A ms e i = true) (k : KeepL ms e R' acc acc') : KeepL ms e R' ((i, Ri) :: acc) acc' := .inl ⟨h, k⟩
theorem KeepL.keep {ms : List Nat} {e i : Nat} {R' Ri R0 : List Res} {acc acc' : List (Nat × List Res)} (h : Take Ri R' R0) (k : KeepL ms e R' acc acc') : KeepL ms e R' ((i, Ri) :: acc) ((i, Ri) :: acc') := .inr ⟨_, rfl, ⟨_, h⟩, k⟩
/-- A guard that says yes. -/
def OnG (ops : Array Oper) (env : List (Nat × Value)) : Option (Nat × Bool) → Prop
  | none => True
  | some (j, want) => ∃ t, (ops[j]?).bind (·.dst) = some t ∧ elook t env = some (.bool want)
/-- A guard that says no, or was not asked. -/
def OffG (ops : Array Oper) (env : List (Nat × Value)) : Option (Nat × Bool) → Prop
  | none => False
  | some (j, want) => ∃ t, (ops[j]?).bind (·.dst) = some t ∧ (elook t env = some undef ∨ elook t env = some (.bool (!want)))
theorem onG {ops : Array Oper} {env : List (Nat × Value)} {n : Nat × List Nat} {o : Oper} {a : Act} (h : OnG ops env o.guard) (he : Env n env a) : Region.wanted o (yielded ops a.tmps) = true := by
  unfold Region.wanted
  cases hg : o.guard with
  | none => rfl
  | some gw =>
    obtain ⟨g, want⟩ := gw
    rw [hg] at h
    obtain ⟨t, h1, h2⟩ := h
    have := he.at_ t _ h2
    simp [yielded, h1, this]
theorem offG {ops : Array Oper} {env : List (Nat × Value)} {n : Nat × List Nat} {o : Oper} {a : Act} (h : OffG ops env o.guard) (he : Env n env a) : Region.wanted o (yielded ops a.tmps) = false := by
  unfold Region.wanted
  cases hg : o.guard with
  | none => rw [hg] at h; exact h.elim
  | some gw =>
    obtain ⟨g, want⟩ := gw
    rw [hg] at h
    obtain ⟨t, h1, h2 | h2⟩ := h
    · have := he.at_ t _ h2
      simp [yielded, h1, this, undef]
    · have := he.at_ t _ h2
      cases want <;> simp [yielded, h1, this]
section
variable {P : Program} {r : Option Nat} {C : Cx} {n : Nat × List Nat} {ops : Array Oper} {Q : Exit → Act → World → Prop} {ms : List Nat} {env env' : List (Nat × Value)} {R R0 R' : List Res} {Φ Φ' : List Fact} {ps : List (Nat × Bool)} {ls : List Nat} {e : Nat} {segs : List Sg} {fin : List (Nat × Bool) × List Nat} {es : List (Nat × Al)} {acc acc' : List (Nat × List Res)}
  {k : List (Nat × Value) → List (Nat × Al) → List (Nat × List Res) → List Fact → Prop} {kl : List (Nat × Value) → List Res → Prop} {i d : Nat} {op : Op} {T T' : TypeId} {pos : String} {af : Array Edge} {v : Value} {g : Option (Nat × Bool)} {x y : Operand}
theorem JH.cons (h : JB P n ops R (fun env es acc Φ => JL ops es (JE P r C n ops ms e Φ acc (fun env R Φ acc => JH P r C n ops Q ms fin segs env R Φ es acc)) ls env R) ps env es acc Φ) : JH P r C n ops Q ms fin (⟨ps, ls, e⟩ :: segs) env R Φ es acc := h
theorem JH.nil (h : JB P n ops R (fun env es _ Φ => JL ops es (fun env R => Jq C n Q .normal env R Φ) ls env R) ps env es acc Φ) : JH P r C n ops Q ms (ps, ls) [] env R Φ es acc := h
theorem JB.nil (h : k env es acc Φ) : JB P n ops R k [] env es acc Φ := h
theorem JL.nil (h : kl env R) : JL ops es kl [] env R := h
theorem pure_of {Ri : List Res} (ho : ops[i]? = some ⟨some d, op, T, pos, af, g⟩) (hg : OnG ops env g) (h : ∀ C', PR P C' n env Ri Φ op T v) (hd : Nat.blt d n.1 = true) : Pure P n ops i env Ri Φ v := by
  refine ⟨_, d, ho, rfl, Nat.le_of_ble_eq_true hd, fun C' a W he hs => ?_⟩
  rw [if_pos (onG hg he)]
  have hrun := h C' a W he hs (some d) pos af g
  exact ⟨fun c e => by simp only at e; subst e; exact defer_run hrun, hrun⟩
/-- What touches nothing that may be written. -/
theorem JB.pv (ho : ops[i]? = some ⟨some d, op, T, pos, af, g⟩) (hg : OnG ops env g) (h : ∀ C', PR P C' n env [] Φ op T v) (k' : JB P n ops R k ps ((d, v) :: env) es acc Φ) (hd : Nat.blt d n.1 = true := by rfl) : JB P n ops R k ((i, false) :: ps) env es acc Φ :=
  ⟨v, d, [], acc, Φ, by rw [ho]; rfl, pure_of ho hg h hd, .inl ⟨rfl, rfl⟩, FMore.refl, k'⟩
/-- What reads a block that may be written. -/
theorem JB.rd (Ri : List Res) (ho : ops[i]? = some ⟨some d, op, T, pos, af, g⟩) (hg : OnG ops env g) (ht : Take Ri R R0) (h : ∀ C', PR P C' n env Ri Φ op T v) (k' : JB P n ops R k ps ((d, v) :: env) es ((i, Ri) :: acc) Φ) (hd : Nat.blt d n.1 = true := by rfl) : JB P n ops R k ((i, false) :: ps) env es acc Φ :=
  ⟨v, d, Ri, _, Φ, by rw [ho]; rfl, pure_of ho hg h hd, .inr ⟨rfl, _, ht⟩, FMore.refl, k'⟩
theorem JB.off (ho : ops[i]? = some ⟨some d, op, T, pos, af, g⟩) (hg : OffG ops env g) (k' : JB P n ops R k ps ((d, undef) :: env) es acc Φ) (hd : Nat.blt d n.1 = true := by rfl) : JB P n ops R k ((i, false) :: ps) env es acc Φ :=
  ⟨undef, d, [], acc, Φ, by rw [ho]; rfl, ⟨_, d, ho, rfl, Nat.le_of_ble_eq_true hd, fun C' a W he hs => by rw [if_neg (by rw [offG hg he]; simp)]⟩, .inl ⟨rfl, rfl⟩, FMore.refl, k'⟩
theorem JB.bsplit {b : Bool} (h1 : b = true → JB P n ops R k ps ((d, .bool true) :: env) es acc Φ) (h2 : b = false → JB P n ops R k ps ((d, .bool false) :: env) es acc Φ) : JB P n ops R k ps ((d, .bool b) :: env) es acc Φ := by
  cases b
  · exact h2 rfl
  · exact h1 rfl
theorem JB.as {u : Value} (u' : Value) (h : u = u') (k' : JB P n ops R k ps ((d, u') :: env) es acc Φ) : JB P n ops R k ps ((d, u) :: env) es acc Φ := by subst h; exact k'
theorem slice_run {A : Option Addr} {len cap s : Nat} {et : TypeId} {lo hi : Option Operand} {l h : Nat} {a : Act} {W : World} {o : Oper} (ho : o.op = .slice T' x lo hi none) (he : Env n env a)
    (hx : opv env x = some (.slice A len cap)) (hT : tslice P T' = some (et, s))
    (hlo : (match lo with | none => some (Value.int .i64 0) | some o => opv env o) = some (.int .i64 l)) (hhi : (match hi with | none => some (Value.int .i64 len) | some o => opv env o) = some (.int .i64 h))
    (h1 : l ≤ h) (h2 : h ≤ len) (h3 : len ≤ cap) : (execOp a.eval o).run P W = .ok (.value (.slice (if cap = l then A else A.map (·.add (l * s))) (h - l) (cap - l))) W := by
  obtain ⟨hu, inf, hi', hk⟩ := tslice_spec hT
  have e1 : (Instr.sliceBounds true len cap (lo.map a.eval) (hi.map a.eval) none).run P W = .ok (l, h, cap) W := by
    have h5 : (0 : Int) ≤ h ∧ (h : Int) ≤ cap := by omega
    have h6 : (0 : Int) ≤ l ∧ (l : Int) ≤ h := by omega
    have h5' : h ≤ cap := by omega
    cases lo with
    | none =>
      have hl0 : l = 0 := by simp at hlo; omega
      subst hl0
      cases hi with
      | none =>
        have : h = len := by simp at hhi; omega
        subst this
        simp [Instr.sliceBounds]
      | some o => simp [Instr.sliceBounds, he.eval hhi, Instr.sliceBound, asIntOf, h5']
    | some o' =>
      cases hi with
      | none =>
        have : h = len := by simp at hhi; omega
        subst this
        simp [Instr.sliceBounds, he.eval hlo, Instr.sliceBound, asIntOf, h1]
      | some o => simp [Instr.sliceBounds, he.eval hhi, he.eval hlo, Instr.sliceBound, asIntOf, h5', h1]
  simp [execOp, ho, he.eval hx, Instr.sliceAt, Instr.slice, run_underlying hu, e1, sizeOf, typeInfo, hi', hk]
theorem slice_rd {A : Option Addr} {len cap s l h : Nat} {xs : List Value} (h1 : l ≤ h) (h2 : h ≤ len) (h3 : len ≤ cap) (X : Nat → Prop) (W : World) (hp : (Fact.rd A xs).p X W) :
    (Fact.rd (if cap = l then A else A.map (·.add (l * s))) ((xs.drop (l * s)).take ((h - l) * s))).p X W := by
  intro j u hu'
  have hj : j < (h - l) * s := by
    have := (List.getElem?_eq_some_iff.1 hu').1
    simp at this
    omega
  rw [List.getElem?_take_of_lt hj, List.getElem?_drop] at hu'
  obtain ⟨ad, rfl, q1, q2, q3⟩ := hp (l * s + j) u hu'
  have hne : cap ≠ l := by
    intro e
    have : h - l = 0 := by omega
    rw [this] at hj; simp at hj
  rw [if_neg hne]
  exact ⟨ad.add (l * s), rfl, by rw [add_block]; exact q1, by rw [add_block]; exact q2, by rw [add_add]; exact q3⟩
/-- A fact that follows. -/
theorem JB.slice {A : Option Addr} {len cap s : Nat} {et : TypeId} {xs : List Value} {lo hi : Option Operand} (l h m : Nat) (ys : List Value) (ho : ops[i]? = some ⟨some d, .slice T' x lo hi none, T, pos, af, g⟩) (hg : OnG ops env g)
    (hx : opv env x = some (.slice A len cap)) (hT : tslice P T' = some (et, s))
    (hlo : (match lo with | none => some (Value.int .i64 0) | some o => opv env o) = some (.int .i64 l)) (hhi : (match hi with | none => some (Value.int .i64 len) | some o => opv env o) = some (.int .i64 h))
    (hm : Mem (.rd A xs) Φ) (h1 : l ≤ h) (h2 : h ≤ len) (h3 : len ≤ cap) (hme : h - l = m) (hys : (xs.drop (l * s)).take (m * s) = ys)
    (k' : ∀ A' c', c' = cap - l → JB P n ops R k ps ((d, .slice A' m c') :: env) es acc (.rd A' ys :: Φ)) (hd : Nat.blt d n.1 = true := by rfl) : JB P n ops R k ((i, false) :: ps) env es acc Φ := by
  subst hme hys
  exact ⟨_, d, [], acc, _, by rw [ho]; rfl, ⟨_, d, ho, rfl, Nat.le_of_ble_eq_true hd, fun C' a W he hs => by
    rw [if_pos (onG hg he)]
    exact ⟨by simp, slice_run (n := n) rfl he hx hT hlo hhi h1 h2 h3⟩⟩, .inl ⟨rfl, rfl⟩, FMore.one hm (slice_rd (len := len) h1 h2 h3), k' _ _ rfl⟩
theorem JB.alloc {cs : List Value} (ho : ops[i]? = some ⟨some d, .alloc T', T, pos, af, g⟩) (hg : OnG ops env g) (hz : tzero P T' = some cs) (k' : JB P n ops R k ps env ((i, none, T', cs) :: es) acc Φ) (hd : Nat.blt d n.1 = true := by rfl) : JB P n ops R k ((i, true) :: ps) env es acc Φ :=
  ⟨(none, T', cs), ⟨_, d, ho, rfl, Nat.le_of_ble_eq_true hd, by simp, fun a W he => ⟨onG hg he, by
    obtain ⟨z, hz1, hz2⟩ := tzero_spec (w := W) hz
    simp [execOp, Instr.alloc, hz1, newVar, newRow, hz2, bval]⟩⟩, k'⟩
theorem JB.box {cs : List Value} (ho : ops[i]? = some ⟨some d, .box T' x, T, pos, af, g⟩) (hg : OnG ops env g) (hx : opv env x = some v) (hc : v.cells = cs.toArray) (k' : JB P n ops R k ps env ((i, none, T', cs) :: es) acc Φ) (hd : Nat.blt d n.1 = true := by rfl) : JB P n ops R k ((i, true) :: ps) env es acc Φ :=
  ⟨(none, T', cs), ⟨_, d, ho, rfl, Nat.le_of_ble_eq_true hd, by simp, fun a W he => ⟨onG hg he, by
    simp [execOp, he.eval hx, Instr.box, newVar, newRow, hc, bval]⟩⟩, k'⟩
theorem JB.buildSlice {m : Nat} {qs : Array (Nat × Operand)} {vs cs zs : List Value} {et : TypeId} {s : Nat} (ho : ops[i]? = some ⟨some d, .buildSlice T' m qs, T, pos, af, g⟩) (hg : OnG ops env g)
    (hv : opvs env (qs.toList.map (·.2)) = some vs) (hT : tslice P T' = some (et, s)) (hz : zrow P T' m = some zs)
    (hm : Nat.ble (m * s) 16777216 = true) (hf : fillL zs ((qs.toList.map fun p => (p.1 * s, s)).zip vs) = some cs) (k' : JB P n ops R k ps env ((i, some m, et, cs) :: es) acc Φ) (hd : Nat.blt d n.1 = true := by rfl) : JB P n ops R k ((i, true) :: ps) env es acc Φ :=
  ⟨(some m, et, cs), ⟨_, d, ho, rfl, Nat.le_of_ble_eq_true hd, by simp, fun a W he => ⟨onG hg he, by
    have e1 : qs.map (fun (i, x) => (i, a.eval x)) = ((qs.toList.map (·.1)).zip vs).toArray := by
      apply Array.toList_inj.1
      simp only [Array.toList_map, ← opvs_eval he hv]
      induction qs.toList with
      | nil => rfl
      | cons p l ih => simp [ih]
    have hb := run_buildSlice (P := P) (w := W) (is := qs.toList.map (·.1)) (vs := vs) hT hz (Nat.le_of_ble_eq_true hm) (by simpa [Function.comp_def] using hf)
    simp [execOp, e1, hb, bval]⟩⟩, k'⟩
theorem JL.ptr {cs : List Value} (hd : ((ops[i]?).bind (·.dst)) = some d) (hm : (i, none, T, cs) ∈ es) (k' : ∀ b : Nat, JL ops es kl ls ((d, .pointer (some ⟨b, 0, none⟩)) :: env) (.blk b T cs :: R)) : JL ops es kl (i :: ls) env R := ⟨d, _, hd, hm, k'⟩
theorem JL.sl {m : Nat} {cs : List Value} (hd : ((ops[i]?).bind (·.dst)) = some d) (hm : (i, some m, T, cs) ∈ es) (k' : ∀ b : Nat, JL ops es kl ls ((d, .slice (some ⟨b, 0, none⟩) m m) :: env) (.blk b T cs :: R)) : JL ops es kl (i :: ls) env R := ⟨d, _, hd, hm, k'⟩
theorem es_here {z : Al} : (i, z) ∈ (i, z) :: es := List.mem_cons_self ..
theorem es_there {p q : Nat × Al} (h : p ∈ es) : p ∈ q :: es := List.mem_cons_of_mem _ h
variable {J : List (Nat × Value) → List Res → List Fact → List (Nat × List Res) → Prop}
theorem JE.mk {o : Oper} (ho : ops[e]? = some o) (hnd : ∀ c, o.op ≠ .defer c) (h : ∀ C' : Cx, Jl P r C' n ops (Post n ms o e env Φ acc J C') [o] env R Φ) : JE P r C n ops ms e Φ acc J env R := ⟨o, ho, hnd, .inl h⟩
/-- A call of yield: all others come ahead of it or behind it. -/
theorem JE.mkY {o : Oper} (ho : ops[e]? = some o) (hnd : ∀ c, o.op ≠ .defer c) (hso : solo ops ms e = true) (h : Jl P r C n ops (PostY C n o env J) [o] env R Φ) : JE P r C n ops ms e Φ acc J env R := ⟨o, ho, hnd, .inr ⟨hso, h⟩⟩
theorem Jq.segY {env0 : List (Nat × Value)} (h : J ((d, v) :: env0) R Φ' []) : Jq C n (PostY C n ⟨some d, op, T, pos, af, g⟩ env0 J) .normal ((d, v) :: env0) R Φ' :=
  fun a W he hs => ⟨rfl, _, _, _, he, hs, ⟨v, rfl⟩, h⟩
theorem Jq.segV {C' : Cx} {env0 : List (Nat × Value)} {Φ0 : List Fact} (hf : FExt Φ' Φ0) (h : J ((d, v) :: env0) R Φ' acc') (hk : KeepL ms e R acc acc') : Jq C' n (Post n ms ⟨some d, op, T, pos, af, g⟩ e env0 Φ0 acc J C') .normal ((d, v) :: env0) R Φ' :=
  fun a W he hs => ⟨rfl, _, _, _, _, he, hs, hk, hf, ⟨v, rfl⟩, h⟩
theorem Jq.segN {C' : Cx} {env0 : List (Nat × Value)} {Φ0 : List Fact} (hf : FExt Φ' Φ0) (h : J env0 R Φ' acc') (hk : KeepL ms e R acc acc') : Jq C' n (Post n ms ⟨none, op, T, pos, af, g⟩ e env0 Φ0 acc J C') .normal env0 R Φ' :=
  fun a W he hs => ⟨rfl, _, _, _, _, he, hs, hk, hf, rfl, h⟩
end
end Dh
end Go.Proofs.YtcppphgpbaablaaDoor
