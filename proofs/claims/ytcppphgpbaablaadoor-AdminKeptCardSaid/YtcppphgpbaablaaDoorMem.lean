/-
Plain lemmas on the model's memory: cells that read as a list, rows of the call's own, append, regions in any order.
Conditions: none; no program in sight.
-/
import Derived.WalkKit
import Derived.WalkSpells
import Derived.Lib.Hide
import Derived.WalkLawsBesides
import Derived.Maps.AppendAt
import Derived.Deep.AppendLies
import Derived.Deep.Draws
namespace Go.Proofs.YtcppphgpbaablaaDoor
set_option linter.unusedVariables false
open Go.RowKit

theorem add_block (a : Addr) (n : Nat) : (a.add n).block = a.block := by unfold Addr.add; split <;> rfl
theorem add_add (a : Addr) (i j : Nat) : (a.add i).add j = a.add (i + j) := by
  unfold Addr.add
  by_cases hi : i = 0 <;> by_cases hj : j = 0 <;> simp [hi, hj, Nat.add_assoc]

/-- From A on stand the cells xs, in blocks from lo on, below hi. -/
def Rd (w : World) (lo hi : Nat) (A : Option Addr) (xs : List Value) : Prop :=
  ∀ j u, xs[j]? = some u → ∃ a, A = some a ∧ lo ≤ a.block ∧ a.block < hi ∧ w.cell? (a.add j) = some u

section
variable {w w' : World} {lo hi lo' hi' : Nat} {A : Option Addr} {xs : List Value}

theorem Rd.nil : Rd w lo hi A [] := fun j u h => by simp at h

theorem Rd.keep (h : Rd w lo hi A xs) (hk : ∀ k, lo ≤ k → k < hi → w'.heap[k]? = w.heap[k]?) : Rd w' lo hi A xs := fun j u hu => by
  obtain ⟨a, rfl, h1, h2, hc⟩ := h j u hu
  refine ⟨a, rfl, h1, h2, ?_⟩
  rw [← hc]
  exact World.cell?_of_block (by rw [add_block]; exact hk _ h1 h2)

theorem Rd.below {B : Nat} (h : Rd w lo hi A xs) (hb : Below B w w') (hB : hi ≤ B) : Rd w' lo hi A xs :=
  h.keep fun k _ hk => hb.block k (by omega)

theorem Rd.wide (h : Rd w lo hi A xs) (h1 : lo' ≤ lo) (h2 : hi ≤ hi') : Rd w lo' hi' A xs := fun j u hu => by
  obtain ⟨a, e, h3, h4, hc⟩ := h j u hu
  exact ⟨a, e, by omega, by omega, hc⟩

theorem Rd.alloc (h : Rd w lo hi A xs) (hB : hi ≤ w.heap.size) (o : Obj) : Rd (w.alloc o) lo hi A xs :=
  h.keep fun k _ hk => Below.heap_alloc w o k (by omega)

theorem Rd.setCell (h : Rd w lo hi A xs) {p : Addr} (hp : p.block < lo ∨ hi ≤ p.block) (u : Value) : Rd (w.setCell p u) lo hi A xs :=
  h.keep fun k h1 h2 => Below.heap_setCell w p u k (by omega)

theorem Rd.drew (h : Rd w lo hi A xs) : Rd w.drew lo hi A xs := h.keep fun _ _ _ => rfl

theorem Rd.some_ (h : Rd w lo hi A xs) {j : Nat} (hj : j < xs.length) : ∃ a, A = some a ∧ lo ≤ a.block ∧ a.block < hi ∧ w.cell? (a.add j) = some xs[j] :=
  h j _ (List.getElem?_eq_getElem hj)

theorem Rd.take (h : Rd w lo hi A xs) (k : Nat) : Rd w lo hi A (xs.take k) := fun j u hu => by
  rw [List.getElem?_take] at hu
  split at hu
  · exact h j u hu
  · cases hu

theorem Rd.drop (h : Rd w lo hi A xs) (k : Nat) : Rd w lo hi (A.map (·.add k)) (xs.drop k) := fun j u hu => by
  rw [List.getElem?_drop] at hu
  obtain ⟨a, rfl, h1, h2, hc⟩ := h _ u hu
  exact ⟨a.add k, rfl, by rw [add_block]; exact h1, by rw [add_block]; exact h2, by rw [add_add]; exact hc⟩

theorem Rd.none_ (h : Rd w lo hi none xs) : xs = [] := by
  cases xs with
  | nil => rfl
  | cons x xs => obtain ⟨a, e, _⟩ := h 0 x rfl; cases e

theorem Rd.of_own {base : Nat} {e : TypeId} {size n c : Nat} (h : w.ownsRow base e size (.slice A n c) n xs) : Rd w base w.heap.size A xs := by
  intro j u hu
  rcases h.2 with ⟨hv, hn⟩ | ⟨g, cap, cur, hv, hb, hg, _⟩
  · have : xs = [] := List.eq_nil_of_length_eq_zero (by rw [h.1, hn]; simp)
    subst this; simp at hu
  · injection hv with hA _ _
    subst hA
    exact ⟨_, rfl, hb, (Array.getElem?_eq_some_iff.1 hg).1, h.cells (g := g) rfl j u hu⟩
end

/-- A value that owns a row is a slice. -/
theorem own_form {w : World} {base : Nat} {e : TypeId} {size n : Nat} {v : Value} {xs : List Value} (h : w.ownsRow base e size v n xs) :
    ∃ A c, v = .slice A n c ∧ n ≤ c ∧ c ≤ maxLen := by
  rcases h.2 with ⟨rfl, rfl⟩ | ⟨g, cap, cur, rfl, _, _, h1, h2, _⟩
  · exact ⟨none, 0, rfl, Nat.le_refl _, by unfold maxLen; omega⟩
  · exact ⟨_, _, rfl, h1, h2⟩

theorem own_cap {w : World} {base : Nat} {e : TypeId} {size n n' c : Nat} {A : Option Addr} {xs : List Value} (h : w.ownsRow base e size (.slice A n' c) n xs) : n ≤ c := by
  obtain ⟨A', c', hv, h1, _⟩ := own_form h
  injection hv with _ _ hc
  omega

section
variable {P : Program} (w : World)

theorem run_append_src (base : Nat) (t ty e : TypeId) (i : TypeInfo) (z : Value) (size bytes : Nat) (ht : P.underlying t = some (.slice e)) (hi : P.info? e = some i) (hz : i.zero = some z)
    (hsize : i.size = size) (hby : i.bytes = bytes) (hzs : z.cells.size = size) (hsz : 0 < size)
    (v : Value) (n : Nat) (xs : List Value) (hown : w.ownsRow base e size v n xs)
    (lo up : Nat) (A : Option Addr) (m c : Nat) (news : List Value) (hl : news.length = m * size) (hr : Rd w lo up A news) (h1 : ∀ u ∈ news, u.oneCell' = true)
    (h63 : n + m ≤ maxLen) (hbytes : (n + m) * bytes ≤ 140737488355328) (hbase : base ≤ w.heap.size) :
    ∃ v' w', (Builtin.append_ #[t, t] ty #[v, .slice A m c]).run P w = .ok v' w' ∧ w'.ownsRow base e size v' (n + m) (xs ++ news) ∧ w.grownBy w' v.ownBlock ∧
      (v'.ownBlock = v.ownBlock ∨ v'.ownBlock = some w.heap.size) := by
  rcases A with _ | ad
  · have hn := hr.none_
    subst hn
    have hm : m = 0 := by
      have : m * size = 0 := by simpa using hl.symm
      rcases Nat.mul_eq_zero.1 this with h | h
      · exact h
      · omega
    subst hm
    refine ⟨v, w, ?_, by simpa using hown, ⟨rfl, rfl, rfl, Nat.le_refl _, fun _ _ _ => rfl⟩, .inl rfl⟩
    rcases hown.2 with ⟨rfl, rfl⟩ | ⟨g, cap, cur, rfl, _, _, hnc, _⟩
    · simp [Builtin.append_, run_underlying ht, sizeOf, typeInfo, hi, Builtin.lenOf, Builtin.firstCells]
    · simp [Builtin.append_, run_underlying ht, sizeOf, typeInfo, hi, Builtin.lenOf, Builtin.firstCells, hnc, storeCells]
  · obtain ⟨v', w', hrun, h2, h3, _, h5⟩ := run_append_own_at (P := P) w base t ty e i z size bytes ht hi hz hsize hby hzs hsz v n xs hown ad m c news hl
      (fun j u hu => by obtain ⟨a, e, _, _, hc⟩ := hr j u hu; injection e with e; subst e; exact hc) h1 h63 hbytes hbase
    exact ⟨v', w', hrun, h2, h3, h5⟩

theorem wp_append_src {o : Oper} {a : Act} {K : Act → World → Prop} {Q : Exit → Act → World → Prop} (s x : Operand) (t : TypeId)
    (ho : o.op = .call { callee := .builtin .append, args := #[s, x], argTypes := #[t, t] })
    (base : Nat) (e : TypeId) (i : TypeInfo) (z : Value) (size bytes : Nat) (ht : P.underlying t = some (.slice e)) (hi : P.info? e = some i) (hz : i.zero = some z)
    (hsize : i.size = size) (hby : i.bytes = bytes) (hzs : z.cells.size = size) (hsz : 0 < size)
    (v : Value) (n : Nat) (xs : List Value) (hs : a.eval s = v) (hown : w.ownsRow base e size v n xs)
    (lo up : Nat) (A : Option Addr) (m c : Nat) (news : List Value) (hx : a.eval x = .slice A m c) (hl : news.length = m * size) (hr : Rd w lo up A news) (h1 : ∀ u ∈ news, u.oneCell' = true)
    (h63 : n + m ≤ maxLen) (hbytes : (n + m) * bytes ≤ 140737488355328) (hbase : base ≤ w.heap.size)
    (h : ∀ A' c' w', w'.ownsRow base e size (.slice A' (n + m) c') (n + m) (xs ++ news) → w.grownBy w' v.ownBlock →
      ((Value.slice A' (n + m) c').ownBlock = v.ownBlock ∨ (Value.slice A' (n + m) c').ownBlock = some w.heap.size) → K (a.put o.dst (.slice A' (n + m) c')) w') : o.wp P a w K Q := by
  obtain ⟨v', w', hrun, h2, h3, h4⟩ := run_append_src (P := P) w base t o.type e i z size bytes ht hi hz hsize hby hzs hsz v n xs hown lo up A m c news hl hr h1 h63 hbytes hbase
  obtain ⟨A', c', rfl, _⟩ := own_form h2
  unfold Oper.wp execOp
  simp only [ho, resolve, invoke, builtin, Sem.run_bind, Sem.run_pure, Result.andThen_ok, List.map_toArray, List.map_cons, List.map_nil, hs, hx, hrun]
  exact h A' c' w' h2 h3 h4

theorem wpl_append {ops : Array Oper} {rest : List Oper} {o : Oper} {a : Act} {Q : Exit → Act → World → Prop} (hgd : o.guard = none) (s x : Operand) (t : TypeId)
    (ho : o.op = .call { callee := .builtin .append, args := #[s, x], argTypes := #[t, t] })
    (base : Nat) (e : TypeId) (i : TypeInfo) (z : Value) (size bytes : Nat) (ht : P.underlying t = some (.slice e)) (hi : P.info? e = some i) (hz : i.zero = some z)
    (hsize : i.size = size) (hby : i.bytes = bytes) (hzs : z.cells.size = size) (hsz : 0 < size)
    (v : Value) (n : Nat) (xs : List Value) (hs : a.eval s = v) (hown : w.ownsRow base e size v n xs)
    (lo up : Nat) (A : Option Addr) (m c : Nat) (news : List Value) (hx : a.eval x = .slice A m c) (hl : news.length = m * size) (hr : Rd w lo up A news) (h1 : ∀ u ∈ news, u.oneCell' = true)
    (h63 : n + m ≤ maxLen) (hbytes : (n + m) * bytes ≤ 140737488355328) (hbase : base ≤ w.heap.size)
    (h : ∀ A' c' w', w'.ownsRow base e size (.slice A' (n + m) c') (n + m) (xs ++ news) → w.grownBy w' v.ownBlock →
      ((Value.slice A' (n + m) c').ownBlock = v.ownBlock ∨ (Value.slice A' (n + m) c').ownBlock = some w.heap.size) → wpList P ops Q rest (a.put o.dst (.slice A' (n + m) c')) w') :
    wpList P ops Q (o :: rest) a w :=
  wpList_plain hgd fun _ hK => wp_append_src w s x t ho base e i z size bytes ht hi hz hsize hby hzs hsz v n xs hs hown lo up A m c news hx hl hr h1 h63 hbytes hbase
    fun A' c' w' h2 h3 h4 => hK _ _ (h A' c' w' h2 h3 h4)
end

/-- A block that is known whole. -/
def Bk (w : World) (b : Nat) (T : TypeId) (cs : Array Value) : Prop := w.heap[b]? = some (.cells cs T (0, 0))

section
variable {w w' : World} {b : Nat} {T : TypeId} {cs : Array Value}
theorem Bk.lt (h : Bk w b T cs) : b < w.heap.size := (Array.getElem?_eq_some_iff.1 h).1
theorem Bk.cell (h : Bk w b T cs) (i : Nat) : w.cell? ⟨b, i, none⟩ = cs[i]? := cell_of_row w b i cs T (0, 0) h
theorem Bk.frozen (h : Bk w b T cs) (i : Nat) : w.frozen? ⟨b, i, none⟩ = false := by
  unfold Bk at h
  simp [World.frozen?, h]
theorem Bk.new (w : World) (T : TypeId) (cs : Array Value) : Bk (w.alloc (.cells cs T)) w.heap.size T cs := heap_alloc_new w _
theorem Bk.alloc (h : Bk w b T cs) (o : Obj) : Bk (w.alloc o) b T cs := (Below.heap_alloc w o b h.lt).trans h
theorem Bk.drew (h : Bk w b T cs) : Bk w.drew b T cs := h
theorem Bk.set (h : Bk w b T cs) (i : Nat) (u : Value) : Bk (w.setCell ⟨b, i, none⟩ u) b T (cs.setIfInBounds i u) := by
  unfold Bk at h ⊢
  simp [World.setCell, Array.getElem?_modify, h]
theorem Bk.far (h : Bk w b T cs) {p : Addr} (hp : b ≠ p.block) (u : Value) : Bk (w.setCell p u) b T cs := (Below.heap_setCell w p u b hp).trans h
theorem Bk.keep (h : Bk w b T cs) (hk : w'.heap[b]? = w.heap[b]?) : Bk w' b T cs := hk.trans h
theorem Bk.below {B : Nat} (h : Bk w b T cs) (hb : Below B w w') (hB : b < B) : Bk w' b T cs := (hb.block b hB).trans h
theorem Bk.grown {row : Option Nat} (h : Bk w b T cs) (hg : w.grownBy w' row) (hr : row ≠ some b) : Bk w' b T cs := (hg.block b h.lt (fun e => hr e.symm)).trans h
theorem Bk.ne {b' : Nat} {T' : TypeId} {cs' : Array Value} (h : Bk w b T cs) (h' : Bk w b' T' cs') (hne : T ≠ T') : b ≠ b' := by
  rintro rfl
  unfold Bk at h h'
  rw [h] at h'
  injection h' with h'
  injection h' with _ ht
  exact hne ht
end

/-- The cells of a block that is known whole. -/
theorem Rd.of_bk {w : World} {b : Nat} {T : TypeId} {cs : List Value} (h : Bk w b T cs.toArray) : Rd w b (b + 1) (some ⟨b, 0, none⟩) cs := by
  intro j u hu
  refine ⟨_, rfl, Nat.le_refl _, Nat.lt_succ_self _, ?_⟩
  have := h.cell j
  simp only [List.getElem?_toArray, hu] at this
  rw [← this]
  unfold Addr.add
  split
  · rename_i hj; rw [hj]
  · simp

theorem heap_set {w : World} {p : Addr} {u : Value} {b : Nat} (h : b ≠ p.block) : (w.setCell p u).heap[b]? = w.heap[b]? := Below.heap_setCell w p u b h

/-- Bytes as cells. -/
def u8s (l : List UInt8) : List Value := l.map fun b => .int .u8 b.toNat
@[simp] theorem u8s_length (l : List UInt8) : (u8s l).length = l.length := by simp [u8s]
theorem u8s_one (l : List UInt8) : ∀ u ∈ u8s l, u.oneCell' = true := by
  intro u hu
  simp only [u8s, List.mem_map] at hu
  obtain ⟨b, _, rfl⟩ := hu
  rfl
theorem u8s_append (l m : List UInt8) : u8s (l ++ m) = u8s l ++ u8s m := by simp [u8s]
theorem u8s_take (l : List UInt8) (k : Nat) : (u8s l).take k = u8s (l.take k) := by simp [u8s, List.map_take]
theorem u8s_drop (l : List UInt8) (k : Nat) : (u8s l).drop k = u8s (l.drop k) := by simp [u8s, List.map_drop]


/-- What lay below reads as it did: rules for the walk behind a call. -/
theorem bcell {W w1 : World} (hb : Below W.heap.size W w1) :
    (∀ b o, b < W.heap.size → w1.cell? ⟨b, o, none⟩ = W.cell? ⟨b, o, none⟩) ∧ (∀ b o, b < W.heap.size → w1.frozen? ⟨b, o, none⟩ = W.frozen? ⟨b, o, none⟩) :=
  ⟨fun b o h => hb.cell (p := ⟨b, o, none⟩) h, fun b o h => hb.frozen (p := ⟨b, o, none⟩) h⟩

theorem own_base {w : World} {base base' : Nat} {e : TypeId} {size n : Nat} {v : Value} {xs : List Value} (h : w.ownsRow base e size v n xs) (hb : base' ≤ base) :
    w.ownsRow base' e size v n xs := by
  refine ⟨h.1, ?_⟩
  rcases h.2 with h2 | ⟨g, cap, cur, hv, hg, hh, r⟩
  · exact Or.inl h2
  · exact Or.inr ⟨g, cap, cur, hv, by omega, hh, r⟩

/-- A row of the call's own stays so while other blocks are written. -/
theorem own_keep {w w' : World} {base : Nat} {e : TypeId} {size n : Nat} {v : Value} {xs : List Value} (h : w.ownsRow base e size v n xs)
    (hk : ∀ g, v.ownBlock = some g → w'.heap[g]? = w.heap[g]?) : w'.ownsRow base e size v n xs := by
  refine ⟨h.1, ?_⟩
  rcases h.2 with h2 | ⟨g, cap, cur, rfl, hg, hh, r⟩
  · exact Or.inl h2
  · exact Or.inr ⟨g, cap, cur, rfl, hg, by rw [hk g rfl]; exact hh, r⟩

theorem own_set {w : World} {base : Nat} {e : TypeId} {size n : Nat} {v : Value} {xs : List Value} (h : w.ownsRow base e size v n xs) {p : Addr}
    (hp : v.ownBlock ≠ some p.block) (u : Value) : (w.setCell p u).ownsRow base e size v n xs :=
  own_keep h fun g hg => Below.heap_setCell w p u g (fun e => hp (by rw [hg, e]))

theorem own_below {w w' : World} {base B : Nat} {e : TypeId} {size n : Nat} {v : Value} {xs : List Value} (h : w.ownsRow base e size v n xs) (hb : Below B w w') (hB : w.heap.size ≤ B) :
    w'.ownsRow base e size v n xs :=
  own_keep h fun g hg => hb.block g (by have := (h.lt g hg).2; omega)

/-- A block below the row's base is not the row. -/
theorem own_ne {w : World} {base : Nat} {e : TypeId} {size n : Nat} {v : Value} {xs : List Value} (h : w.ownsRow base e size v n xs) {k : Nat} (hk : k < base ∨ w.heap.size ≤ k) :
    v.ownBlock ≠ some k := fun e => by have := h.lt k e; omega

/-- What the walk makes of min and max: laid as rules ahead of a walk, they keep it from parting. -/
theorem ite_min (x y : Int) : (if y < x then y else x) = min x y := by omega
theorem ite_max (x y : Int) : (if x < y then y else x) = max x y := by omega

end Go.Proofs.YtcppphgpbaablaaDoor
