import Derived.WalkKit
import Derived.WalkSpells
import Derived.Lib.Hide
import Derived.WalkLawsBesides
import Derived.Maps.AppendAt
import Derived.Deep.AppendLies
import Derived.Deep.Draws
import Derived.RangeFuncNested
import Derived.RangeFuncBound
import Derived.RangeFuncCalls
import Derived.RangeFuncLeaves
import Derived.OwnWalkIn
import Derived.TacticsInMore
import Derived.LoopNIn
import Derived.LoopIn
import Derived.ScopeJumps
import Derived.WalkMore
import Derived.Laws.Rows
import Derived.Laws.Tables
import Derived.Laws.CopyRow
import Derived.Laws.Cells
import Derived.Laws.BytesString
import Derived.StillTail
set_option linter.unusedVariables false
namespace Go.Proofs.YtakbgccddokbbaaGreatDoor
open Go.RowKit
theorem add_block (a : Addr) (n : Nat) : (a.add n).block = a.block := by unfold Addr.add; split <;> rfl
theorem add_add (a : Addr) (i j : Nat) : (a.add i).add j = a.add (i + j) := by
 unfold Addr.add
 by_cases hi : i = 0 <;> by_cases hj : j = 0 <;> simp [hi, hj, Nat.add_assoc]
def Rd (w : World) (lo hi : Nat) (A : Option Addr) (xs : List Value) : Prop :=
 ∀ j u, xs[j]? = some u → ∃ a, A = some a ∧ lo ≤ a.block ∧ a.block < hi ∧ w.cell? (a.add j) = some u
section
variable {w w' : World} {lo hi lo' hi' : Nat} {A : Option Addr} {xs : List Value}
theorem Rd.nil : Rd w lo hi A [] := fun j u h => by simp at h
theorem Rd.keep (h : Rd w lo hi A xs) (hk : ∀ k, lo ≤ k → k < hi → w'.heap[k]? = w.heap[k]?) : Rd w' lo hi A xs := fun j u hu => by
 obtain ⟨a, rfl, h1, h2, hc⟩ := h j u hu
 refine ⟨a, rfl, h1, h2, ?_⟩
 rw [← hc]
 exact World.cell?_of_block (by rw [add_block]; exact hk _ h1 h2)
theorem Rd.below {B : Nat} (h : Rd w lo hi A xs) (hb : Below B w w') (hB : hi ≤ B) : Rd w' lo hi A xs :=
 h.keep fun k _ hk => hb.block k (by omega)
theorem Rd.wide (h : Rd w lo hi A xs) (h1 : lo' ≤ lo) (h2 : hi ≤ hi') : Rd w lo' hi' A xs := fun j u hu => by
 obtain ⟨a, e, h3, h4, hc⟩ := h j u hu
 exact ⟨a, e, by omega, by omega, hc⟩
theorem Rd.alloc (h : Rd w lo hi A xs) (hB : hi ≤ w.heap.size) (o : Obj) : Rd (w.alloc o) lo hi A xs :=
 h.keep fun k _ hk => Below.heap_alloc w o k (by omega)
theorem Rd.setCell (h : Rd w lo hi A xs) {p : Addr} (hp : p.block < lo ∨ hi ≤ p.block) (u : Value) : Rd (w.setCell p u) lo hi A xs :=
 h.keep fun k h1 h2 => Below.heap_setCell w p u k (by omega)
theorem Rd.drew (h : Rd w lo hi A xs) : Rd w.drew lo hi A xs := h.keep fun _ _ _ => rfl
theorem Rd.take (h : Rd w lo hi A xs) (k : Nat) : Rd w lo hi A (xs.take k) := fun j u hu => by
 rw [List.getElem?_take] at hu
 split at hu
 · exact h j u hu
 · cases hu
theorem Rd.drop (h : Rd w lo hi A xs) (k : Nat) : Rd w lo hi (A.map (·.add k)) (xs.drop k) := fun j u hu => by
 rw [List.getElem?_drop] at hu
 obtain ⟨a, rfl, h1, h2, hc⟩ := h _ u hu
 exact ⟨a.add k, rfl, by rw [add_block]; exact h1, by rw [add_block]; exact h2, by rw [add_add]; exact hc⟩
theorem Rd.none_ (h : Rd w lo hi none xs) : xs = [] := by
 cases xs with
 | nil => rfl
 | cons x xs => obtain ⟨a, e, _⟩ := h 0 x rfl; cases e
theorem Rd.of_own {base : Nat} {e : TypeId} {size n c : Nat} (h : w.ownsRow base e size (.slice A n c) n xs) : Rd w base w.heap.size A xs := by
 intro j u hu
 rcases h.2 with ⟨hv, hn⟩ | ⟨g, cap, cur, hv, hb, hg, _⟩
 · have : xs = [] := List.eq_nil_of_length_eq_zero (by rw [h.1, hn]; simp)
   subst this; simp at hu
 · injection hv with hA _ _
   subst hA
   exact ⟨_, rfl, hb, (Array.getElem?_eq_some_iff.1 hg).1, h.cells (g := g) rfl j u hu⟩
end
theorem own_form {w : World} {base : Nat} {e : TypeId} {size n : Nat} {v : Value} {xs : List Value} (h : w.ownsRow base e size v n xs) :
 ∃ A c, v = .slice A n c ∧ n ≤ c ∧ c ≤ maxLen := by
 rcases h.2 with ⟨rfl, rfl⟩ | ⟨g, cap, cur, rfl, _, _, h1, h2, _⟩
 · exact ⟨none, 0, rfl, Nat.le_refl _, by unfold maxLen; omega⟩
 · exact ⟨_, _, rfl, h1, h2⟩
section
variable {P : Program} (w : World)
theorem run_append_src (base : Nat) (t ty e : TypeId) (i : TypeInfo) (z : Value) (size bytes : Nat) (ht : P.underlying t = some (.slice e)) (hi : P.info? e = some i) (hz : i.zero = some z)
    (hsize : i.size = size) (hby : i.bytes = bytes) (hzs : z.cells.size = size) (hsz : 0 < size)
    (v : Value) (n : Nat) (xs : List Value) (hown : w.ownsRow base e size v n xs)
    (lo up : Nat) (A : Option Addr) (m c : Nat) (news : List Value) (hl : news.length = m * size) (hr : Rd w lo up A news) (h1 : ∀ u ∈ news, u.oneCell' = true)
    (h63 : n + m ≤ maxLen) (hbytes : (n + m) * bytes ≤ 140737488355328) (hbase : base ≤ w.heap.size) :
    ∃ v' w', (Builtin.append_ #[t, t] ty #[v, .slice A m c]).run P w = .ok v' w' ∧ w'.ownsRow base e size v' (n + m) (xs ++ news) ∧ w.grownBy w' v.ownBlock ∧
      (v'.ownBlock = v.ownBlock ∨ v'.ownBlock = some w.heap.size) := by
  rcases A with _ | ad
  · have hn := hr.none_
    subst hn
    have hm : m = 0 := by
      have : m * size = 0 := by simpa using hl.symm
      rcases Nat.mul_eq_zero.1 this with h | h
      · exact h
      · omega
    subst hm
    refine ⟨v, w, ?_, by simpa using hown, ⟨rfl, rfl, rfl, Nat.le_refl _, fun _ _ _ => rfl⟩, .inl rfl⟩
    rcases hown.2 with ⟨rfl, rfl⟩ | ⟨g, cap, cur, rfl, _, _, hnc, _⟩
    · simp [Builtin.append_, run_underlying ht, sizeOf, typeInfo, hi, Builtin.lenOf, Builtin.firstCells]
    · simp [Builtin.append_, run_underlying ht, sizeOf, typeInfo, hi, Builtin.lenOf, Builtin.firstCells, hnc, storeCells]
  · obtain ⟨v', w', hrun, h2, h3, _, h5⟩ := run_append_own_at (P := P) w base t ty e i z size bytes ht hi hz hsize hby hzs hsz v n xs hown ad m c news hl
      (fun j u hu => by obtain ⟨a, e, _, _, hc⟩ := hr j u hu; injection e with e; subst e; exact hc) h1 h63 hbytes hbase
    exact ⟨v', w', hrun, h2, h3, h5⟩
end
def Bk (w : World) (b : Nat) (T : TypeId) (cs : Array Value) : Prop := w.heap[b]? = some (.cells cs T (0, 0))
section
variable {w w' : World} {b : Nat} {T : TypeId} {cs : Array Value}
theorem Bk.lt (h : Bk w b T cs) : b < w.heap.size := (Array.getElem?_eq_some_iff.1 h).1
theorem Bk.cell (h : Bk w b T cs) (i : Nat) : w.cell? ⟨b, i, none⟩ = cs[i]? := cell_of_row w b i cs T (0, 0) h
theorem Bk.frozen (h : Bk w b T cs) (i : Nat) : w.frozen? ⟨b, i, none⟩ = false := by
 unfold Bk at h
 simp [World.frozen?, h]
theorem Bk.new (w : World) (T : TypeId) (cs : Array Value) : Bk (w.alloc (.cells cs T)) w.heap.size T cs := heap_alloc_new w _
theorem Bk.alloc (h : Bk w b T cs) (o : Obj) : Bk (w.alloc o) b T cs := (Below.heap_alloc w o b h.lt).trans h
theorem Bk.drew (h : Bk w b T cs) : Bk w.drew b T cs := h
theorem Bk.set (h : Bk w b T cs) (i : Nat) (u : Value) : Bk (w.setCell ⟨b, i, none⟩ u) b T (cs.setIfInBounds i u) := by
 unfold Bk at h ⊢
 simp [World.setCell, Array.getElem?_modify, h]
theorem Bk.keep (h : Bk w b T cs) (hk : w'.heap[b]? = w.heap[b]?) : Bk w' b T cs := hk.trans h
theorem Bk.below {B : Nat} (h : Bk w b T cs) (hb : Below B w w') (hB : b < B) : Bk w' b T cs := (hb.block b hB).trans h
end
def u8s (l : List UInt8) : List Value := l.map fun b => .int .u8 b.toNat
@[simp] theorem u8s_length (l : List UInt8) : (u8s l).length = l.length := by simp [u8s]
theorem u8s_one (l : List UInt8) : ∀ u ∈ u8s l, u.oneCell' = true := by
 intro u hu
 simp only [u8s, List.mem_map] at hu
 obtain ⟨b, _, rfl⟩ := hu
 rfl
theorem own_keep {w w' : World} {base : Nat} {e : TypeId} {size n : Nat} {v : Value} {xs : List Value} (h : w.ownsRow base e size v n xs)
 (hk : ∀ g, v.ownBlock = some g → w'.heap[g]? = w.heap[g]?) : w'.ownsRow base e size v n xs := by
 refine ⟨h.1, ?_⟩
 rcases h.2 with h2 | ⟨g, cap, cur, rfl, hg, hh, r⟩
 · exact Or.inl h2
 · exact Or.inr ⟨g, cap, cur, rfl, hg, by rw [hk g rfl]; exact hh, r⟩
end Go.Proofs.YtakbgccddokbbaaGreatDoor
namespace Go.Proofs.YtakbgccddokbbaaGreatDoor
open Go.RowKit
structure Foreign (X : Nat → Prop) (W W' : World) : Prop where
 os : W'.os = W.os
 tape : W'.tape = W.tape
 output : W'.output = W.output
 size : W.heap.size ≤ W'.heap.size
 block : ∀ b, b < W.heap.size → ¬ X b → W'.heap[b]? = W.heap[b]?
theorem Foreign.refl (X : Nat → Prop) (W : World) : Foreign X W W := ⟨rfl, rfl, rfl, Nat.le_refl _, fun _ _ _ => rfl⟩
theorem Foreign.alloc (X : Nat → Prop) (W : World) (o : Obj) : Foreign X W (W.alloc o) := ⟨rfl, rfl, rfl, by simp, fun b hb _ => Below.heap_alloc W o b hb⟩
theorem Foreign.drew (X : Nat → Prop) (W : World) : Foreign X W W.drew := ⟨rfl, rfl, rfl, Nat.le_refl _, fun _ _ _ => rfl⟩
theorem Foreign.below {X : Nat → Prop} {W W' : World} (h : Below W.heap.size W W') : Foreign X W W' := ⟨h.os, h.tape, h.output, h.size, fun b hb _ => h.block b hb⟩
theorem Foreign.putObj {X : Nat → Prop} {W : World} {l : Nat} (o : Obj) (h : X l) : Foreign X W (W.putObj l o) :=
 ⟨rfl, rfl, rfl, by simp, fun b _ hx => World.putObj_heap_other (fun e => hx (by rw [e]; exact h))⟩
theorem Foreign.setCell {X : Nat → Prop} {W : World} {p : Addr} (u : Value) (h : X p.block) : Foreign X W (W.setCell p u) :=
 ⟨rfl, rfl, rfl, by simp [World.setCell], fun b _ hx => Below.heap_setCell W p u b (fun e => hx (by rw [e]; exact h))⟩
theorem Foreign.trans {X : Nat → Prop} {A B C : World} (h : Foreign X A B) (k : Foreign X B C) : Foreign X A C :=
 ⟨k.os.trans h.os, k.tape.trans h.tape, k.output.trans h.output, Nat.le_trans h.size k.size, fun b hb hx => (k.block b (Nat.lt_of_lt_of_le hb h.size) hx).trans (h.block b hb hx)⟩
theorem Foreign.cell {X : Nat → Prop} {W W' : World} (h : Foreign X W W') {p : Addr} {v : Value} (hx : ¬ X p.block) (hc : W.cell? p = some v) : W'.cell? p = some v :=
 (World.cell?_of_block (h.block p.block (World.block_lt_of_cell? W p hc) hx)).trans hc
def Framed (J : Nat → (Nat → Prop) → World → Prop) : Prop :=
 ∀ k X X' W W', J k X W → Foreign X W W' → (∀ b, X' b → X b ∨ (W.heap.size ≤ b ∧ b < W'.heap.size)) → J k X' W'
def Fr (p : (Nat → Prop) → World → Prop) : Prop :=
 ∀ X X' W W', p X W → Foreign X W W' → (∀ b, X' b → X b ∨ (W.heap.size ≤ b ∧ b < W'.heap.size)) → p X' W'
theorem Fr.and {p q : (Nat → Prop) → World → Prop} (h : Fr p) (k : Fr q) : Fr (fun X W => p X W ∧ q X W) := fun X X' W W' hp hf hx => ⟨h X X' W W' hp.1 hf hx, k X X' W W' hp.2 hf hx⟩
theorem Fr.pure (c : Prop) : Fr (fun _ _ => c) := fun _ _ _ _ h _ _ => h
theorem enters_fn {P : Program} {f : FuncId} {fn : Func} {c : Code} (hf : P.funcs[f]? = some fn) (hname : (fn.name == "runtime.NumGoroutine") = false) (hb : fn.body = some c) :
 ∀ args w, (callFunc f args).run P w = .ok (.enter f args) w := by
 intro args w
 have h1 : fn.name ≠ "runtime.NumGoroutine" := by simpa using hname
 simp [callFunc, hf, h1, hb, mark]
def roundEnd (K X : Nat → Prop) (I : Nat → (Nat → Prop) → World → Prop) (Ix : Code → Nat → (Nat → Prop) → World → Prop) (k : Nat) (W : World) : Exit → Act → World → Prop
 | .normal, _, W' => W.heap.size ≤ W'.heap.size ∧ (∀ b, X b → W'.heap[b]? = W.heap[b]?) ∧ (∀ b, K b → W'.heap[b]? = W.heap[b]?) ∧ I (k + 1) X W'
 | .ret, _, W' => W.heap.size ≤ W'.heap.size ∧ (∀ b, X b → W'.heap[b]? = W.heap[b]?) ∧ Ix .ret k X W'
 | .exit id, _, W' => W.heap.size ≤ W'.heap.size ∧ (∀ b, X b → W'.heap[b]? = W.heap[b]?) ∧ Ix (.exit id) k X W'
 | .goto t, _, W' => W.heap.size ≤ W'.heap.size ∧ (∀ b, X b → W'.heap[b]? = W.heap[b]?) ∧ Ix (.goto t) k X W'
 | .panic _, _, _ => False
 | .outgrown, _, _ => False
structure Turned (l : Nat) (W W' : World) : Prop where
 size : W'.heap.size = W.heap.size
 block : ∀ b, b ≠ l → W'.heap[b]? = W.heap[b]?
 cell : ∀ p, W'.cell? p = W.cell? p
 frozen : ∀ p, W'.frozen? p = W.frozen? p
theorem turned_putObj {W : World} {l : Nat} {o o' : Obj} (h : W.heap[l]? = some o) (ho : o.isCells = false) (ho' : o'.isCells = false) : Turned l W (W.putObj l o') := by
 have hl := (Array.getElem?_eq_some_iff.1 h).1
 refine ⟨by simp, fun b hb => World.putObj_heap_other hb, fun p => ?_, fun p => ?_⟩
 · by_cases e : p.block = l
   · have h1 := World.putObj_heap_same (w := W) (o := o') hl
     rw [← e] at h h1 hl
     unfold World.cell?
     rw [e] at h1 h ⊢
     rw [h1, h]
     cases o <;> cases o' <;> first | rfl | (simp [Obj.isCells] at ho ho')
   · exact World.cell?_of_block (World.putObj_heap_other e)
 · by_cases e : p.block = l
   · have h1 := World.putObj_heap_same (w := W) (o := o') hl
     unfold World.frozen?
     rw [e, h1, h]
     cases o <;> cases o' <;> first | rfl | (simp [Obj.isCells] at ho ho')
   · exact World.frozen?_of_block (World.putObj_heap_other e)
def ext (X : Nat → Prop) (D : Nat) : Nat → Prop := fun b => X b ∨ b = D ∨ b = D + 1
def afterAssign (P : Program) (K X : Nat → Prop) (I : Nat → (Nat → Prop) → World → Prop) (Ix : Code → Nat → (Nat → Prop) → World → Prop) (l k : Nat) (body : Code) (W : World) (a₁ : Act) (W₁ : World) : Prop :=
 W.heap.size ≤ W₁.heap.size ∧ (∀ b, X b ∨ K b → W₁.heap[b]? = W.heap[b]?) ∧
  ∀ W₂, Turned l W₁ W₂ → Foreign X W₁ W₂ → (I k X W₁ → I k X W₂) → body.wpIn (Fence.wide.inRound l) 0 P (roundEnd K X I Ix k W₂) a₁ W₂
section
variable {Q : Exit → Act → World → Prop} {J : Act → World → Prop} {a : Act} {w : World} {l : Nat}
@[local go_sem] theorem jump_normal : Exit.jump l J Q .normal a w = Q .normal a w := rfl
@[local go_sem] theorem jump_exit (id : Nat) : Exit.jump l J Q (.exit id) a w = Q (.exit id) a w := rfl
@[local go_sem] theorem jump_ret : Exit.jump l J Q .ret a w = Q .ret a w := rfl
@[local go_sem] theorem jump_panic (ch : List PanicEntry) : Exit.jump l J Q (.panic ch) a w = Q (.panic ch) a w := rfl
@[local go_sem] theorem jump_goto : Exit.jump l J Q (.goto l) a w = J a w := by simp [Exit.jump]
end
theorem marks_call {P : Program} {f : FuncId} {fn : Func} {c : Code} {args : Array Value} {w : World} {R : Ending → World → Prop}
 (hf : P.funcs[f]? = some fn) (hb : fn.body = some c)
 (h : c.wp P (bodyPostM Fence.wide 0 P fn R) { tmps := args ++ Array.replicate (fn.ntmps - args.size) undef, defers := [] } w) : Calls P f args w R :=
 callsIn_wide.1 (callsIn_of_wp_marks hf hb trivial (wpIn_wide.2 h) rfl)
theorem marks_ret {P : Program} {fn : Func} {R : Ending → World → Prop} (tmps : Array Value) : ∀ (Ds : List Nat) (W : World), Ds.Nodup → (∀ D ∈ Ds, W.heap[D]? = some (.deferred (some []))) →
    (∀ W' : World, W'.os = W.os → W'.tape = W.tape → W'.output = W.output → W'.heap.size = W.heap.size → (∀ p, W'.cell? p = W.cell? p) → (∀ p, W'.frozen? p = W.frozen? p) → (∀ b, b ∉ Ds → W'.heap[b]? = W.heap[b]?) →
      ∃ v, (results fn tmps).run P W' = .ok v W' ∧ R (.returned v) W') →
    LeavesInM Fence.wide 0 P fn tmps R (Ds.map fun D => { target := .collected D, args := #[] }) .returning W
  | [], W, _, _, h => h W rfl rfl rfl rfl (fun _ => rfl) (fun _ => rfl) (fun _ _ => rfl)
  | D :: Ds, W, hn, hk, h => by
    have hD := hk D (by simp)
    rw [List.nodup_cons] at hn
    have hT : Turned D W (W.putObj D (.deferred none)) := turned_putObj hD rfl rfl
    refine ⟨by simp, .inl ⟨D, _, rfl, run_takeDeferred hD, ?_⟩⟩
    refine marks_ret tmps Ds _ hn.2 (fun D' h' => (hT.block D' (fun e => hn.1 (e ▸ h'))).trans (hk D' (by simp [h']))) ?_
    intro W' h1 h2 h3 h4 h5 h6 h7
    refine h W' h1 h2 h3 (h4.trans hT.size) (fun p => (h5 p).trans (hT.cell p)) (fun p => (h6 p).trans (hT.frozen p)) (fun b hb => ?_)
    simp only [List.mem_cons, not_or] at hb
    exact (h7 b hb.2).trans (hT.block b hb.1)
end Go.Proofs.YtakbgccddokbbaaGreatDoor
namespace Go.Proofs.YtakbgccddokbbaaGreatDoor
open Go.RowKit
abbrev Fz (r : Option Nat) : Fence := { Fence.wide with round := r }
structure Res where
 own : Nat → Prop
 says : World → Prop
 dep : ∀ W W' : World, (∀ b, own b → W'.heap[b]? = W.heap[b]?) → says W → says W'
 lt : ∀ W : World, says W → ∀ b, own b → b < W.heap.size
def Res.blk (b : Nat) (T : TypeId) (cs : List Value) : Res where
 own := fun g => g = b
 says := fun W => W.heap[b]? = some (.cells cs.toArray T (0, 0))
 dep := fun W W' h hs => (h b rfl).trans hs
 lt := fun W hs g hg => by subst hg; exact (Array.getElem?_eq_some_iff.1 hs).1
def Res.row (e : TypeId) (size : Nat) (v : Value) (n : Nat) (xs : List Value) : Res where
 own := fun g => v.ownBlock = some g
 says := fun W => W.ownsRow 0 e size v n xs
 dep := fun W W' h hs => own_keep hs fun g hg => h g hg
 lt := fun W hs g hg => (hs.lt g hg).2
structure Fact where
 p : (Nat → Prop) → World → Prop
 fr : Fr p
def ownL : List Res → Nat → Prop
 | [], _ => False
 | r :: R, b => r.own b ∨ ownL R b
def Sep (X : Nat → Prop) (W : World) : List Res → Prop
 | [] => True
 | r :: R => r.says W ∧ (∀ b, r.own b → ¬ X b ∧ ¬ ownL R b) ∧ Sep X W R
structure Cx where
 X0 : Nat → Prop
 M0 : Nat → Prop
 W0 : World
structure Sat (C : Cx) (R : List Res) (Φ : List Fact) (W : World) : Prop where
 ev : Foreign C.M0 C.W0 W
 sep : Sep C.X0 W R
 ours : ∀ b, ownL R b → C.M0 b ∨ C.W0.heap.size ≤ b
 x0 : ∀ b, C.X0 b → b < W.heap.size
 facts : ∀ φ ∈ Φ, φ.p (fun b => C.X0 b ∨ ownL R b) W
def elook : Nat → List (Nat × Value) → Option Value
  | _, [] => none
  | t, (d, v) :: l => match Nat.beq t d with
    | true => some v
    | false => elook t l
structure Env (n : Nat × List Nat) (env : List (Nat × Value)) (a : Act) : Prop where
 defers : a.defers = n.2.map fun D => { target := .collected D, args := #[] }
 size : a.tmps.size = n.1
 at_ : ∀ t v, elook t env = some v → a.tmps[t]? = some v
def opv (env : List (Nat × Value)) : Operand → Option Value
 | .tmp t => elook t env
 | .const v => some v
 | .global g => some (.pointer (some ⟨g, 0, none⟩))
 | .func f => some (.func (.func f) #[] #[])
theorem Env.eval {n : Nat × List Nat} {env : List (Nat × Value)} {a : Act} (h : Env n env a) {x : Operand} {v : Value} (hx : opv env x = some v) : a.eval x = v := by
  cases x with
  | tmp t =>
    have := h.at_ t v hx
    simp [Act.eval, Array.getD_eq_getD_getElem?, this]
  | const u => simpa [opv, Act.eval] using hx
  | global g => simpa [opv, Act.eval] using hx
  | func f => simpa [opv, Act.eval] using hx
theorem Env.put {n : Nat × List Nat} {env : List (Nat × Value)} {a : Act} (h : Env n env a) {d : Nat} (hd : d < n.1) (v : Value) : Env n ((d, v) :: env) (a.put (some d) v) := by
  refine ⟨h.defers, by simp [Act.put, h.size], fun t u hu => ?_⟩
  simp only [elook] at hu
  cases hb : Nat.beq t d with
  | true =>
    rw [hb] at hu
    have : t = d := Nat.eq_of_beq_eq_true hb
    subst this
    simp at hu
    subst hu
    exact put_at' a t v (by rw [h.size]; exact hd)
  | false =>
    rw [hb] at hu
    have hne : t ≠ d := fun e => by subst e; simp at hb
    have := h.at_ t u hu
    simpa [Act.put, Array.getElem?_setIfInBounds_ne (Ne.symm hne)] using this
where put_at' (a : Act) (d : Tmp) (v : Value) (hd : d < a.tmps.size) : (a.put (some d) v).tmps[d]? = some v := by simp [Act.put, hd]
theorem Env.skip {n : Nat × List Nat} {env : List (Nat × Value)} {a : Act} (h : Env n env a) (v : Value) : Env n env (a.put none v) := h
def Jl (P : Program) (r : Option Nat) (C : Cx) (n : Nat × List Nat) (ops : Array Oper) (Q : Exit → Act → World → Prop) (l : List Oper) (env : List (Nat × Value)) (R : List Res) (Φ : List Fact) : Prop :=
 ∀ a W, Env n env a → Sat C R Φ W → wpListIn (Fz r) 0 P ops Q l a W
def Jc (P : Program) (r : Option Nat) (C : Cx) (n : Nat × List Nat) (Q : Exit → Act → World → Prop) (c : Code) (env : List (Nat × Value)) (R : List Res) (Φ : List Fact) : Prop :=
 ∀ a W, Env n env a → Sat C R Φ W → c.wpIn (Fz r) 0 P Q a W
def Jq (C : Cx) (n : Nat × List Nat) (Q : Exit → Act → World → Prop) (e : Exit) (env : List (Nat × Value)) (R : List Res) (Φ : List Fact) : Prop :=
 ∀ a W, Env n env a → Sat C R Φ W → Q e a W
theorem fz_about (P : Program) (r : Option Nat) (o : Oper) (a : Act) (W : World) : ∀ f, o.about P W a.eval = some f → (Fz r).fn f := fun _ _ => trivial
theorem sem_plain (r : Option Nat) (ρ : Operand → Value) (o : Oper) (h : ∀ c, o.op ≠ .defer c) : o.semAt (Fz r).round ρ = execOp ρ o := Oper.semAt_plain (Fz r) ρ o h
theorem ownL_mem {R : List Res} {b : Nat} : ownL R b ↔ ∃ r ∈ R, r.own b := by
 induction R with
 | nil => simp [ownL]
 | cons r R ih => simp [ownL, ih]
theorem Sep.lt {X : Nat → Prop} {W : World} : ∀ {R : List Res}, Sep X W R → ∀ b, ownL R b → b < W.heap.size
 | [], _, _, h => h.elim
 | r :: R, hs, b, h => h.elim (r.lt W hs.1 b) (Sep.lt hs.2.2 b)
theorem Sep.notX {X : Nat → Prop} {W : World} : ∀ {R : List Res}, Sep X W R → ∀ b, ownL R b → ¬ X b
 | [], _, _, h => h.elim
 | r :: R, hs, b, h => h.elim (fun h => (hs.2.1 b h).1) (Sep.notX hs.2.2 b)
theorem Sep.keep {X : Nat → Prop} {W W' : World} : ∀ {R : List Res}, Sep X W R → (∀ b, ownL R b → W'.heap[b]? = W.heap[b]?) → Sep X W' R
 | [], _, _ => trivial
 | r :: R, hs, h => ⟨r.dep W W' (fun b hb => h b (.inl hb)) hs.1, hs.2.1, Sep.keep hs.2.2 fun b hb => h b (.inr hb)⟩
theorem Sat.step {C : Cx} {R R' : List Res} {Φ : List Fact} {W W' : World} (h : Sat C R Φ W) (hf : Foreign (ownL R) W W') (hs : Sep C.X0 W' R')
 (hR : ∀ b, ownL R' b → ownL R b ∨ W.heap.size ≤ b) : Sat C R' Φ W' := by
 refine ⟨⟨hf.os.trans h.ev.os, hf.tape.trans h.ev.tape, hf.output.trans h.ev.output, Nat.le_trans h.ev.size hf.size, fun b hb hm => ?_⟩, hs, fun b hb => ?_, fun b hb => Nat.lt_of_lt_of_le (h.x0 b hb) hf.size, fun φ hφ => ?_⟩
 · refine (hf.block b (Nat.lt_of_lt_of_le hb h.ev.size) fun hb' => ?_).trans (h.ev.block b hb hm)
   rcases h.ours b hb' with h1 | h1
   · exact hm h1
   · omega
 · rcases hR b hb with h1 | h1
   · exact h.ours b h1
   · exact .inr (Nat.le_trans h.ev.size h1)
 · refine φ.fr _ _ W W' (h.facts φ hφ) ⟨hf.os, hf.tape, hf.output, hf.size, fun b hb hx => hf.block b hb fun h1 => hx (.inr h1)⟩ fun b hb => ?_
   rcases hb with hb | hb
   · exact .inl (.inl hb)
   · rcases hR b hb with h1 | h1
     · exact .inl (.inr h1)
     · exact .inr ⟨h1, hs.lt b hb⟩
theorem Sat.size {C : Cx} {R : List Res} {Φ : List Fact} {W : World} (h : Sat C R Φ W) : C.W0.heap.size ≤ W.heap.size := h.ev.size
theorem Sat.x0lt {C : Cx} {R : List Res} {Φ : List Fact} {W : World} (h : Sat C R Φ W) : ∀ b, C.X0 b → b < W.heap.size := h.x0
theorem Sat.grow {C : Cx} {R : List Res} {Φ : List Fact} {W W' : World} (h : Sat C R Φ W) (hf : Foreign (fun _ => False) W W') : Sat C R Φ W' :=
 h.step ⟨hf.os, hf.tape, hf.output, hf.size, fun b hb _ => hf.block b hb id⟩ (h.sep.keep fun b hb => hf.block b (h.sep.lt b hb) id) fun b hb => .inl hb
theorem Sat.new {C : Cx} {R : List Res} {Φ : List Fact} {W : World} (h : Sat C R Φ W) (cs : List Value) (T : TypeId) :
 Sat C (.blk W.heap.size T cs :: R) Φ (W.alloc (.cells cs.toArray T)) := by
 refine h.step (W' := W.alloc (.cells cs.toArray T)) ((Foreign.alloc _ W _)) ⟨World.alloc_heap_new W _, fun b hb => ?_, (h.sep.keep fun b hb => Below.heap_alloc W _ b (h.sep.lt b hb))⟩ fun b hb => ?_
 · subst hb
   exact ⟨fun hx => absurd (h.x0lt _ hx) (Nat.lt_irrefl _), fun hx => absurd (h.sep.lt _ hx) (Nat.lt_irrefl _)⟩
 · rcases hb with hb | hb
   · exact .inr (Nat.le_of_eq hb.symm)
   · exact .inl hb
def Has (b : Nat) (T : TypeId) (cs : List Value) : List Res → Prop
 | [] => False
 | r :: R => r = .blk b T cs ∨ Has b T cs R
theorem Has.here {b : Nat} {T : TypeId} {cs : List Value} {R : List Res} : Has b T cs (.blk b T cs :: R) := .inl rfl
theorem Has.there {b : Nat} {T : TypeId} {cs : List Value} {r : Res} {R : List Res} (h : Has b T cs R) : Has b T cs (r :: R) := .inr h
theorem Has.says {b : Nat} {T : TypeId} {cs : List Value} {R : List Res} (h : Has b T cs R) {X : Nat → Prop} {W : World} (hs : Sep X W R) : W.heap[b]? = some (.cells cs.toArray T (0, 0)) := by
  induction R with
  | nil => exact h.elim
  | cons r R ih =>
    rcases h with rfl | h
    · exact hs.1
    · exact ih h hs.2.2
theorem Has.own {b : Nat} {T : TypeId} {cs : List Value} {R : List Res} (h : Has b T cs R) : ownL R b := by
  induction R with
  | nil => exact h.elim
  | cons r R ih =>
    rcases h with rfl | h
    · exact .inl rfl
    · exact .inr (ih h)
def Swap (r r' : Res) : List Res → List Res → Prop
 | x :: R, y :: R' => (x = r ∧ y = r' ∧ R = R') ∨ (x = y ∧ Swap r r' R R')
 | _, _ => False
theorem Swap.here {r r' : Res} {R : List Res} : Swap r r' (r :: R) (r' :: R) := .inl ⟨rfl, rfl, rfl⟩
theorem Swap.there {r r' x : Res} {R R' : List Res} (h : Swap r r' R R') : Swap r r' (x :: R) (x :: R') := .inr ⟨rfl, h⟩
theorem Swap.rec_ {r r' : Res} {p : List Res → List Res → Prop} (h1 : ∀ R, p (r :: R) (r' :: R)) (h2 : ∀ x R R', Swap r r' R R' → p R R' → p (x :: R) (x :: R')) : ∀ {R R' : List Res}, Swap r r' R R' → p R R'
  | x :: R, y :: R', h => by
    rcases h with ⟨rfl, rfl, rfl⟩ | ⟨rfl, h⟩
    · exact h1 _
    · exact h2 _ _ _ h (Swap.rec_ h1 h2 h)
theorem Swap.old {r r' : Res} {R R' : List Res} (h : Swap r r' R R') {X : Nat → Prop} {W : World} (hs : Sep X W R) : r.says W := by
 revert hs
 refine Swap.rec_ (p := fun R _ => Sep X W R → r.says W) (fun R hs => hs.1) (fun x R R' _ ih hs => ih hs.2.2) h
theorem Swap.own {r r' : Res} {R R' : List Res} (h : Swap r r' R R') {b : Nat} (hb : r.own b) : ownL R b :=
 Swap.rec_ (p := fun R _ => ownL R b) (fun R => .inl hb) (fun x R R' _ ih => .inr ih) h
theorem Swap.own' {r r' : Res} {R R' : List Res} (h : Swap r r' R R') {b : Nat} (hb : ownL R' b) : r'.own b ∨ ownL R b := by
 revert hb
 refine Swap.rec_ (p := fun R R' => ownL R' b → r'.own b ∨ ownL R b) (fun R hb => hb.imp id .inr) (fun x R R' _ ih hb => ?_) h
 rcases hb with hb | hb
 · exact .inr (.inl hb)
 · exact (ih hb).imp id .inr
theorem Swap.sep {r r' : Res} {R R' : List Res} (h : Swap r r' R R') {X : Nat → Prop} {W W' : World} (hs : Sep X W R) (hX : ∀ b, X b → b < W.heap.size) (hr : r'.says W') (hn : ∀ b, r'.own b → r.own b ∨ W.heap.size ≤ b)
 (hk : ∀ b, ownL R b → ¬ r.own b → W'.heap[b]? = W.heap[b]?) : Sep X W' R' := by
 revert hs hk
 refine Swap.rec_ (p := fun R R' => Sep X W R → (∀ b, ownL R b → ¬ r.own b → W'.heap[b]? = W.heap[b]?) → Sep X W' R') ?_ ?_ h
 · intro R hs hk
   refine ⟨hr, fun b hb => ?_, hs.2.2.keep fun b hb => hk b (.inr hb) fun h1 => (hs.2.1 b h1).2 hb⟩
   rcases hn b hb with h1 | h1
   · exact hs.2.1 b h1
   · exact ⟨fun hx => by have := hX b hx; omega, fun hx => by have := hs.2.2.lt b hx; omega⟩
 · intro x R R' h0 ih hs hk
   refine ⟨x.dep W W' (fun b hb => hk b (.inl hb) fun h1 => (hs.2.1 b hb).2 (h0.own h1)) hs.1, fun b hb => ⟨(hs.2.1 b hb).1, fun h1 => ?_⟩, ih hs.2.2 (fun b hb h1 => hk b (.inr hb) h1)⟩
   rcases h0.own' h1 with h2 | h2
   · rcases hn b h2 with h3 | h3
     · exact (hs.2.1 b hb).2 (h0.own h3)
     · have := x.lt W hs.1 b hb; omega
   · exact (hs.2.1 b hb).2 h2
theorem Sat.swap {C : Cx} {R R' : List Res} {Φ : List Fact} {W W' : World} {r r' : Res} (h : Sat C R Φ W) (hw : Swap r r' R R') (hf : Foreign r.own W W') (hr : r'.says W')
 (hn : ∀ b, r'.own b → r.own b ∨ W.heap.size ≤ b) : Sat C R' Φ W' :=
 h.step ⟨hf.os, hf.tape, hf.output, hf.size, fun b hb hx => hf.block b hb fun h1 => hx (hw.own h1)⟩ (hw.sep h.sep h.x0lt hr hn fun b hb h1 => hf.block b (h.sep.lt b hb) h1) fun b hb => by
  rcases hw.own' hb with h1 | h1
  · rcases hn b h1 with h2 | h2
    · exact .inl (hw.own h2)
    · exact .inr h2
  · exact .inl h1
def Mem (φ : Fact) : List Fact → Prop
 | [] => False
 | x :: Φ => x = φ ∨ Mem φ Φ
theorem Mem.here {φ : Fact} {Φ : List Fact} : Mem φ (φ :: Φ) := .inl rfl
theorem Mem.there {φ x : Fact} {Φ : List Fact} (h : Mem φ Φ) : Mem φ (x :: Φ) := .inr h
theorem Mem.mem {φ : Fact} {Φ : List Fact} (h : Mem φ Φ) : φ ∈ Φ := by
  induction Φ with
  | nil => exact h.elim
  | cons x Φ ih =>
    rcases h with rfl | h
    · exact List.mem_cons_self ..
    · exact List.mem_cons_of_mem _ (ih h)
theorem Sat.fact {C : Cx} {R : List Res} {Φ : List Fact} {W : World} (h : Sat C R Φ W) {φ : Fact} (hm : Mem φ Φ) : φ.p (fun b => C.X0 b ∨ ownL R b) W := h.facts φ hm.mem
theorem Sat.add {C : Cx} {R : List Res} {Φ : List Fact} {W : World} (h : Sat C R Φ W) {φ : Fact} (hp : φ.p (fun b => C.X0 b ∨ ownL R b) W) : Sat C R (φ :: Φ) W :=
 ⟨h.ev, h.sep, h.ours, h.x0, fun x hx => by
  rcases List.mem_cons.1 hx with rfl | hx
  · exact hp
  · exact h.facts x hx⟩
def Fact.rd (A : Option Addr) (xs : List Value) : Fact where
 p := fun X W => ∀ j u, xs[j]? = some u → ∃ a, A = some a ∧ a.block < W.heap.size ∧ ¬ X a.block ∧ W.cell? (a.add j) = some u
 fr := fun X X' W W' h hf hx j u hu => by
  obtain ⟨a, rfl, h1, h2, h3⟩ := h j u hu
  refine ⟨a, rfl, Nat.lt_of_lt_of_le h1 hf.size, fun h4 => (hx _ h4).elim h2 (fun h5 => by omega), ?_⟩
  rw [← h3]
  exact World.cell?_of_block (by rw [add_block]; exact hf.block _ h1 h2)
def Fact.is (c : Prop) : Fact := ⟨fun _ _ => c, Fr.pure c⟩
section rules
variable {P : Program} {r : Option Nat} {C : Cx} {n : Nat × List Nat} {ops : Array Oper} {Q : Exit → Act → World → Prop} {rest : List Oper} {env : List (Nat × Value)} {R : List Res} {Φ : List Fact}
theorem Jl.qn (h : Jq C n Q .normal env R Φ) : Jl P r C n ops Q [] env R Φ := h
theorem oper_plain {o : Oper} {K : Act → World → Prop} {a : Act} {W : World} (hnd : ∀ c, o.op ≠ .defer c) (h : o.uponIn (Fz r) 0 P a K Q ((execOp a.eval o).run P W)) : o.wpIn (Fz r) 0 P a W K Q :=
 ⟨fz_about P r o a W, by rw [sem_plain r _ o hnd]; exact h⟩
theorem Jl.val {d : Nat} {op : Op} {T : TypeId} {pos : String} {af : Array Edge} {v : Value} (hd : Nat.blt d n.1 = true) (hnd : ∀ c, op ≠ .defer c)
 (hrun : ∀ a W, Env n env a → Sat C R Φ W → (execOp a.eval ⟨some d, op, T, pos, af, none⟩).run P W = .ok (.value v) W)
 (k : Jl P r C n ops Q rest ((d, v) :: env) R Φ) : Jl P r C n ops Q (⟨some d, op, T, pos, af, none⟩ :: rest) env R Φ := fun a W he hs =>
 wpListIn_plain rfl fun K hK => oper_plain hnd (by rw [hrun a W he hs]; exact hK _ _ (k _ W (he.put (Nat.le_of_ble_eq_true hd) v) hs))
def PR (P : Program) (C : Cx) (n : Nat × List Nat) (env : List (Nat × Value)) (R : List Res) (Φ : List Fact) (op : Op) (T : TypeId) (v : Value) : Prop :=
 ∀ a W, Env n env a → Sat C R Φ W → ∀ d pos af g, (execOp a.eval ⟨d, op, T, pos, af, g⟩).run P W = .ok (.value v) W
theorem defer_run {P : Program} {W : World} {a : Act} {d : Option Tmp} {c : Call} {T : TypeId} {pos : String} {af : Array Edge} {g : Option (Nat × Bool)} {v : Value} (h : (execOp a.eval ⟨d, .defer c, T, pos, af, g⟩).run P W = .ok (.value v) W) : False := by
 simp only [execOp, Sem.run_bind] at h
 cases hr : (resolve a.eval c T).run P W with
 | ok x w => rw [hr] at h; simp at h
 | halt x w => rw [hr] at h; simp [Result.andThen] at h
theorem Jl.pv {d : Nat} {op : Op} {T : TypeId} {pos : String} {af : Array Edge} {v : Value} (h : PR P C n env R Φ op T v) (k : Jl P r C n ops Q rest ((d, v) :: env) R Φ) (hd : Nat.blt d n.1 = true := by rfl) :
 Jl P r C n ops Q (⟨some d, op, T, pos, af, none⟩ :: rest) env R Φ := fun a W he hs => by
 have hrun := h a W he hs (some d) pos af none
 have hnd : ∀ c, op ≠ .defer c := fun c e => by subst e; exact defer_run hrun
 exact wpListIn_plain rfl fun K hK => oper_plain hnd (by rw [hrun]; exact hK _ _ (k _ W (he.put (Nat.le_of_ble_eq_true hd) v) hs))
theorem Jl.valx {d : Nat} {op : Op} {T : TypeId} {pos : String} {af : Array Edge} (hd : Nat.blt d n.1 = true) (hnd : ∀ c, op ≠ .defer c)
 (hrun : ∀ a W, Env n env a → Sat C R Φ W → ∃ v W' R' Φ', (execOp a.eval ⟨some d, op, T, pos, af, none⟩).run P W = .ok (.value v) W' ∧ Sat C R' Φ' W' ∧ Jl P r C n ops Q rest ((d, v) :: env) R' Φ') :
 Jl P r C n ops Q (⟨some d, op, T, pos, af, none⟩ :: rest) env R Φ := fun a W he hs => by
 obtain ⟨v, W', R', Φ', h1, h2, h3⟩ := hrun a W he hs
 exact wpListIn_plain rfl fun K hK => oper_plain hnd (by rw [h1]; exact hK _ _ (h3 _ W' (he.put (Nat.le_of_ble_eq_true hd) v) h2))
theorem Jl.act {op : Op} {T : TypeId} {pos : String} {af : Array Edge} (hnd : ∀ c, op ≠ .defer c)
 (hrun : ∀ a W, Env n env a → Sat C R Φ W → ∃ W' R' Φ', (execOp a.eval ⟨none, op, T, pos, af, none⟩).run P W = .ok .skip W' ∧ Sat C R' Φ' W' ∧ Jl P r C n ops Q rest env R' Φ') :
 Jl P r C n ops Q (⟨none, op, T, pos, af, none⟩ :: rest) env R Φ := fun a W he hs => by
 obtain ⟨W', R', Φ', h1, h2, h3⟩ := hrun a W he hs
 exact wpListIn_plain rfl fun K hK => oper_plain hnd (by rw [h1]; exact hK _ _ (h3 _ W' (he.skip _) h2))
theorem Jl.on {d : Option Nat} {op : Op} {T : TypeId} {pos : String} {af : Array Edge} {j : Nat} {want : Bool} {t : Nat} (hj : (ops[j]?).bind (·.dst) = some t) (ht : elook t env = some (.bool want))
 (k : Jl P r C n ops Q (⟨d, op, T, pos, af, none⟩ :: rest) env R Φ) : Jl P r C n ops Q (⟨d, op, T, pos, af, some (j, want)⟩ :: rest) env R Φ := fun a W he hs => by
 have h := k a W he hs
 have hy : yielded ops a.tmps j = some want := by
  unfold yielded
  have := he.at_ t _ ht
  simp [hj, this]
 unfold wpListIn at h ⊢
 rw [if_pos (by rfl)] at h
 rw [if_pos (by simp [Region.wanted, hy])]
 exact h
theorem Jl.off {d : Option Nat} {op : Op} {T : TypeId} {pos : String} {af : Array Edge} {j : Nat} {want b : Bool} {t : Nat} (hj : (ops[j]?).bind (·.dst) = some t) (ht : elook t env = some (.bool b)) (hb : b = !want)
 (hd : (match d with | some x => Nat.blt x n.1 | none => true) = true) (k : Jl P r C n ops Q rest (match d with | some x => (x, undef) :: env | none => env) R Φ) : Jl P r C n ops Q (⟨d, op, T, pos, af, some (j, want)⟩ :: rest) env R Φ := fun a W he hs => by
 have hy : yielded ops a.tmps j = some b := by
  unfold yielded
  have := he.at_ t _ ht
  simp [hj, this]
 unfold wpListIn
 rw [if_neg (by simp [Region.wanted, hy, hb])]
 refine ⟨fz_about P r _ a W, ?_⟩
 cases d with
 | none => exact k _ W he hs
 | some x => exact k _ W (he.put (Nat.le_of_ble_eq_true hd) _) hs
theorem Jl.offU {d : Option Nat} {op : Op} {T : TypeId} {pos : String} {af : Array Edge} {j : Nat} {want : Bool} {t : Nat} (hj : (ops[j]?).bind (·.dst) = some t) (ht : elook t env = some undef)
 (hd : (match d with | some x => Nat.blt x n.1 | none => true) = true) (k : Jl P r C n ops Q rest (match d with | some x => (x, undef) :: env | none => env) R Φ) : Jl P r C n ops Q (⟨d, op, T, pos, af, some (j, want)⟩ :: rest) env R Φ := fun a W he hs => by
 have hy : yielded ops a.tmps j = none := by
  unfold yielded
  have := he.at_ t _ ht
  simp [hj, this, undef]
 unfold wpListIn
 rw [if_neg (by simp [Region.wanted, hy])]
 refine ⟨fz_about P r _ a W, ?_⟩
 cases d with
 | none => exact k _ W he hs
 | some x => exact k _ W (he.put (Nat.le_of_ble_eq_true hd) _) hs
theorem Jl.as {d : Nat} {v : Value} (v' : Value) (h : v = v') (k : Jl P r C n ops Q rest ((d, v') :: env) R Φ) : Jl P r C n ops Q rest ((d, v) :: env) R Φ := by subst h; exact k
theorem Jl.qo {d : Nat} {op : Op} {T : TypeId} {pos : String} {af : Array Edge} {j : Nat} {want b : Bool} {t : Nat} (hj : (ops[j]?).bind (·.dst) = some t) (ht : elook t env = some (.bool b)) (hb : b = !want)
 (k : Jl P r C n ops Q rest ((d, undef) :: env) R Φ) (hd : Nat.blt d n.1 = true := by rfl) : Jl P r C n ops Q (⟨some d, op, T, pos, af, some (j, want)⟩ :: rest) env R Φ := Jl.off hj ht hb hd k
theorem Jl.offUS {d : Nat} {op : Op} {T : TypeId} {pos : String} {af : Array Edge} {j : Nat} {want : Bool} {t : Nat} (hj : (ops[j]?).bind (·.dst) = some t) (ht : elook t env = some undef)
 (k : Jl P r C n ops Q rest ((d, undef) :: env) R Φ) (hd : Nat.blt d n.1 = true := by rfl) : Jl P r C n ops Q (⟨some d, op, T, pos, af, some (j, want)⟩ :: rest) env R Φ := Jl.offU hj ht hd k
end rules
end Go.Proofs.YtakbgccddokbbaaGreatDoor
namespace Go.Proofs.YtakbgccddokbbaaGreatDoor
theorem zV {p : Prop} [i : Decidable p] (h : decide p = true) : p := of_decide_eq_true h
theorem zW {p : Prop} [i : Decidable p] (h : decide p = false) : ¬ p := of_decide_eq_false h
end Go.Proofs.YtakbgccddokbbaaGreatDoor
namespace Go.Proofs.YtakbgccddokbbaaGreatDoor
theorem zM {f : Fact} {a : List Fact} (h : Mem f a := by repeat (first | exact Mem.here | apply Mem.there)) : Mem f a := h
theorem zS {r q : Res} {a b : List Res} (h : Swap r q a b := by repeat (first | exact Swap.here | apply Swap.there)) : Swap r q a b := h
theorem zH {b : Nat} {t : TypeId} {v : List Value} {a : List Res} (h : Has b t v a := by repeat (first | exact Has.here | apply Has.there)) : Has b t v a := h
end Go.Proofs.YtakbgccddokbbaaGreatDoor
namespace Go.Proofs.YtakbgccddokbbaaGreatDoor
open Go.RowKit
theorem bytes_push (l : List UInt8) : ∀ s : ByteArray, (l.map fun b => (b.toNat : Int)).foldl (fun r n => r.push (UInt8.ofNat n.toNat)) s = ⟨s.data ++ l.toArray⟩ := by
  induction l with
  | nil => intro s; simp
  | cons b l ih =>
    intro s
    rw [List.map_cons, List.foldl_cons, ih]
    have : UInt8.ofNat (b.toNat : Int).toNat = b := by simp
    rw [this]
    simp [ByteArray.push]
theorem run_string {P : Program} {w : World} {src dst e : TypeId} (hs : P.underlying src = some (.slice e)) (he : P.underlying e = some (.int .u8)) (hd : P.underlying dst = some .string)
    {lo hi : Nat} {A : Option Addr} {l : List UInt8} (hr : Rd w lo hi A (u8s l)) (c : Nat) : (convert src dst (.slice A l.length c)).run P w = .ok (.string ⟨l.toArray⟩) w := by
  rw [run_convert_bytes_string w src dst e A l.length c hs he hd]
  cases A with
  | none =>
    have hl : l = [] := by simpa [u8s] using hr.none_
    subst hl
    simp [Conv.bytesToString]
    rfl
  | some a =>
    have h := run_firstCells_some (P := P) w 1 l.length a l.length c (u8s l) (by simp) (fun j u hu => by obtain ⟨a', e, _, _, hc⟩ := hr j u hu; injection e with e; subst e; exact hc)
    have hm : u8s l = (l.map fun b => (b.toNat : Int)).map (Value.int .u8) := by simp [u8s]
    rw [run_bytesToString (P := P) w a l.length c (l.map fun b => (b.toNat : Int)) (by rw [← hm]; simpa [Builtin.firstCells] using h)]
    rw [bytes_push]
    simp
end Go.Proofs.YtakbgccddokbbaaGreatDoor
namespace Go.Proofs.YtakbgccddokbbaaGreatDoor
open Go.RowKit
def tshape (P : Program) (t : TypeId) : Option (Bool × Nat) :=
 match P.underlying t, P.info? t with
 | some (.struct _), some i => some (true, i.size)
 | some (.array _ _), some i => some (true, i.size)
 | some _, some i => some (false, i.size)
 | _, _ => none
def tzero (P : Program) (t : TypeId) : Option (List Value) := ((P.info? t).bind (·.zero)).map (·.cells.toList)
def tslice (P : Program) (t : TypeId) : Option (TypeId × Nat) :=
 match P.underlying t with
 | some (.slice e) => (P.info? e).map fun i => (e, i.size)
 | _ => none
def tarray (P : Program) (t : TypeId) : Option (Nat × TypeId × Nat) :=
 match P.underlying t with
 | some (.array n e) => (P.info? e).map fun i => (n, e, i.size)
 | _ => none
def tfield (P : Program) (t : TypeId) (f : Nat) : Option (Nat × Nat) :=
 match P.underlying t with
 | some (.struct fs) => (fs[f]?).bind fun x => (P.info? x.type).map fun i => (x.offset, i.size)
 | _ => none
def opvs (env : List (Nat × Value)) : List Operand → Option (List Value)
  | [] => some []
  | x :: l => match opv env x, opvs env l with
    | some v, some vs => some (v :: vs)
    | _, _ => none
theorem opvs_eval {n : Nat × List Nat} {env : List (Nat × Value)} {a : Act} (he : Env n env a) : ∀ {l : List Operand} {vs : List Value}, opvs env l = some vs → l.map a.eval = vs
  | [], vs, h => by simp [opvs] at h; simp [h]
  | x :: l, vs, h => by
    simp only [opvs] at h
    split at h
    · rename_i v vs' h1 h2
      simp at h
      subst h
      simp [he.eval h1, opvs_eval he h2]
    · cases h
section sems
variable {P : Program} {w : World}
theorem tshape_spec {t : TypeId} {b : Bool} {k : Nat} (h : tshape P t = some (b, k)) : ∃ d i, P.underlying t = some d ∧ P.info? t = some i ∧ i.size = k ∧ (match d with | .struct _ | .array _ _ => true | _ => false) = b := by
  unfold tshape at h
  cases hu : P.underlying t with
  | none => rw [hu] at h; cases h
  | some d =>
    cases hi : P.info? t with
    | none => rw [hu, hi] at h; cases d <;> cases h
    | some i =>
      rw [hu, hi] at h
      refine ⟨d, i, rfl, rfl, ?_⟩
      cases d <;> simp at h <;> simp [h]
theorem run_isAgg_ts {t : TypeId} {b : Bool} {k : Nat} (h : tshape P t = some (b, k)) : (isAgg t).run P w = .ok b w := by
 obtain ⟨d, i, hu, _, _, hd⟩ := tshape_spec h
 unfold isAgg
 rw [Sem.run_bind, run_underlying hu w]
 cases d <;> simp_all
theorem run_sizeOf_ts {t : TypeId} {b : Bool} {k : Nat} (h : tshape P t = some (b, k)) : (sizeOf t).run P w = .ok k w := by
 obtain ⟨d, i, _, hi, hk, _⟩ := tshape_spec h
 simp [sizeOf, typeInfo, hi, hk]
theorem tslice_spec {t e : TypeId} {k : Nat} (h : tslice P t = some (e, k)) : P.underlying t = some (.slice e) ∧ ∃ i, P.info? e = some i ∧ i.size = k := by
  unfold tslice at h
  cases hu : P.underlying t with
  | none => rw [hu] at h; cases h
  | some d =>
    rw [hu] at h
    cases d <;> simp at h
    obtain ⟨i, hi, h1, h2⟩ := h
    subst h1
    exact ⟨rfl, i, hi, h2⟩
theorem tarray_spec {t e : TypeId} {m k : Nat} (h : tarray P t = some (m, e, k)) : P.underlying t = some (.array m e) ∧ ∃ i, P.info? e = some i ∧ i.size = k := by
  unfold tarray at h
  cases hu : P.underlying t with
  | none => rw [hu] at h; cases h
  | some d =>
    rw [hu] at h
    cases d <;> simp at h
    obtain ⟨i, hi, h0, h1, h2⟩ := h
    subst h0 h1
    exact ⟨rfl, i, hi, h2⟩
theorem tfield_spec {t : TypeId} {f o k : Nat} (h : tfield P t f = some (o, k)) : ∃ fs x i, P.underlying t = some (.struct fs) ∧ fs[f]? = some x ∧ P.info? x.type = some i ∧ i.size = k ∧ x.offset = o := by
  unfold tfield at h
  split at h
  · rename_i fs hu
    cases hx : fs[f]? with
    | none => rw [hx] at h; cases h
    | some x =>
      rw [hx] at h
      simp at h
      obtain ⟨i, hi, h1, h2⟩ := h
      exact ⟨fs, x, i, hu, hx, hi, h2, h1⟩
  · cases h
theorem tzero_spec {t : TypeId} {cs : List Value} (h : tzero P t = some cs) : ∃ z, (zeroValue t).run P w = .ok z w ∧ z.cells = cs.toArray := by
  unfold tzero at h
  cases hi : P.info? t with
  | none => rw [hi] at h; cases h
  | some i =>
    rw [hi] at h
    cases hz : i.zero with
    | none => simp [hz] at h
    | some z =>
      simp [hz] at h
      refine ⟨z, by simp [zeroValue, typeInfo, hi, hz], ?_⟩
      rw [← h]
end sems
section rules
variable {P : Program} {r : Option Nat} {C : Cx} {n : Nat × List Nat} {ops : Array Oper} {Q : Exit → Act → World → Prop} {rest : List Oper} {env : List (Nat × Value)} {R : List Res} {Φ : List Fact}
  {d : Nat} {T T' : TypeId} {pos : String} {af : Array Edge} {x y z : Operand} {u v : Value}
theorem PR.qm (hx : opv env x = some v)  : PR P C n env R Φ (.move x) T (v) := fun a W he _ d pos af g => (by simp [execOp, he.eval hx])
theorem PR.qa (hx : opv env x = some v)  : PR P C n env R Φ (.assign x) T (v) := fun a W he _ d pos af g => (by simp [execOp, he.eval hx])
theorem PR.pickT (hx : opv env x = some (.bool true)) (hy : opv env y = some v)  : PR P C n env R Φ (.pick x y z) T (v) := fun a W he _ d pos af g => (by simp [execOp, he.eval hx, he.eval hy, asBool])
theorem PR.pickF (hx : opv env x = some (.bool false)) (hz : opv env z = some v)  : PR P C n env R Φ (.pick x y z) T (v) := fun a W he _ d pos af g => (by simp [execOp, he.eval hx, he.eval hz, asBool])
theorem PR.extract {i : Nat} {vs : List Value} (hx : opv env x = some (.tuple vs.toArray)) (hv : vs[i]? = some v)  : PR P C n env R Φ (.extract x i) T (v) := fun a W he _ d pos af g => (by simp [execOp, he.eval hx, Instr.extract, hv])
theorem PR.makeFunc {fn : Fn} {first captured : Array Operand} {fs cs : List Value} (h1 : opvs env first.toList = some fs) (h2 : opvs env captured.toList = some cs)
 : PR P C n env R Φ (.makeFunc fn first captured) T (.func fn fs.toArray cs.toArray) := fun a W he _ d pos af g => (by
 have key : ∀ (l : Array Operand) (vs : List Value), opvs env l.toList = some vs → l.map a.eval = vs.toArray := fun l vs h => by
  apply Array.toList_inj.1
  simpa using opvs_eval he h
 simp [execOp, key first fs h1, key captured cs h2, Instr.makeFunc])
theorem PR.not {b : Bool} (hx : opv env x = some (.bool b))  : PR P C n env R Φ (.unOp .not T' x) T (.bool (!b)) := fun a W he _ d pos af g => (by simp [execOp, he.eval hx, Op.unary])
section cmp
variable {kd : IntKind} {a b : Int} {t : Bool}
theorem PR.lss (t : Bool) (hx : opv env x = some (.int kd a)) (hy : opv env y = some (.int kd b)) (ht : decide (a < b) = t)  : PR P C n env R Φ (.binOp .lss T' x y T') T (.bool t) := fun a' W he _ d pos af g => (by subst ht; simp [execOp, he.eval hx, he.eval hy, eqGuard, binOp, Op.intCmp])
theorem PR.leq (t : Bool) (hx : opv env x = some (.int kd a)) (hy : opv env y = some (.int kd b)) (ht : decide (a ≤ b) = t)  : PR P C n env R Φ (.binOp .leq T' x y T') T (.bool t) := fun a' W he _ d pos af g => (by subst ht; simp [execOp, he.eval hx, he.eval hy, eqGuard, binOp, Op.intCmp])
theorem PR.gtr (t : Bool) (hx : opv env x = some (.int kd a)) (hy : opv env y = some (.int kd b)) (ht : decide (b < a) = t)  : PR P C n env R Φ (.binOp .gtr T' x y T') T (.bool t) := fun a' W he _ d pos af g => (by subst ht; simp [execOp, he.eval hx, he.eval hy, eqGuard, binOp, Op.intCmp])
theorem PR.geq (t : Bool) (hx : opv env x = some (.int kd a)) (hy : opv env y = some (.int kd b)) (ht : decide (b ≤ a) = t)  : PR P C n env R Φ (.binOp .geq T' x y T') T (.bool t) := fun a' W he _ d pos af g => (by subst ht; simp [execOp, he.eval hx, he.eval hy, eqGuard, binOp, Op.intCmp])
theorem PR.eql (t : Bool) (hx : opv env x = some (.int kd a)) (hy : opv env y = some (.int kd b)) (ht : decide (a = b) = t)  : PR P C n env R Φ (.binOp .eql T' x y T') T (.bool t) := fun a' W he _ d pos af g => (by
 subst ht
 have : (a == b) = decide (a = b) := by by_cases h : a = b <;> simp [h]
 simp [execOp, he.eval hx, he.eval hy, eqGuard, binOp, Op.intCmp, this])
theorem PR.neq (t : Bool) (hx : opv env x = some (.int kd a)) (hy : opv env y = some (.int kd b)) (ht : decide (a ≠ b) = t)  : PR P C n env R Φ (.binOp .neq T' x y T') T (.bool t) := fun a' W he _ d pos af g => (by
 subst ht
 have : (a != b) = decide (a ≠ b) := by by_cases h : a = b <;> simp [h]
 simp [execOp, he.eval hx, he.eval hy, eqGuard, binOp, Op.intCmp, this])
theorem PR.add (c : Int) (hx : opv env x = some (.int kd a)) (hy : opv env y = some (.int kd b)) (hc : kd.wrap (a + b) = c)  : PR P C n env R Φ (.binOp .add T' x y T') T (.int kd c) := fun a' W he _ d pos af g => (by subst hc; simp [execOp, he.eval hx, he.eval hy, eqGuard, binOp, Op.intArith])
theorem PR.sub (c : Int) (hx : opv env x = some (.int kd a)) (hy : opv env y = some (.int kd b)) (hc : kd.wrap (a - b) = c)  : PR P C n env R Φ (.binOp .sub T' x y T') T (.int kd c) := fun a' W he _ d pos af g => (by subst hc; simp [execOp, he.eval hx, he.eval hy, eqGuard, binOp, Op.intArith])
theorem PR.mul (c : Int) (hx : opv env x = some (.int kd a)) (hy : opv env y = some (.int kd b)) (hc : kd.wrap (a * b) = c)  : PR P C n env R Φ (.binOp .mul T' x y T') T (.int kd c) := fun a' W he _ d pos af g => (by subst hc; simp [execOp, he.eval hx, he.eval hy, eqGuard, binOp, Op.intArith])
theorem PR.quo (c : Int) (hx : opv env x = some (.int kd a)) (hy : opv env y = some (.int kd b)) (hb : b ≠ 0) (hc : kd.wrap (a.tdiv b) = c)  : PR P C n env R Φ (.binOp .quo T' x y T') T (.int kd c) := fun a' W he _ d pos af g => (by subst hc; simp [execOp, he.eval hx, he.eval hy, eqGuard, binOp, Op.intDiv, hb])
theorem PR.rem (c : Int) (hx : opv env x = some (.int kd a)) (hy : opv env y = some (.int kd b)) (hb : b ≠ 0) (hc : a.tmod b = c)  : PR P C n env R Φ (.binOp .rem T' x y T') T (.int kd c) := fun a' W he _ d pos af g => (by subst hc; simp [execOp, he.eval hx, he.eval hy, eqGuard, binOp, Op.intDiv, hb])
theorem PR.min2 (c : Int) (hx : opv env x = some (.int kd a)) (hy : opv env y = some (.int kd b)) (hc : min a b = c)  {ts : Array TypeId} : PR P C n env R Φ (.call { callee := .builtin .min, args := #[x, y], argTypes := ts }) T (.int kd c) := fun a' W he _ d pos af g => (by
 have hm : (if b < a then b else a) = c := by rw [← hc]; split <;> omega
 simp [execOp, he.eval hx, he.eval hy, resolve, invoke, builtin, Builtin.min_, Builtin.min2, hm])
theorem PR.max2 (c : Int) (hx : opv env x = some (.int kd a)) (hy : opv env y = some (.int kd b)) (hc : max a b = c)  {ts : Array TypeId} : PR P C n env R Φ (.call { callee := .builtin .max, args := #[x, y], argTypes := ts }) T (.int kd c) := fun a' W he _ d pos af g => (by
 have hm : (if a < b then b else a) = c := by rw [← hc]; split <;> omega
 simp [execOp, he.eval hx, he.eval hy, resolve, invoke, builtin, Builtin.max_, Builtin.max2, hm])
theorem PR.bneq {a b : Bool} (t : Bool) (hu : P.underlying T' = some .bool) (hx : opv env x = some (.bool a)) (hy : opv env y = some (.bool b)) (ht : (a != b) = t)  : PR P C n env R Φ (.binOp .neq T' x y T') T (.bool t) := fun a' W he _ d pos af g => (by
 subst ht
 simp [execOp, he.eval hx, he.eval hy, eqGuard, binOp, run_equal_bool _ T' a b hu]; cases a <;> cases b <;> rfl)
end cmp
section bits
variable {kd ky : IntKind} {a b : Int}
theorem PR.shr (c : Int) (hx : opv env x = some (.int kd a)) (hy : opv env y = some (.int ky b)) (hb : decide (0 ≤ b) = true) (hc : a.fdiv (2 ^ (min b.toNat kd.bits)) = c) {Ty : TypeId} : PR P C n env R Φ (.binOp .shr T' x y Ty) T (.int kd c) := fun a' W he _ d pos af g => by
 have hb' : ¬ b < 0 := by have := of_decide_eq_true hb; omega
 subst hc; simp [execOp, he.eval hx, he.eval hy, eqGuard, binOp, Op.shift, hb']
theorem PR.shl (c : Int) (hx : opv env x = some (.int kd a)) (hy : opv env y = some (.int ky b)) (hb : decide (0 ≤ b) = true) (hc : kd.wrap (a * 2 ^ (min b.toNat kd.bits)) = c) {Ty : TypeId} : PR P C n env R Φ (.binOp .shl T' x y Ty) T (.int kd c) := fun a' W he _ d pos af g => by
 have hb' : ¬ b < 0 := by have := of_decide_eq_true hb; omega
 subst hc; simp [execOp, he.eval hx, he.eval hy, eqGuard, binOp, Op.shift, hb']
theorem PR.and (c : Int) (hx : opv env x = some (.int kd a)) (hy : opv env y = some (.int kd b)) (hc : kd.wrap ((BitVec.ofInt kd.bits a &&& BitVec.ofInt kd.bits b).toNat : Int) = c) : PR P C n env R Φ (.binOp .and T' x y T') T (.int kd c) := fun a' W he _ d pos af g => by
 subst hc; simp [execOp, he.eval hx, he.eval hy, eqGuard, binOp, Op.intBits]
theorem PR.or (c : Int) (hx : opv env x = some (.int kd a)) (hy : opv env y = some (.int kd b)) (hc : kd.wrap ((BitVec.ofInt kd.bits a ||| BitVec.ofInt kd.bits b).toNat : Int) = c) : PR P C n env R Φ (.binOp .or T' x y T') T (.int kd c) := fun a' W he _ d pos af g => by
 subst hc; simp [execOp, he.eval hx, he.eval hy, eqGuard, binOp, Op.intBits]
theorem PR.conv {src dst : TypeId} {ds : TypeDesc} {k' : IntKind} (c : Int) (hx : opv env x = some (.int kd a)) (hs : P.underlying src = some ds) (hd : P.underlying dst = some (.int k')) (hc : k'.wrap a = c) : PR P C n env R Φ (.convert src dst x) T (.int k' c) := fun a' W he _ d pos af g => by
 subst hc; simp [execOp, he.eval hx, convert, run_underlying hs, run_underlying hd, Conv.intToInt]
end bits
theorem PR.eqlNil {A : Option Addr} {m c : Nat} {e : TypeId} {s : Nat} (t : Bool) (hx : opv env x = some (.slice A m c)) (hT : tslice P T' = some (e, s)) (ht : A.isNone = t) : PR P C n env R Φ (.binOp .eql T' x (.const (.slice none 0 0)) T') T (.bool t) := fun a' W he _ d pos af g => by
 have h2 : a'.eval (.const (.slice none 0 0)) = .slice none 0 0 := rfl
 have hu := (tslice_spec hT).1
 have hq : ∀ d : Nat, (Op.equalIn (d + 1) T' (.slice A m c) (.slice none 0 0)).run P W = .ok A.isNone W := fun d => by
  cases A <;> simp [Op.equalIn, run_underlying hu]
 have hb : (binOp .eql T' (.slice A m c) (.slice none 0 0)).run P W = .ok (.bool A.isNone) W := by
  simp only [binOp]
  simp [Op.equal, Op.maxDepth, hq 9999]
 subst ht
 simp [execOp, he.eval hx, h2, eqGuard, hb]
theorem PR.len {A : Option Addr} {m c : Nat} {e : TypeId} {s : Nat} (hx : opv env x = some (.slice A m c)) (hT : tslice P T' = some (e, s))  : PR P C n env R Φ (.call { callee := .builtin .len, args := #[x], argTypes := #[T'] }) T (.int .i64 m) := fun a W he _ d pos af g => (by
 simp [execOp, he.eval hx, resolve, invoke, builtin, Builtin.len_, run_underlying (tslice_spec hT).1, goInt])
def takeL : List Value → Nat → Nat → Option (List Value)
  | _, 0, 0 => some []
  | [], _, _ => none
  | c :: cs, 0, m + 1 => match takeL cs 0 m with
    | some l => some (c :: l)
    | none => none
  | _ :: cs, j + 1, m => takeL cs j m
theorem takeL_spec : ∀ {cs : List Value} {j m : Nat} {vs : List Value}, takeL cs j m = some vs → vs.length = m ∧ ∀ (i : Nat) u, vs[i]? = some u → cs[j + i]? = some u
  | [], 0, 0, vs, h => by simp [takeL] at h; subst h; simp
  | [], 0, m + 1, vs, h => by simp [takeL] at h
  | [], j + 1, m, vs, h => by simp [takeL] at h
  | c :: cs, 0, 0, vs, h => by simp [takeL] at h; subst h; simp
  | c :: cs, 0, m + 1, vs, h => by
    simp only [takeL] at h
    split at h
    · rename_i l hl
      obtain ⟨h1, h2⟩ := takeL_spec hl
      simp at h
      subst h
      refine ⟨by simp [h1], fun i u hu => ?_⟩
      cases i with
      | zero => simpa using hu
      | succ i => have := h2 i u (by simpa using hu); simpa [Nat.add_comm] using this
    · cases h
  | c :: cs, j + 1, m, vs, h => by
    simp only [takeL] at h
    obtain ⟨h1, h2⟩ := takeL_spec h
    exact ⟨h1, fun i u hu => by have := h2 i u hu; rw [show j + 1 + i = (j + i) + 1 by omega]; simpa using this⟩
def putL : List Value → Nat → List Value → Option (List Value)
  | cs, 0, [] => some cs
  | c :: cs, 0, v :: vs => match putL cs 0 vs with
    | some l => some (v :: l)
    | none => none
  | c :: cs, j + 1, vs => match putL cs j vs with
    | some l => some (c :: l)
    | none => none
  | [], _, _ => none
theorem putL_spec : ∀ {cs : List Value} {j : Nat} {vs l : List Value}, putL cs j vs = some l → j + vs.length ≤ cs.length ∧ l = cs.take j ++ vs ++ cs.drop (j + vs.length)
  | cs, 0, [], l, h => by simp [putL] at h; simp [h]
  | [], 0, v :: vs, l, h => by simp [putL] at h
  | [], j + 1, vs, l, h => by simp [putL] at h
  | c :: cs, 0, v :: vs, l, h => by
    simp only [putL] at h
    split at h
    · rename_i l' hl
      obtain ⟨h1, h2⟩ := putL_spec hl
      simp at h h1 h2
      subst h h2
      exact ⟨by simp; omega, by simp⟩
    · cases h
  | c :: cs, j + 1, vs, l, h => by
    simp only [putL] at h
    split at h
    · rename_i l' hl
      obtain ⟨h1, h2⟩ := putL_spec hl
      simp at h
      subst h
      refine ⟨by simp; omega, ?_⟩
      rw [h2, show j + 1 + vs.length = (j + vs.length) + 1 by omega]
      simp
    · cases h
theorem add_none (b k o : Nat) : (⟨b, k, none⟩ : Addr).add o = ⟨b, k + o, none⟩ := by unfold Addr.add; split <;> simp_all
theorem PR.qf {b j o s f : Nat} (hx : opv env x = some (.pointer (some ⟨b, j, none⟩))) (hf : tfield P T' f = some (o, s + 1))  : PR P C n env R Φ (.fieldAddr T' x f) T (.pointer (some ⟨b, j + o, none⟩)) := fun a W he _ d pos af g => (by
 obtain ⟨fs, fx, i, hu, hfx, hi, hk, ho⟩ := tfield_spec hf
 simp [execOp, he.eval hx, Instr.fieldAt, run_underlying hu, hfx, Instr.sureAddr, fieldPlace, sizeOf, typeInfo, hi, hk, ho, add_none])
theorem PR.load1 {b j m : Nat} {Tb : TypeId} {cs : List Value} (hx : opv env x = some (.pointer (some ⟨b, j, none⟩))) (hT : tshape P T' = some (false, m)) (hB : Has b Tb cs R) (hv : cs[j]? = some v)
 : PR P C n env R Φ (.load T' x) T (v) := fun a W he hs d pos af g => (by
 have hc : W.cell? ⟨b, j, none⟩ = some v := by rw [cell_of_row W b j _ _ _ (hB.says hs.sep)]; simpa using hv
 simp [execOp, he.eval hx, Instr.loadAt, Instr.sureAddr, loadVar, run_isAgg_ts hT, hc])
theorem PR.loadW {b m : Nat} {Tb : TypeId} {cs : List Value} (hx : opv env x = some (.pointer (some ⟨b, 0, none⟩))) (hT : tshape P T' = some (true, m)) (hB : Has b Tb cs R) (hm : cs.length = m)
 : PR P C n env R Φ (.load T' x) T (.agg cs.toArray) := fun a W he hs d pos af g => (by
 obtain ⟨dd, i, hu, hi, hk, hdd⟩ := tshape_spec hT
 have := run_loadVar_row (P := P) W b Tb T' cs.toArray (0, 0) dd (hB.says hs.sep) hu (by revert hdd; cases dd <;> simp) (by simp [hi, hk, hm])
 simp [execOp, he.eval hx, Instr.loadAt, Instr.sureAddr, this])
theorem PR.loadA {b j m : Nat} {Tb : TypeId} {cs vs : List Value} (hx : opv env x = some (.pointer (some ⟨b, j, none⟩))) (hT : tshape P T' = some (true, m)) (hB : Has b Tb cs R)
    (hv : takeL cs j m = some vs)
     : PR P C n env R Φ (.load T' x) T (.agg vs.toArray) := fun a W he hs d pos af g => (by
    obtain ⟨hvl, hv⟩ := takeL_spec hv
    have hl : (loadCells ⟨b, j, none⟩ m).run P W = .ok vs.toArray W := by
      have := run_loadCells_list (P := P) W ⟨b, j, none⟩ vs (fun i u hu => by
        rw [add_none, cell_of_row W b (j + i) _ _ _ (hB.says hs.sep)]
        have := hv i u hu
        simpa using this)
      rwa [hvl] at this
    simp [execOp, he.eval hx, Instr.loadAt, Instr.sureAddr, loadVar, run_isAgg_ts hT, run_sizeOf_ts hT, hl])
theorem PR.loadR {A : Option Addr} {j m : Nat} {xs : List Value} (hx : opv env x = some (.pointer (A.map (·.add j)))) (hT : tshape P T' = some (false, m)) (hm : Mem (.rd A xs) Φ) (hv : xs[j]? = some v)
 : PR P C n env R Φ (.load T' x) T (v) := fun a W he hs d pos af g => (by
 obtain ⟨ad, rfl, _, _, hc⟩ := hs.fact hm j v hv
 simp [execOp, he.eval hx, Instr.loadAt, Instr.sureAddr, loadVar, run_isAgg_ts hT, hc])
theorem PR.idx {A : Option Addr} {len c s : Nat} {e : TypeId} {kd : IntKind} {i : Int} {xs : List Value} (j : Nat) (hx : opv env x = some (.slice A len c)) (hy : opv env y = some (.int kd i)) (hT : tslice P T' = some (e, s))
    (hm : Mem (.rd A xs) Φ) (hl : xs.length = len * s) (hs : 0 < s) (hi : i = j) (hj : j < len)
     : PR P C n env R Φ (.indexAddr T' x y) T (.pointer (A.map (·.add (j * s)))) := fun a W he hsat d pos af g => (by
    subst hi
    obtain ⟨hu, inf, hi, hk⟩ := tslice_spec hT
    have hlt : j * s < xs.length := by rw [hl]; exact Nat.mul_lt_mul_of_pos_right hj hs
    obtain ⟨ad, rfl, _, _, _⟩ := hsat.fact hm (j * s) _ (List.getElem?_eq_getElem hlt)
    have h1 : (0 : Int) ≤ j ∧ (j : Int) < len := by omega
    have h2 : ¬ len ≤ j := by omega
    simp [execOp, he.eval hx, he.eval hy, Instr.indexAt, asIntOf, run_underlying hu, sizeOf, typeInfo, hi, hk, h1, h2])
theorem Jl.alloc {cs : List Value} (hz : tzero P T' = some cs) (k : ∀ b, Jl P r C n ops Q rest ((d, .pointer (some ⟨b, 0, none⟩)) :: env) (.blk b T' cs :: R) Φ) (hd : Nat.blt d n.1 = true := by rfl) :
 Jl P r C n ops Q (⟨some d, .alloc T', T, pos, af, none⟩ :: rest) env R Φ :=
 Jl.valx hd (by simp) fun a W he hs => by
  obtain ⟨z, hz1, hz2⟩ := tzero_spec (w := W) hz
  refine ⟨_, _, _, _, ?_, hs.new cs T', k _⟩
  simp [execOp, Instr.alloc, hz1, newVar, newRow, hz2]
theorem Jl.box {cs : List Value} (hx : opv env x = some v) (hc : v.cells = cs.toArray) (k : ∀ b, Jl P r C n ops Q rest ((d, .pointer (some ⟨b, 0, none⟩)) :: env) (.blk b T' cs :: R) Φ) (hd : Nat.blt d n.1 = true := by rfl) :
 Jl P r C n ops Q (⟨some d, .box T' x, T, pos, af, none⟩ :: rest) env R Φ :=
 Jl.valx hd (by simp) fun a W he hs => by
  refine ⟨_, _, _, _, ?_, hs.new cs T', k _⟩
  simp [execOp, he.eval hx, Instr.box, newVar, newRow, hc]
theorem run_storeCells_at' {P : Program} (W : World) (b j : Nat) (Tb : TypeId) : ∀ (vs : List Value) (i : Nat) (cs : List Value), W.heap[b]? = some (.cells cs.toArray Tb (0, 0)) → j + i + vs.length ≤ cs.length → (∀ u ∈ vs, u.oneCell' = true) →
    ∃ W', (storeCells ⟨b, j, none⟩ vs i).run P W = .ok () W' ∧ W'.heap[b]? = some (.cells (cs.take (j + i) ++ vs ++ cs.drop (j + i + vs.length)).toArray Tb (0, 0)) ∧ Foreign (fun g => g = b) W W' := by
  intro vs
  induction vs generalizing W with
  | nil => intro i cs hb _ _; exact ⟨W, by simp [storeCells], by simpa using hb, Foreign.refl _ _⟩
  | cons v vs ih =>
    intro i cs hb hle h1
    have hlt : j + i < cs.length := by simp at hle; omega
    have hc : W.cell? ⟨b, j + i, none⟩ = some cs[j + i] := by rw [cell_of_row W b (j + i) _ _ _ hb]; simp [hlt]
    have hf : W.frozen? ⟨b, j + i, none⟩ = false := by simp [World.frozen?, hb]
    have hb' : (W.setCell ⟨b, j + i, none⟩ v).heap[b]? = some (.cells (cs.set (j + i) v).toArray Tb (0, 0)) := by
      simp [World.setCell, Array.getElem?_modify, hb]
    obtain ⟨W', hr, h2, h3⟩ := ih (W.setCell ⟨b, j + i, none⟩ v) (i + 1) (cs.set (j + i) v) hb' (by simp at hle ⊢; omega) (fun u hu => h1 u (by simp [hu]))
    refine ⟨W', ?_, ?_, (Foreign.setCell (X := fun g => g = b) (p := ⟨b, j + i, none⟩) v rfl).trans h3⟩
    · simp [storeCells, run_store _ _ _ _ _ (h1 v (by simp)), add_none, hc, hf, hr]
    · rw [h2]
      have e1 : (cs.set (j + i) v).take (j + (i + 1)) = cs.take (j + i) ++ [v] := by
        rw [show j + (i + 1) = (j + i) + 1 by omega, List.take_succ_eq_append_getElem (by simpa using hlt)]
        simp [List.take_set_of_le]
      have e2 : (cs.set (j + i) v).drop (j + (i + 1) + vs.length) = cs.drop (j + i + (v :: vs).length) := by
        rw [List.drop_set_of_lt (by omega)]
        simp; congr 1; omega
      rw [e1, e2]
      simp
theorem storeAt_blk {W : World} {b j : Nat} {Tb : TypeId} {cs vs : List Value} (hb : W.heap[b]? = some (.cells cs.toArray Tb (0, 0))) {bb : Bool} {m : Nat} (hT : tshape P T' = some (bb, m)) {v : Value} (hv : v.cells = vs.toArray) (hl : vs.length = m)
 (h1 : ∀ u ∈ vs, u.oneCell' = true) (hj : j + m ≤ cs.length) :
 ∃ W', (Instr.storeAt T' (.pointer (some ⟨b, j, none⟩)) v).run P W = .ok () W' ∧ W'.heap[b]? = some (.cells (cs.take j ++ vs ++ cs.drop (j + m)).toArray Tb (0, 0)) ∧ Foreign (fun g => g = b) W W' := by
 obtain ⟨W', hr, h2, h3⟩ := run_storeCells_at' (P := P) W b j Tb vs 0 cs hb (by omega) h1
 refine ⟨W', ?_, by simpa [hl] using h2, h3⟩
 simp [Instr.storeAt, Instr.sureAddr, storeVar, hv, run_sizeOf_ts hT, hl, hr]
theorem Jl.store1 {b j : Nat} {Tb : TypeId} {cs cs' : List Value} {R' : List Res} (hx : opv env x = some (.pointer (some ⟨b, j, none⟩))) (hT : tshape P T' = some (false, 1)) (hy : opv env y = some v) (h1 : v.oneCell' = true)
 (hw : Swap (.blk b Tb cs) (.blk b Tb cs') R R') (hc : putL cs j [v] = some cs') (k : Jl P r C n ops Q rest env R' Φ) : Jl P r C n ops Q (⟨none, .store T' x y, T, pos, af, none⟩ :: rest) env R Φ :=
 Jl.act (by simp) fun a W he hs => by
  obtain ⟨hj, hcs⟩ := putL_spec hc
  have hcc : v.cells = ([v] : List Value).toArray := by cases v <;> first | rfl | (simp [Value.oneCell'] at h1)
  obtain ⟨W', hr, h2, h3⟩ := storeAt_blk (P := P) (hw.old hs.sep) hT hcc rfl (by simpa using h1) (j := j) (by simpa using hj)
  exact ⟨W', R', Φ, by simp [execOp, he.eval hx, he.eval hy, hr], hs.swap hw h3 (by rw [hcs]; exact h2) (fun b hb => .inl hb), k⟩
theorem Jl.storeW {b m : Nat} {Tb : TypeId} {cs vs : List Value} {R' : List Res} (hx : opv env x = some (.pointer (some ⟨b, 0, none⟩))) (hT : tshape P T' = some (true, m)) (hy : opv env y = some (.agg vs.toArray)) (hl : vs.length = m)
 (h1 : ∀ u ∈ vs, u.oneCell' = true) (hw : Swap (.blk b Tb cs) (.blk b Tb vs) R R') (hm : cs.length = m) (k : Jl P r C n ops Q rest env R' Φ) : Jl P r C n ops Q (⟨none, .store T' x y, T, pos, af, none⟩ :: rest) env R Φ :=
 Jl.act (by simp) fun a W he hs => by
  obtain ⟨W', hr, h2, h3⟩ := storeAt_blk (P := P) (hw.old hs.sep) hT (v := .agg vs.toArray) rfl hl h1 (j := 0) (by omega)
  refine ⟨W', R', Φ, ?_, hs.swap hw h3 ?_ (fun b hb => .inl hb), k⟩
  · simp [execOp, he.eval hx, he.eval hy, hr]
  · show W'.heap[b]? = _
    rw [h2]
    simp [← hm]
theorem Jl.storeA {b j m : Nat} {Tb : TypeId} {cs cs' vs : List Value} {R' : List Res} (hx : opv env x = some (.pointer (some ⟨b, j, none⟩))) (hT : tshape P T' = some (true, m)) (hy : opv env y = some (.agg vs.toArray)) (hl : vs.length = m)
 (h1 : ∀ u ∈ vs, u.oneCell' = true) (hw : Swap (.blk b Tb cs) (.blk b Tb cs') R R') (hc : putL cs j vs = some cs') (k : Jl P r C n ops Q rest env R' Φ) : Jl P r C n ops Q (⟨none, .store T' x y, T, pos, af, none⟩ :: rest) env R Φ :=
 Jl.act (by simp) fun a W he hs => by
  obtain ⟨hj, hcs⟩ := putL_spec hc
  obtain ⟨W', hr, h2, h3⟩ := storeAt_blk (P := P) (hw.old hs.sep) hT (v := .agg vs.toArray) rfl hl h1 (j := j) (by omega)
  exact ⟨W', R', Φ, by simp [execOp, he.eval hx, he.eval hy, hr], hs.swap hw h3 (by rw [hcs, hl]; exact h2) (fun b hb => .inl hb), k⟩
end rules
end Go.Proofs.YtakbgccddokbbaaGreatDoor
namespace Go.Proofs.YtakbgccddokbbaaGreatDoor
open Go.RowKit
def Res.mark (D : Nat) : Res where
 own := fun g => g = D
 says := fun W => W.heap[D]? = some (.deferred (some []))
 dep := fun W W' h hs => (h D rfl).trans hs
 lt := fun W hs g hg => by subst hg; exact (Array.getElem?_eq_some_iff.1 hs).1
def Ct (P : Program) (f : FuncId) (args : List Value) (Rin : List Res) (pre : List Fact) {α : Type} (res : α → Value) (Rout : α → List Res) (post : α → List Fact) : Prop :=
  ∀ X W, (∀ b, X b → b < W.heap.size) → Sep X W Rin → (∀ φ ∈ pre, φ.p (fun b => X b ∨ ownL Rin b) W) →
    Calls P f args.toArray W fun e W' => ∃ x, e = .returned (res x) ∧ Foreign (ownL Rin) W W' ∧ Sep X W' (Rout x) ∧ (∀ b, ownL (Rout x) b → ownL Rin b ∨ W.heap.size ≤ b) ∧ ∀ φ ∈ post x, φ.p (fun b => X b ∨ ownL (Rout x) b) W'
def Fin (C : Cx) {α : Type} (res : α → Value) (Rout : α → List Res) (post : α → List Fact) (e : Ending) (W' : World) : Prop :=
 ∃ x, e = .returned (res x) ∧ Foreign C.M0 C.W0 W' ∧ Sep C.X0 W' (Rout x) ∧ (∀ b, ownL (Rout x) b → C.M0 b ∨ C.W0.heap.size ≤ b) ∧ ∀ φ ∈ post x, φ.p (fun b => C.X0 b ∨ ownL (Rout x) b) W'
def envOf : List Value → Nat → List (Nat × Value)
 | [], _ => []
 | v :: vs, k => (k, v) :: envOf vs (k + 1)
theorem elook_envOf : ∀ (vs : List Value) (k t : Nat) (v : Value), elook t (envOf vs k) = some v → k ≤ t ∧ vs[t - k]? = some v
  | [], _, _, _, h => by simp [envOf, elook] at h
  | u :: vs, k, t, v, h => by
    simp only [envOf, elook] at h
    cases hb : Nat.beq t k with
    | true =>
      rw [hb] at h
      have := Nat.eq_of_beq_eq_true hb
      subst this
      simp at h
      subst h
      exact ⟨Nat.le_refl _, by simp⟩
    | false =>
      rw [hb] at h
      have hne : t ≠ k := fun e => by subst e; simp at hb
      obtain ⟨h1, h2⟩ := elook_envOf vs (k + 1) t v h
      refine ⟨by omega, ?_⟩
      rw [show t - k = (t - (k + 1)) + 1 by omega]
      simpa using h2
theorem Ct.of {P : Program} {f : FuncId} {fn : Func} {c : Code} {args : List Value} {Rin : List Res} {pre : List Fact} {α : Type} {res : α → Value} {Rout : α → List Res} {post : α → List Fact}
 (nt : Nat) (hf : P.funcs[f]? = some fn) (hnt : fn.ntmps = nt) (hb : fn.body = some c) (hn : Nat.ble args.length nt = true)
 (h : ∀ X W, Jc P none ⟨X, ownL Rin, W⟩ (nt, []) (bodyPostM Fence.wide 0 P fn (Fin ⟨X, ownL Rin, W⟩ res Rout post)) c (envOf args 0) Rin pre) : Ct P f args Rin pre res Rout post := fun X W hX hs hp => by
 refine marks_call hf hb (wpIn_wide.1 (h X W _ W ?_ ?_))
 · have hn' := Nat.le_of_ble_eq_true hn
   refine ⟨rfl, by simp [hnt]; omega, fun t v ht => ?_⟩
   obtain ⟨_, h2⟩ := elook_envOf args 0 t v ht
   have hlt := (List.getElem?_eq_some_iff.1 h2).1
   simp only [Nat.sub_zero] at h2 hlt
   rw [Array.getElem?_append_left (by simpa using hlt)]
   simpa using h2
 · exact ⟨Foreign.refl _ _, hs, fun b hb => .inl hb, hX, hp⟩
theorem Ct.calls {P : Program} {f : FuncId} {args : List Value} {pre : List Fact} {α : Type} {res : α → Value} {Rout : α → List Res} {post : α → List Fact} (h : Ct P f args [] pre res Rout post) (W : World)
 (hp : ∀ φ ∈ pre, φ.p (fun _ => False) W) : Calls P f args.toArray W fun e W' => ∃ x, e = .returned (res x) ∧ Below W.heap.size W W' ∧ Sep (fun _ => False) W' (Rout x) ∧ ∀ φ ∈ post x, φ.p (ownL (Rout x)) W' :=
 (h (fun _ => False) W (fun _ h => h.elim) trivial (fun φ hφ => φ.fr _ _ W W (hp φ hφ) (Foreign.refl _ _) (fun b hb => by simp [ownL] at hb))).mono fun e W' ⟨x, h1, h2, h3, _, h4⟩ =>
  ⟨x, h1, ⟨h2.os, h2.tape, h2.output, h2.size, fun b hb => h2.block b hb id⟩, h3, fun φ hφ => φ.fr _ _ W' W' (h4 φ hφ) (Foreign.refl _ _) (fun b hb => .inl (.inr hb))⟩
section rules
variable {P : Program} {r : Option Nat} {C : Cx} {n : Nat × List Nat} {ops : Array Oper} {Q K : Exit → Act → World → Prop} {rest : List Oper} {env : List (Nat × Value)} {R : List Res} {Φ : List Fact}
  {d : Nat} {T T' : TypeId} {pos : String} {af : Array Edge} {x y z : Operand} {u v : Value} {c c' : Code}
theorem Jc.qs (h : Jc P r C n (Exit.then (c'.wpIn (Fz r) 0 P Q) Q) c env R Φ) : Jc P r C n Q (.seq c c') env R Φ := fun a W he hs => wpIn_seq (h a W he hs)
theorem Jc.qr {id : Nat} {l : List Oper} (h : Jl P r C n l.toArray Q l env R Φ) : Jc P r C n Q (.region id l.toArray false) env R Φ := fun a W he hs => wpIn_region_lit (h a W he hs)
theorem Jc.block {id : Nat} (h : Jc P r C n (Exit.inBlock id Q) c env R Φ) : Jc P r C n Q (.block id c) env R Φ := fun a W he hs => wpIn_block (h a W he hs)
theorem Jc.skip (h : Jq C n Q .normal env R Φ) : Jc P r C n Q .skip env R Φ := fun a W he hs => wpIn_skip (h a W he hs)
theorem Jc.exit {id : Nat} (h : Jq C n Q (.exit id) env R Φ) : Jc P r C n Q (.exit id) env R Φ := fun a W he hs => wpIn_exit (h a W he hs)
theorem Jc.goto {l : Nat} (h : Jq C n Q (.goto l) env R Φ) : Jc P r C n Q (.goto l) env R Φ := fun a W he hs => wpIn_goto (h a W he hs)
theorem Jc.label {l : Nat} (h : Jq C n Q .normal env R Φ) : Jc P r C n Q (.label l) env R Φ := fun a W he hs => wpIn_label (h a W he hs)
theorem Jc.ret (h : Jq C n Q .ret env R Φ) : Jc P r C n Q .ret env R Φ := fun a W he hs => wpIn_ret (h a W he hs)
theorem Jc.condT (hc : opv env x = some (.bool true)) (h : Jc P r C n Q c env R Φ) : Jc P r C n Q (.cond x c c') env R Φ := fun a W he hs => wpIn_cond_true (he.eval hc) (h a W he hs)
theorem Jc.condF (hc : opv env x = some (.bool false)) (h : Jc P r C n Q c' env R Φ) : Jc P r C n Q (.cond x c c') env R Φ := fun a W he hs => wpIn_cond_false (he.eval hc) (h a W he hs)
theorem Jc.cond {t : Bool} (hc : opv env x = some (.bool t)) (h : t = true → Jc P r C n Q c env R Φ) (h' : t = false → Jc P r C n Q c' env R Φ) : Jc P r C n Q (.cond x c c') env R Φ := fun a W he hs => by
 cases t
 · exact wpIn_cond_false (he.eval hc) (h' rfl a W he hs)
 · exact wpIn_cond_true (he.eval hc) (h rfl a W he hs)
theorem Jq.qt (h : Jc P r C n Q c env R Φ) : Jq C n (Exit.then (c.wpIn (Fz r) 0 P Q) K) .normal env R Φ := h
theorem Jq.thenR {k : Act → World → Prop} (h : Jq C n Q .ret env R Φ) : Jq C n (Exit.then k Q) .ret env R Φ := h
theorem Jq.thenX {k : Act → World → Prop} {id : Nat} (h : Jq C n Q (.exit id) env R Φ) : Jq C n (Exit.then k Q) (.exit id) env R Φ := h
theorem Jq.thenG {k : Act → World → Prop} {l : Nat} (h : Jq C n Q (.goto l) env R Φ) : Jq C n (Exit.then k Q) (.goto l) env R Φ := h
theorem Jq.blkN {id : Nat} (h : Jq C n Q .normal env R Φ) : Jq C n (Exit.inBlock id Q) .normal env R Φ := h
theorem Jq.blkR {id : Nat} (h : Jq C n Q .ret env R Φ) : Jq C n (Exit.inBlock id Q) .ret env R Φ := h
theorem Jq.blkG {id l : Nat} (h : Jq C n Q (.goto l) env R Φ) : Jq C n (Exit.inBlock id Q) (.goto l) env R Φ := h
theorem Jq.blkX {id : Nat} (h : Jq C n Q .normal env R Φ) : Jq C n (Exit.inBlock id Q) (.exit id) env R Φ := fun a W he hs => by simpa [Exit.inBlock] using h a W he hs
def ESub : List (Nat × Value) → List (Nat × Value) → Prop
 | [], _ => True
 | (t, v) :: l, env => elook t env = some v ∧ ESub l env
theorem ESub.look : ∀ {l env : List (Nat × Value)}, ESub l env → ∀ t v, elook t l = some v → elook t env = some v
  | [], _, _, _, _, h => by simp [elook] at h
  | (d, u) :: l, env, hs, t, v, h => by
    simp only [elook] at h
    cases hb : Nat.beq t d with
    | true =>
      rw [hb] at h
      have := Nat.eq_of_beq_eq_true hb
      subst this
      simp at h
      subst h
      exact hs.1
    | false => rw [hb] at h; exact hs.2.look t v h
theorem Env.sub {env' : List (Nat × Value)} {a : Act} (he : Env n env a) (h : ESub env' env) : Env n env' a := ⟨he.defers, he.size, fun t v ht => he.at_ t v (h.look t v ht)⟩
def FSub : List Fact → List Fact → Prop
 | [], _ => True
 | φ :: l, Φ => Mem φ Φ ∧ FSub l Φ
theorem FSub.mem : ∀ {l Φ : List Fact}, FSub l Φ → ∀ φ ∈ l, φ ∈ Φ
  | [], _, _, _, h => by simp at h
  | x :: l, Φ, hs, φ, h => by
    rcases List.mem_cons.1 h with rfl | h
    · exact hs.1.mem
    · exact hs.2.mem φ h
theorem Sat.sub {Φ' : List Fact} {W : World} (h : Sat C R Φ W) (hf : FSub Φ' Φ) : Sat C R Φ' W := ⟨h.ev, h.sep, h.ours, h.x0, fun φ hφ => h.facts φ (hf.mem φ hφ)⟩
theorem Jc.less {env' : List (Nat × Value)} {Φ' : List Fact} (he : ESub env' env) (hf : FSub Φ' Φ) (k : Jc P r C n Q c env' R Φ') : Jc P r C n Q c env R Φ := fun a W h1 h2 => k a W (h1.sub he) (h2.sub hf)
theorem Jl.less {env' : List (Nat × Value)} {Φ' : List Fact} (he : ESub env' env) (hf : FSub Φ' Φ) (k : Jl P r C n ops Q rest env' R Φ') : Jl P r C n ops Q rest env R Φ := fun a W h1 h2 => k a W (h1.sub he) (h2.sub hf)
theorem Jc.fact {φ : Fact} (φ' : Fact) (hm : Mem φ Φ) (h : ∀ X W, φ.p X W → φ'.p X W) (k : Jc P r C n Q c env R (φ' :: Φ)) : Jc P r C n Q c env R Φ := fun a W h1 h2 => k a W h1 (h2.add (h _ _ (h2.fact hm)))
theorem Jl.fact {φ : Fact} (φ' : Fact) (hm : Mem φ Φ) (h : ∀ X W, φ.p X W → φ'.p X W) (k : Jl P r C n ops Q rest env R (φ' :: Φ)) : Jl P r C n ops Q rest env R Φ := fun a W h1 h2 => k a W h1 (h2.add (h _ _ (h2.fact hm)))
theorem Jl.fact0 (φ' : Fact) (h : ∀ X W, φ'.p X W) (k : Jl P r C n ops Q rest env R (φ' :: Φ)) : Jl P r C n ops Q rest env R Φ := fun a W h1 h2 => k a W h1 (h2.add (h _ _))
theorem Jc.fact0 (φ' : Fact) (h : ∀ X W, φ'.p X W) (k : Jc P r C n Q c env R (φ' :: Φ)) : Jc P r C n Q c env R Φ := fun a W h1 h2 => k a W h1 (h2.add (h _ _))
theorem Jl.pure {φ : Fact} {p : Prop} (hm : Mem φ Φ) (h : ∀ X W, φ.p X W → p) (k : p → Jl P r C n ops Q rest env R Φ) : Jl P r C n ops Q rest env R Φ := fun a W h1 h2 => k (h _ _ (h2.fact hm)) a W h1 h2
theorem Jc.pure {φ : Fact} {p : Prop} (hm : Mem φ Φ) (h : ∀ X W, φ.p X W → p) (k : p → Jc P r C n Q c env R Φ) : Jc P r C n Q c env R Φ := fun a W h1 h2 => k (h _ _ (h2.fact hm)) a W h1 h2
theorem Jc.pureR {p : Prop} (h : ∀ W, Sep C.X0 W R → p) (k : p → Jc P r C n Q c env R Φ) : Jc P r C n Q c env R Φ := fun a W h1 h2 => k (h _ h2.sep) a W h1 h2
theorem Jl.pureR {p : Prop} (h : ∀ W, Sep C.X0 W R → p) (k : p → Jl P r C n ops Q rest env R Φ) : Jl P r C n ops Q rest env R Φ := fun a W h1 h2 => k (h _ h2.sep) a W h1 h2
theorem Jc.conv {env' : List (Nat × Value)} (h : env = env') (k : Jc P r C n Q c env' R Φ) : Jc P r C n Q c env R Φ := by subst h; exact k
theorem Jc.loop {σ : Type} (E : σ → List (Nat × Value)) (Rs : σ → List Res) (Φs : σ → List Fact) (μ : σ → Nat) (s0 : σ) (he : ESub (E s0) env) (hr : Rs s0 = R) (hf : FSub (Φs s0) Φ)
    (round : ∀ s, Jc P r C n (Exit.then (fun a W => ∃ s', μ s' < μ s ∧ Env n (E s') a ∧ Sat C (Rs s') (Φs s') W) Q) c (E s) (Rs s) (Φs s)) : Jc P r C n Q (.loop c) env R Φ := fun a W h1 h2 => by
  have key : ∀ m s a W, μ s < m → Env n (E s) a → Sat C (Rs s) (Φs s) W → Code.roundsIn (Fz r) 0 P c Q m a W := by
    intro m
    induction m with
    | zero => intro s a W h; omega
    | succ m ih =>
      intro s a W hlt h1 h2
      rw [roundsIn_succ]
      refine wpIn_mono (round s a W h1 h2) fun e a' W' hq => ?_
      cases e with
      | normal =>
        obtain ⟨s', hlt', h3, h4⟩ := hq
        exact ih s' a' W' (by omega) h3 h4
      | exit id => exact hq
      | goto l => exact hq
      | ret => exact hq
      | panic ch => exact hq
      | outgrown => exact hq
  subst hr
  exact wpIn_loop_rounds (μ s0 + 1) (key _ s0 a W (Nat.lt_succ_self _) (h1.sub he) (h2.sub hf))
theorem Jq.again {σ : Type} {E : σ → List (Nat × Value)} {Rs : σ → List Res} {Φs : σ → List Fact} {μ : σ → Nat} {s : σ} (s' : σ) (hμ : μ s' < μ s) (he : ESub (E s') env) (hr : Rs s' = R) (hf : FSub (Φs s') Φ) :
 Jq C n (Exit.then (fun a W => ∃ s', μ s' < μ s ∧ Env n (E s') a ∧ Sat C (Rs s') (Φs s') W) Q) .normal env R Φ := fun a W h1 h2 => by
 subst hr
 exact ⟨s', hμ, h1.sub he, h2.sub hf⟩
end rules
end Go.Proofs.YtakbgccddokbbaaGreatDoor
namespace Go.Proofs.YtakbgccddokbbaaGreatDoor
theorem zF {a b : List Fact} (h : FSub a b := by repeat (first | exact trivial | refine And.intro (by repeat (first | exact Mem.here | apply Mem.there)) ?_)) : FSub a b := h
end Go.Proofs.YtakbgccddokbbaaGreatDoor
namespace Go.Proofs.YtakbgccddokbbaaGreatDoor
open Go.RowKit
def Del (r : Res) : List Res → List Res → Prop
 | x :: R, R' => (x = r ∧ R = R') ∨ ∃ R1, R' = x :: R1 ∧ Del r R R1
 | [], _ => False
theorem Del.here {r : Res} {R : List Res} : Del r (r :: R) R := .inl ⟨rfl, rfl⟩
theorem Del.there {r x : Res} {R R' : List Res} (h : Del r R R') : Del r (x :: R) (x :: R') := .inr ⟨_, rfl, h⟩
theorem Del.own {r : Res} : ∀ {R R' : List Res}, Del r R R' → ∀ b, ownL R b ↔ r.own b ∨ ownL R' b
  | x :: R, R', h, b => by
    rcases h with ⟨rfl, rfl⟩ | ⟨R1, rfl, h⟩
    · rfl
    · have := h.own b
      simp only [ownL, this]
      exact ⟨fun h => by rcases h with h | h | h <;> simp [h], fun h => by rcases h with h | h | h <;> simp [h]⟩
theorem Del.sep {r : Res} {X : Nat → Prop} {W : World} : ∀ {R R' : List Res}, Del r R R' → Sep X W R → r.says W ∧ (∀ b, r.own b → ¬ X b ∧ ¬ ownL R' b) ∧ Sep X W R'
  | x :: R, R', h, hs => by
    rcases h with ⟨rfl, rfl⟩ | ⟨R1, rfl, h⟩
    · exact hs
    · obtain ⟨h1, h2, h3⟩ := h.sep hs.2.2
      refine ⟨h1, fun b hb => ⟨(h2 b hb).1, fun hx => ?_⟩, hs.1, fun b hb => ⟨(hs.2.1 b hb).1, fun hx => (hs.2.1 b hb).2 ((h.own b).2 (.inr hx))⟩, h3⟩
      rcases hx with hx | hx
      · exact (hs.2.1 b hx).2 ((h.own b).2 (.inl hb))
      · exact (h2 b hb).2 hx
def Take : List Res → List Res → List Res → Prop
 | [], R, R' => R = R'
 | r :: rs, R, R' => ∃ R1, Del r R R1 ∧ Take rs R1 R'
theorem Take.nil {R : List Res} : Take [] R R := rfl
theorem Take.cons {r : Res} {rs R R1 R' : List Res} (h : Del r R R1) (k : Take rs R1 R') : Take (r :: rs) R R' := ⟨R1, h, k⟩
theorem ownL_app {A B : List Res} {b : Nat} : ownL (A ++ B) b ↔ ownL A b ∨ ownL B b := by
 induction A with
 | nil => simp [ownL]
 | cons r A ih => simp [ownL, ih, or_assoc]
theorem Take.own : ∀ {rs R R' : List Res}, Take rs R R' → ∀ b, ownL R b ↔ ownL rs b ∨ ownL R' b
 | [], R, R', h, b => by cases h; simp [ownL]
 | r :: rs, R, R', ⟨R1, h, k⟩, b => by rw [h.own b, k.own b]; simp [ownL, or_assoc]
theorem Take.sep {X : Nat → Prop} {W : World} : ∀ {rs R R' : List Res}, Take rs R R' → Sep X W R → Sep (fun b => X b ∨ ownL R' b) W rs ∧ Sep X W R'
  | [], R, R', h, hs => by cases h; exact ⟨trivial, hs⟩
  | r :: rs, R, R', ⟨R1, h, k⟩, hs => by
    obtain ⟨h1, h2, h3⟩ := h.sep hs
    obtain ⟨h4, h5⟩ := k.sep h3
    refine ⟨⟨h1, fun b hb => ⟨fun hx => ?_, fun hx => (h2 b hb).2 ((k.own b).2 (.inl hx))⟩, h4⟩, h5⟩
    rcases hx with hx | hx
    · exact (h2 b hb).1 hx
    · exact (h2 b hb).2 ((k.own b).2 (.inr hx))
theorem sep_app {X : Nat → Prop} {W : World} : ∀ {A B : List Res}, Sep (fun b => X b ∨ ownL B b) W A → Sep X W B → Sep X W (A ++ B)
  | [], B, _, h => h
  | r :: A, B, h, h' => ⟨h.1, fun b hb => ⟨fun hx => (h.2.1 b hb).1 (.inl hx), fun hx => by
      rcases ownL_app.1 hx with hx | hx
      · exact (h.2.1 b hb).2 hx
      · exact (h.2.1 b hb).1 (.inr hx)⟩, sep_app h.2.2 h'⟩
theorem Sat.take {C : Cx} {R rs R' : List Res} {Φ : List Fact} {W : World} (h : Sat C R Φ W) (ht : Take rs R R') : Sat C R' Φ W :=
 h.step ⟨rfl, rfl, rfl, Nat.le_refl _, fun _ _ _ => rfl⟩ (ht.sep h.sep).2 fun b hb => .inl ((ht.own b).2 (.inr hb))
theorem Sep.less {X X' : Nat → Prop} {W : World} : ∀ {R : List Res}, Sep X W R → (∀ b, X' b → X b) → Sep X' W R
 | [], _, _ => trivial
 | q :: R, h, hx => ⟨h.1, fun b hb => ⟨fun h' => (h.2.1 b hb).1 (hx b h'), (h.2.1 b hb).2⟩, h.2.2.less hx⟩
theorem Sep.more {X X' : Nat → Prop} {W : World} : ∀ {R : List Res}, Sep X W R → (∀ b, ownL R b → X' b → X b ∨ False) → Sep X' W R
 | [], _, _ => trivial
 | q :: R, h, hx => ⟨h.1, fun b hb => ⟨fun h' => (h.2.1 b hb).1 ((hx b (.inl hb) h').elim id False.elim), (h.2.1 b hb).2⟩, h.2.2.more fun b hb => hx b (.inr hb)⟩
def Lends : List Res → List Fact → Prop
 | [], lf => lf = []
 | q :: ls, lf => ∃ φ lf', lf = φ :: lf' ∧ (∀ X W, q.says W → (∀ b, q.own b → ¬ X b) → φ.p X W) ∧ Lends ls lf'
theorem Lends.mem {X Y : Nat → Prop} {W : World} : ∀ {ls : List Res} {lf : List Fact}, Lends ls lf → Sep Y W ls → (∀ b, ownL ls b → ¬ X b) → ∀ φ ∈ lf, φ.p X W
  | [], _, h, _, _, φ, hm => by cases h; simp at hm
  | q :: ls, _, ⟨ψ, lf', rfl, h1, h2⟩, hs, hx, φ, hm => by
    rcases List.mem_cons.1 hm with rfl | hm
    · exact h1 X W hs.1 fun b hb => hx b (.inl hb)
    · exact h2.mem hs.2.2 (fun b hb => hx b (.inr hb)) φ hm
def fillL : List Value → List ((Nat × Nat) × Value) → Option (List Value)
  | z, [] => some z
  | z, ((off, sz), v) :: r => match Nat.beq v.cells.toList.length sz with
    | true => match putL z off v.cells.toList with
      | some z' => fillL z' r
      | none => none
    | false => none
def tplaces (P : Program) (t : TypeId) (l : List Nat) : Option (List (Nat × Nat)) :=
 match P.underlying t with
 | some (.struct fs) => if fs.all (fun x => (P.info? x.type).isSome) then l.mapM fun f => (fs.map fun x => (x.offset, P.cellsOf x.type))[f]? else none
 | some (.array _ e) => (P.info? e).map fun i => l.map fun j => (j * i.size, i.size)
 | _ => none
def zrow (P : Program) (t : TypeId) (m : Nat) : Option (List Value) :=
 match P.underlying t with
 | some (.slice e) => (P.info? e).bind fun i => if m * i.size = 0 then some [] else i.zero.map fun z => ((Array.range (m * i.size)).map (z.cells[· % z.cells.size]!)).toList
 | _ => none
theorem fold_put : ∀ (vs : List Value) (k off : Nat) (cs : List Value), off + k + vs.length ≤ cs.length →
    (vs.zipIdx k).foldl (fun (cs : Array Value) (x : Value × Nat) => cs.setIfInBounds (off + x.2) x.1) cs.toArray = (cs.take (off + k) ++ vs ++ cs.drop (off + k + vs.length)).toArray
  | [], k, off, cs, h => by simp
  | v :: vs, k, off, cs, h => by
    simp only [List.zipIdx_cons, List.foldl_cons, List.setIfInBounds_toArray]
    rw [fold_put vs (k + 1) off (cs.set (off + k) v) (by simp at h ⊢; omega)]
    have hlt : off + k < cs.length := by simp at h; omega
    have e1 : (cs.set (off + k) v).take (off + (k + 1)) = cs.take (off + k) ++ [v] := by
      rw [show off + (k + 1) = (off + k) + 1 by omega, List.take_succ_eq_append_getElem (by simpa using hlt)]
      simp [List.take_set_of_le]
    have e2 : (cs.set (off + k) v).drop (off + (k + 1) + vs.length) = cs.drop (off + k + (v :: vs).length) := by
      rw [List.drop_set_of_lt (by omega)]
      simp; congr 1; omega
    rw [e1, e2]
    simp
theorem fill_spec {place : Nat → Option (Nat × Nat)} (plf : Nat → Nat × Nat) : ∀ (is : List Nat) (vs zs cs : List Value), fillL zs ((is.map plf).zip vs) = some cs → (∀ i ∈ is, place i = some (plf i)) →
    Instr.fill place zs.toArray (is.zip vs) = some cs.toArray
  | [], vs, zs, cs, h, _ => by simp [fillL] at h; simp [Instr.fill, h]
  | i :: is, [], zs, cs, h, _ => by simp [fillL] at h; simp [Instr.fill, h]
  | i :: is, v :: vs, zs, cs, h, hp => by
    simp only [List.map_cons, List.zip_cons_cons, fillL] at h
    split at h
    · rename_i hb
      have hsz := Nat.eq_of_beq_eq_true hb
      split at h
      · rename_i z' hz'
        obtain ⟨h1, h2⟩ := putL_spec hz'
        have ih := fill_spec (place := place) plf is vs z' cs h (fun i hi => hp i (by simp [hi]))
        have hs : v.cells.size = (plf i).2 := by rw [← hsz]; simp
        have hle : ¬ ((plf i).1 + v.cells.size > zs.toArray.size) := by simp at h1 ⊢; omega
        have hf : (v.cells.zipIdx.foldl (fun (cs : Array Value) (x : Value × Nat) => cs.setIfInBounds ((plf i).1 + x.2) x.1) zs.toArray) = z'.toArray := by
          have := fold_put v.cells.toList 0 (plf i).1 zs (by simpa using h1)
          rw [h2, ← Array.foldl_toList, Array.toList_zipIdx, this]
          simp
        have hc : ¬ ((decide (v.cells.size ≠ (plf i).2) || decide ((plf i).1 + v.cells.size > zs.toArray.size)) = true) := by simp only [Bool.or_eq_true, decide_eq_true_eq, not_or]; exact ⟨fun h => h hs, hle⟩
        simp only [List.zip_cons_cons, Instr.fill, hp i (by simp)]
        rw [if_neg hc]
        exact (congrArg (fun x => Instr.fill place x (is.zip vs)) hf).trans ih
      · cases h
    · cases h
theorem run_buildSlice {P : Program} {w : World} {t e : TypeId} {m s : Nat} {is : List Nat} {vs zs cs : List Value} (hT : tslice P t = some (e, s)) (h : zrow P t m = some zs) (hm : m * s ≤ 16777216)
    (hf : fillL zs ((is.map fun i => (i * s, s)).zip vs) = some cs) :
    (Instr.buildSlice t m (is.zip vs).toArray).run P w = .ok (.slice (some ⟨w.heap.size, 0, none⟩) m m) (w.alloc (.cells cs.toArray e)) := by
  obtain ⟨hu, i, hi, hk⟩ := tslice_spec hT
  subst hk
  have hf' := fill_spec (place := fun j => some (j * i.size, i.size)) _ is vs zs cs hf (fun _ _ => rfl)
  have hle : ¬ 16777216 < m * i.size := by omega
  unfold zrow at h
  simp only [hu, hi, Option.bind_some] at h
  by_cases h0 : m * i.size = 0
  · rw [if_pos h0] at h
    simp at h
    subst h
    have er : (Array.range 0).map (fun _ : Nat => (default : Value)) = #[] := by simp
    simp [Instr.buildSlice, run_underlying hu, sizeOf, typeInfo, hi, h0, er, hf', newRow]
  · rw [if_neg h0] at h
    cases hz : i.zero with
    | none => simp [hz] at h
    | some z =>
      simp only [hz, Option.map_some, Option.some.injEq] at h
      have e1 : (Array.range (m * i.size)).map (z.cells[· % z.cells.size]!) = zs.toArray := by rw [← h]
      simp [Instr.buildSlice, run_underlying hu, sizeOf, typeInfo, hi, h0, hle, zeroValue, hz, e1, hf', newRow]
theorem mapM_places {P : Program} {w : World} : ∀ (fs : List Field), (∀ x ∈ fs, ∃ i, P.info? x.type = some i) →
    (fs.mapM fun (f : Field) => do pure (f.offset, ← sizeOf f.type) : Sem (List (Nat × Nat))).run P w = .ok (fs.map fun x => (x.offset, P.cellsOf x.type)) w
  | [], _ => by simp
  | f :: fs, h => by
    obtain ⟨i, hi⟩ := h f (by simp)
    have ih := mapM_places (P := P) (w := w) fs (fun x hx => h x (by simp [hx]))
    rw [List.mapM_cons, Sem.run_bind]
    simp [sizeOf, typeInfo, hi, Program.cellsOf] at ih ⊢
    simp [ih]
theorem run_build {P : Program} {T' : TypeId} {is : List Nat} {vs cs zs : List Value} {pl : List (Nat × Nat)} (hz : tzero P T' = some zs) (hp : tplaces P T' is = some pl) (hf : fillL zs (pl.zip vs) = some cs) {W : World} :
    (Instr.build T' (is.zip vs).toArray).run P W = .ok (.agg cs.toArray) W := by
  obtain ⟨z, hz1, hz2⟩ := tzero_spec (w := W) hz
  unfold tplaces at hp
  cases hu : P.underlying T' with
  | none => simp [hu] at hp
  | some d =>
    cases d with
    | struct fs =>
      simp only [hu] at hp
      split at hp
      · rename_i hall
        have hall' : ∀ x ∈ fs.toList, ∃ i, P.info? x.type = some i := fun x hx => by
          have := Array.all_eq_true'.1 hall x (by simpa using hx)
          exact Option.isSome_iff_exists.1 this
        have e1 := mapM_places (P := P) (w := W) fs.toList hall'
        have e2 : (fs.mapM fun (f : Field) => do pure (f.offset, ← sizeOf f.type) : Sem (Array (Nat × Nat))).run P W = .ok (fs.map fun x => (x.offset, P.cellsOf x.type)) W := by
          rw [← Array.toArray_toList (xs := fs), List.mapM_toArray, map_eq_pure_bind, Sem.run_bind, e1]
          simp only [Result.andThen_ok, Sem.run_pure, Result.ok.injEq, and_true]
          apply Array.toList_inj.1; simp
        obtain ⟨plf, hplf⟩ : ∃ plf : Nat → Nat × Nat, plf = fun i => ((fs.map fun x => (x.offset, P.cellsOf x.type))[i]?).getD (0, 0) := ⟨_, rfl⟩
        have e3 : pl = is.map plf ∧ ∀ i ∈ is, (fs.map fun x => (x.offset, P.cellsOf x.type))[i]? = some (plf i) := by
          subst hplf
          clear hf
          induction is generalizing pl with
          | nil => simp at hp; simp [hp]
          | cons j is ih =>
            rw [List.mapM_cons] at hp
            cases hj : (fs.map fun x => (x.offset, P.cellsOf x.type))[j]? with
            | none => simp [hj] at hp
            | some q =>
              rw [hj] at hp
              simp only [Option.bind_eq_bind, Option.bind_some, Option.bind_eq_some_iff, Option.pure_def, Option.some.injEq] at hp
              obtain ⟨l, hl, rfl⟩ := hp
              obtain ⟨h1, h2⟩ := ih hl
              refine ⟨by rw [List.map_cons, ← h1, hj]; rfl, fun i hi => ?_⟩
              rcases List.mem_cons.1 hi with rfl | hi
              · show _ = some (Option.getD _ _); rw [hj]; rfl
              · exact h2 i hi
        obtain ⟨e3, e4⟩ := e3
        subst e3
        have hf' := fill_spec plf is vs zs cs hf e4
        simp only [Instr.build, Sem.run_bind, hz1, Result.andThen_ok, run_underlying hu, e2, hz2, hf', Sem.run_pure]
      · cases hp
    | array m e =>
      simp only [hu] at hp
      cases hi : P.info? e with
      | none => simp [hi] at hp
      | some i =>
        simp only [hi, Option.map_some, Option.some.injEq] at hp
        subst hp
        have hf' := fill_spec (place := fun j => some (j * i.size, i.size)) _ is vs zs cs hf (fun _ _ => rfl)
        simp only [Instr.build, Sem.run_bind, hz1, Result.andThen_ok, run_underlying hu, sizeOf, typeInfo, run_program, hi, Sem.run_pure, hz2, hf']
    | _ => simp [hu] at hp
section rules
variable {P : Program} {r : Option Nat} {C : Cx} {n : Nat × List Nat} {ops : Array Oper} {Q : Exit → Act → World → Prop} {rest : List Oper} {env : List (Nat × Value)} {R : List Res} {Φ : List Fact}
  {d : Nat} {T T' : TypeId} {pos : String} {af : Array Edge} {x y z : Operand} {u v : Value} {c : Code}
theorem Jl.callv {f : FuncId} {fs cs vs : List Value} {zas : Array Operand} {ts : Array TypeId} {args : List Value} {Rin R' : List Res} {pre : List Fact} {α : Type} {res : α → Value} {Rout : α → List Res} {post : α → List Fact}
 (hct : Ct P f args Rin pre res Rout post) (hen : ∀ args w, (callFunc f args).run P w = .ok (.enter f args) w)
 (hx : opv env x = some (.func (.func f) fs.toArray cs.toArray)) (ha : opvs env zas.toList = some vs) (hv : fs ++ vs ++ cs = args) (ht : Take Rin R R') (hp : FSub pre Φ)
 (k : ∀ x, Jl P r C n ops Q rest ((d, res x) :: env) (Rout x ++ R') (post x ++ Φ)) (hd : Nat.blt d n.1 = true := by rfl) :
 Jl P r C n ops Q (⟨some d, .call { callee := .value x, args := zas, argTypes := ts }, T, pos, af, none⟩ :: rest) env R Φ := fun a W he hs => by
 refine wpListIn_plain rfl fun K hK => oper_plain (by simp) ?_
 have hrun : (execOp a.eval ⟨some d, .call { callee := .value x, args := zas, argTypes := ts }, T, pos, af, none⟩).run P W = .ok (.enter f args.toArray) W := by
  have e1 : zas.map a.eval = vs.toArray := by
   apply Array.toList_inj.1
   simpa using opvs_eval he ha
  subst hv
  simp [execOp, resolve, he.eval hx, e1, Deferred.ofValue, invoke, hen]
 rw [hrun]
 refine ⟨fun h => by simp [Fence.wide] at h, ?_⟩
 obtain ⟨h1, h2⟩ := ht.sep hs.sep
 have hcall := hct (fun b => C.X0 b ∨ ownL R' b) W (fun b hb => hb.elim (hs.x0lt b) (h2.lt b)) h1 (fun φ hφ => φ.fr _ _ W W (hs.facts φ (hp.mem φ hφ)) (Foreign.refl _ _) (fun b hb => .inl (by
  rcases hb with (hb | hb) | hb
  · exact .inl hb
  · exact .inr ((ht.own b).2 (.inr hb))
  · exact .inr ((ht.own b).2 (.inl hb)))))
 have hc2 : CallsIn (Fz r) (0 - 1) P f args.toArray W _ := (callsIn_wide (n := 0 - 1)).2 hcall
 refine CallsIn.mono (F := Fz r) hc2 ?_
 rintro e W' ⟨x, rfl, hf, hsep, hown, hpost⟩
 have hnR : ∀ b, ownL R' b → ¬ ownL Rin b := fun b hb hb' => h1.notX b hb' (.inr hb)
 have hsat : Sat C (Rout x ++ R') Φ W' := by
  refine hs.step ⟨hf.os, hf.tape, hf.output, hf.size, fun b hb hx => hf.block b hb fun h => hx ((ht.own b).2 (.inl h))⟩ (sep_app hsep (h2.keep fun b hb => hf.block b (h2.lt b hb) (hnR b hb))) fun b hb => ?_
  rcases ownL_app.1 hb with hb | hb
  · exact (hown b hb).imp (fun h => (ht.own b).2 (.inl h)) id
  · exact .inl ((ht.own b).2 (.inr hb))
 refine hK _ _ (k x _ W' (he.put (Nat.le_of_ble_eq_true hd) _) ⟨hsat.ev, hsat.sep, hsat.ours, hsat.x0, fun φ hφ => ?_⟩)
 rcases List.mem_append.1 hφ with hφ | hφ
 · exact φ.fr _ _ W' W' (hpost φ hφ) (Foreign.refl _ _) fun b hb => .inl (by
    rcases hb with hb | hb
    · exact .inl (.inl hb)
    · rcases ownL_app.1 hb with hb | hb
      · exact .inr hb
      · exact .inl (.inr hb))
 · exact hsat.facts φ hφ
theorem Jl.calll {f : FuncId} {fs cs vs : List Value} {zas : Array Operand} {ts : Array TypeId} {args : List Value} {Rin R' R'' ls : List Res} {lf pre : List Fact} {α : Type} {res : α → Value} {Rout : α → List Res}
 (hct : Ct P f args Rin pre res Rout (fun _ => [])) (hen : ∀ args w, (callFunc f args).run P w = .ok (.enter f args) w)
 (hx : opv env x = some (.func (.func f) fs.toArray cs.toArray)) (ha : opvs env zas.toList = some vs) (hv : fs ++ vs ++ cs = args) (ht : Take Rin R R') (hl : Take ls R' R'') (hlf : Lends ls lf) (hp : FSub pre (lf ++ Φ))
 (k : ∀ x, Jl P r C n ops Q rest ((d, res x) :: env) (Rout x ++ R') Φ) (hd : Nat.blt d n.1 = true := by rfl) :
 Jl P r C n ops Q (⟨some d, .call { callee := .value x, args := zas, argTypes := ts }, T, pos, af, none⟩ :: rest) env R Φ := fun a W he hs => by
 refine wpListIn_plain rfl fun K hK => oper_plain (by simp) ?_
 have hrun : (execOp a.eval ⟨some d, .call { callee := .value x, args := zas, argTypes := ts }, T, pos, af, none⟩).run P W = .ok (.enter f args.toArray) W := by
  have e1 : zas.map a.eval = vs.toArray := by
   apply Array.toList_inj.1
   simpa using opvs_eval he ha
  subst hv
  simp [execOp, resolve, he.eval hx, e1, Deferred.ofValue, invoke, hen]
 rw [hrun]
 refine ⟨fun h => by simp [Fence.wide] at h, ?_⟩
 obtain ⟨h1, h2⟩ := ht.sep hs.sep
 obtain ⟨h3, h4⟩ := hl.sep h2
 have hin : ∀ b, ownL Rin b → ¬ ownL R' b := fun b hb hb' => h1.notX b hb (.inr hb')
 have hls : ∀ b, ownL ls b → ¬ C.X0 b ∧ ¬ ownL R'' b ∧ ¬ ownL Rin b := fun b hb => ⟨fun hx => h3.notX b hb (.inl hx), fun hx => h3.notX b hb (.inr hx), fun hx => hin b hx ((hl.own b).2 (.inl hb))⟩
 have h1' : Sep (fun b => C.X0 b ∨ ownL R'' b) W Rin := h1.less fun b hb => hb.imp id fun h => (hl.own b).2 (.inr h)
 have hcall := hct (fun b => C.X0 b ∨ ownL R'' b) W (fun b hb => hb.elim (hs.x0lt b) (h4.lt b)) h1' (fun φ hφ => by
  rcases List.mem_append.1 (hp.mem φ hφ) with hm | hm
  · refine hlf.mem h3 (fun b hb => ?_) φ hm
    obtain ⟨q1, q2, q3⟩ := hls b hb
    rintro ((h | h) | h)
    · exact q1 h
    · exact q2 h
    · exact q3 h
  · exact φ.fr _ _ W W (hs.facts φ hm) (Foreign.refl _ _) (fun b hb => .inl (by
     rcases hb with (hb | hb) | hb
     · exact .inl hb
     · exact .inr ((ht.own b).2 (.inr ((hl.own b).2 (.inr hb))))
     · exact .inr ((ht.own b).2 (.inl hb)))))
 have hc2 : CallsIn (Fz r) (0 - 1) P f args.toArray W _ := (callsIn_wide (n := 0 - 1)).2 hcall
 refine CallsIn.mono (F := Fz r) hc2 ?_
 rintro e W' ⟨x, rfl, hf, hsep, hown, _⟩
 have hsep' : Sep (fun b => C.X0 b ∨ ownL R' b) W' (Rout x) := hsep.more fun b hb h => by
  rcases h with h | h
  · exact .inl (.inl h)
  · rcases (hl.own b).1 h with h | h
    · exfalso
      rcases hown b hb with h5 | h5
      · exact (hls b h).2.2 h5
      · have := h3.lt b h; omega
    · exact .inl (.inr h)
 refine hK _ _ (k x _ W' (he.put (Nat.le_of_ble_eq_true hd) _) (hs.step ⟨hf.os, hf.tape, hf.output, hf.size, fun b hb hx => hf.block b hb fun h => hx ((ht.own b).2 (.inl h))⟩ (sep_app hsep' (h2.keep fun b hb => hf.block b (h2.lt b hb) (fun h => hin b h hb))) fun b hb => ?_))
 rcases ownL_app.1 hb with hb | hb
 · exact (hown b hb).imp (fun h => (ht.own b).2 (.inl h)) id
 · exact .inl ((ht.own b).2 (.inr hb))
theorem Jl.call {f : FuncId} {zas : Array Operand} {ts : Array TypeId} {args : List Value} {Rin R' : List Res} {pre : List Fact} {α : Type} {res : α → Value} {Rout : α → List Res} {post : α → List Fact}
 (hct : Ct P f args Rin pre res Rout post) (hen : ∀ args w, (callFunc f args).run P w = .ok (.enter f args) w) (ha : opvs env zas.toList = some args) (ht : Take Rin R R') (hp : FSub pre Φ)
 (k : ∀ x, Jl P r C n ops Q rest ((d, res x) :: env) (Rout x ++ R') (post x ++ Φ)) (hd : Nat.blt d n.1 = true := by rfl) :
 Jl P r C n ops Q (⟨some d, .call { callee := .value (.func f), args := zas, argTypes := ts }, T, pos, af, none⟩ :: rest) env R Φ :=
 Jl.callv (fs := []) (cs := []) hct hen rfl ha (by simp) ht hp k hd
theorem sat_seal {W : World} {q : Res} {R' : List Res} {φ : Fact} (hs : Sat C R Φ W) (hd : Del q R R') (h : ∀ X, (∀ b, q.own b → ¬ X b) → φ.p X W) : Sat C R' (φ :: Φ) W := by
 have h1 : Sat C R' Φ W := hs.take (rs := [q]) ⟨_, hd, rfl⟩
 refine h1.add (h _ fun b hb hx => ?_)
 have := (hd.sep hs.sep).2.1 b hb
 exact hx.elim this.1 this.2
theorem rd_of_blk {W : World} {b : Nat} {Tb : TypeId} {cs : List Value} (h : W.heap[b]? = some (.cells cs.toArray Tb (0, 0))) {X : Nat → Prop} (hX : ¬ X b) : (Fact.rd (some ⟨b, 0, none⟩) cs).p X W := fun j u hu =>
 ⟨_, rfl, (Array.getElem?_eq_some_iff.1 h).1, hX, by rw [show (⟨b, 0, none⟩ : Addr).add j = ⟨b, j, none⟩ by rw [add_none]; simp, cell_of_row W b j _ _ _ h]; simpa using hu⟩
theorem rd_of_row {W : World} {e : TypeId} {s m k : Nat} {A : Option Addr} {xs : List Value} (h : W.ownsRow 0 e s (.slice A m k) m xs) {X : Nat → Prop} (hX : ∀ b, (Value.slice A m k).ownBlock = some b → ¬ X b) : (Fact.rd A xs).p X W := fun j u hu => by
 obtain ⟨a, rfl, _, h2, h3⟩ := Rd.of_own h j u hu
 exact ⟨a, rfl, h2, hX _ rfl, h3⟩
theorem Lends.nil : Lends [] [] := rfl
theorem Lends.row {e : TypeId} {s m cap : Nat} {A : Option Addr} {xs : List Value} {ls : List Res} {lf : List Fact} (h : Lends ls lf) : Lends (.row e s (.slice A m cap) m xs :: ls) (.rd A xs :: lf) :=
 ⟨_, _, rfl, fun X W hs hx => rd_of_row hs hx, h⟩
theorem Lends.blk {b : Nat} {Tb : TypeId} {cs : List Value} {ls : List Res} {lf : List Fact} (h : Lends ls lf) : Lends (.blk b Tb cs :: ls) (.rd (some ⟨b, 0, none⟩) cs :: lf) :=
 ⟨_, _, rfl, fun X W hs hx => rd_of_blk hs (hx b rfl), h⟩
theorem Jl.seal {b : Nat} {Tb : TypeId} {cs : List Value} {R' : List Res} (hd : Del (.blk b Tb cs) R R') (k : Jl P r C n ops Q rest env R' (.rd (some ⟨b, 0, none⟩) cs :: Φ)) : Jl P r C n ops Q rest env R Φ := fun a W he hs =>
 k a W he (sat_seal hs hd fun X hX => rd_of_blk (hd.sep hs.sep).1 (hX b rfl))
theorem Jl.sealR {e : TypeId} {s m cap : Nat} {A : Option Addr} {xs : List Value} {R' : List Res} (hd : Del (.row e s (.slice A m cap) m xs) R R') (k : Jl P r C n ops Q rest env R' (.rd A xs :: Φ)) : Jl P r C n ops Q rest env R Φ := fun a W he hs =>
 k a W he (sat_seal hs hd fun X hX => rd_of_row (hd.sep hs.sep).1 hX)
theorem row_cap {e : TypeId} {s m cap : Nat} {A : Option Addr} {xs : List Value} {W : World} (h : (Res.row e s (.slice A m cap) m xs).says W) : m ≤ cap := by
 have h' : W.ownsRow 0 e s (.slice A m cap) m xs := h
 rcases h'.2 with ⟨_, h1⟩ | ⟨_, _, _, h1, _, _, h2, _⟩
 · omega
 · cases h1; exact h2
theorem Jl.sealC {e : TypeId} {s m cap : Nat} {A : Option Addr} {xs : List Value} {R' : List Res} (hd : Del (.row e s (.slice A m cap) m xs) R R') (k : m ≤ cap → Jl P r C n ops Q rest env R' (.rd A xs :: Φ)) : Jl P r C n ops Q rest env R Φ := fun a W he hs =>
 k (row_cap (hd.sep hs.sep).1) a W he (sat_seal hs hd fun X hX => rd_of_row (hd.sep hs.sep).1 hX)
theorem Jc.seal {b : Nat} {Tb : TypeId} {cs : List Value} {R' : List Res} (hd : Del (.blk b Tb cs) R R') (k : Jc P r C n Q c env R' (.rd (some ⟨b, 0, none⟩) cs :: Φ)) : Jc P r C n Q c env R Φ := fun a W he hs =>
 k a W he (sat_seal hs hd fun X hX => rd_of_blk (hd.sep hs.sep).1 (hX b rfl))
theorem Jc.sealR {e : TypeId} {s m cap : Nat} {A : Option Addr} {xs : List Value} {R' : List Res} (hd : Del (.row e s (.slice A m cap) m xs) R R') (k : Jc P r C n Q c env R' (.rd A xs :: Φ)) : Jc P r C n Q c env R Φ := fun a W he hs =>
 k a W he (sat_seal hs hd fun X hX => rd_of_row (hd.sep hs.sep).1 hX)
theorem Jc.drop {q : Res} {R' : List Res} (hd : Del q R R') (k : Jc P r C n Q c env R' Φ) : Jc P r C n Q c env R Φ := fun a W he hs => k a W he (hs.take (rs := [q]) ⟨_, hd, rfl⟩)
theorem Jl.drop {q : Res} {R' : List Res} (hd : Del q R R') (k : Jl P r C n ops Q rest env R' Φ) : Jl P r C n ops Q rest env R Φ := fun a W he hs => k a W he (hs.take (rs := [q]) ⟨_, hd, rfl⟩)
theorem Jl.rsay {q q' : Res} {R' : List Res} (hw : Swap q q' R R') (h : ∀ W, q.says W → q'.says W) (ho : ∀ b, q'.own b → q.own b) (k : Jl P r C n ops Q rest env R' Φ) : Jl P r C n ops Q rest env R Φ := fun a W he hs =>
 k a W he (hs.swap hw (Foreign.refl _ _) (h W (hw.old hs.sep)) fun b hb => .inl (ho b hb))
theorem Jc.rsay {q q' : Res} {R' : List Res} (hw : Swap q q' R R') (h : ∀ W, q.says W → q'.says W) (ho : ∀ b, q'.own b → q.own b) (k : Jc P r C n Q c env R' Φ) : Jc P r C n Q c env R Φ := fun a W he hs =>
 k a W he (hs.swap hw (Foreign.refl _ _) (h W (hw.old hs.sep)) fun b hb => .inl (ho b hb))
theorem blk_row {b : Nat} {e : TypeId} {cs : List Value} (s m : Nat) (hl : cs.length = m * s) (hm : m ≤ 1000000) (W : World) (h : (Res.blk b e cs).says W) : (Res.row e s (.slice (some ⟨b, 0, none⟩) m m) m cs).says W :=
 ⟨hl, .inr ⟨b, m, cs.toArray, rfl, Nat.zero_le _, h, Nat.le_refl _, by unfold maxLen; omega, by simpa using hl, by rw [← hl]; simp⟩⟩
theorem Jl.toRow {b : Nat} {e : TypeId} {cs : List Value} {R' : List Res} (s m : Nat) (hw : Swap (.blk b e cs) (.row e s (.slice (some ⟨b, 0, none⟩) m m) m cs) R R') (hl : cs.length = m * s) (hm : Nat.ble m 1000000 = true)
 (k : Jl P r C n ops Q rest env R' Φ) : Jl P r C n ops Q rest env R Φ :=
 Jl.rsay hw (blk_row s m hl (Nat.le_of_ble_eq_true hm)) (fun g hg => by simpa [Res.row, Value.ownBlock, Res.blk, eq_comm] using hg) k
theorem Jl.nilRow (e : TypeId) (s : Nat) (k : Jl P r C n ops Q rest env (.row e s (.slice none 0 0) 0 [] :: R) Φ) : Jl P r C n ops Q rest env R Φ := fun a W he hs => by
 have hno : ∀ b, ¬ (Res.row e s (.slice none 0 0) 0 []).own b := fun b h => by simp [Res.row, Value.ownBlock] at h
 exact k a W he (hs.step (W' := W) (Foreign.refl _ _) ⟨World.ownsRow_nil _ _ _ _, fun b hb => (hno b hb).elim, hs.sep⟩ fun b hb => hb.elim (fun h => (hno b h).elim) .inl)
theorem Jc.nilRow (e : TypeId) (s : Nat) (k : Jc P r C n Q c env (.row e s (.slice none 0 0) 0 [] :: R) Φ) : Jc P r C n Q c env R Φ := fun a W he hs => by
 have hno : ∀ b, ¬ (Res.row e s (.slice none 0 0) 0 []).own b := fun b h => by simp [Res.row, Value.ownBlock] at h
 exact k a W he (hs.step (W' := W) (Foreign.refl _ _) ⟨World.ownsRow_nil _ _ _ _, fun b hb => (hno b hb).elim, hs.sep⟩ fun b hb => hb.elim (fun h => (hno b h).elim) .inl)
theorem Jl.buildSlice {m : Nat} {ps : Array (Nat × Operand)} {vs cs zs : List Value} {e : TypeId} {s : Nat} (hv : opvs env (ps.toList.map (·.2)) = some vs) (hT : tslice P T' = some (e, s)) (hz : zrow P T' m = some zs)
 (hm : Nat.ble (m * s) 16777216 = true) (hf : fillL zs ((ps.toList.map fun p => (p.1 * s, s)).zip vs) = some cs)
 (k : ∀ b, Jl P r C n ops Q rest ((d, .slice (some ⟨b, 0, none⟩) m m) :: env) (.blk b e cs :: R) Φ) (hd : Nat.blt d n.1 = true := by rfl) :
 Jl P r C n ops Q (⟨some d, .buildSlice T' m ps, T, pos, af, none⟩ :: rest) env R Φ :=
 Jl.valx hd (by simp) fun a W he hs => by
  refine ⟨_, _, _, _, ?_, hs.new cs e, k _⟩
  have e1 : ps.map (fun (i, x) => (i, a.eval x)) = ((ps.toList.map (·.1)).zip vs).toArray := by
   apply Array.toList_inj.1
   simp only [Array.toList_map, ← opvs_eval he hv]
   induction ps.toList with
   | nil => rfl
   | cons p l ih => simp [ih]
  have hb := run_buildSlice (P := P) (w := W) (is := ps.toList.map (·.1)) (vs := vs) hT hz (Nat.le_of_ble_eq_true hm) (by simpa [Function.comp_def] using hf)
  simp only [execOp, e1, Sem.run_bind, hb, Result.andThen_ok, Sem.run_pure]
theorem PR.build {ps : Array (Nat × Operand)} {vs cs zs : List Value} {pl : List (Nat × Nat)} (hv : opvs env (ps.toList.map (·.2)) = some vs) (hz : tzero P T' = some zs) (hp : tplaces P T' (ps.toList.map (·.1)) = some pl)
    (hf : fillL zs (pl.zip vs) = some cs)
     : PR P C n env R Φ (.build T' ps) T (.agg cs.toArray) := fun a W he hs d pos af g => (by
    have e1 : ps.map (fun (i, x) => (i, a.eval x)) = ((ps.toList.map (·.1)).zip vs).toArray := by
      apply Array.toList_inj.1
      simp only [Array.toList_map, ← opvs_eval he hv]
      induction ps.toList with
      | nil => rfl
      | cons p l ih => simp [ih]
    simp only [execOp, e1, Sem.run_bind, run_build hz hp hf, Result.andThen_ok, Sem.run_pure])
theorem Jl.append {s m cap mm c' bytes : Nat} {A B : Option Addr} {e : TypeId} {xs news : List Value} {zc : List Value} {R' : Option Addr → Nat → List Res} {ts : Array TypeId} (tot : Nat) (ys : List Value)
 (hx : opv env x = some (.slice A m cap)) (hy : opv env y = some (.slice B mm c')) (hts : ts = #[T', T'])
 (hT : tslice P T' = some (e, s)) (hz : tzero P e = some zc) (hzl : zc.length = s) (hs0 : 0 < s) (hb : P.bytesOf e = bytes)
 (hw : ∀ A' c', Swap (.row e s (.slice A m cap) m xs) (.row e s (.slice A' tot c') tot ys) R (R' A' c')) (hm : Mem (.rd B news) Φ) (htot : m + mm = tot) (hys : xs ++ news = ys) (hl : news.length = mm * s) (h1 : ∀ u ∈ news, u.oneCell' = true)
 (h63 : m + mm ≤ 100000000) (hby : bytes ≤ 1000000)
 (k : ∀ A' c', Jl P r C n ops Q rest ((d, .slice A' tot c') :: env) (R' A' c') Φ) (hd : Nat.blt d n.1 = true := by rfl) :
 Jl P r C n ops Q (⟨some d, .call { callee := .builtin .append, args := #[x, y], argTypes := ts }, T, pos, af, none⟩ :: rest) env R Φ :=
 Jl.valx hd (by simp) fun a W he hs => by
  subst hts htot hys
  obtain ⟨hu, inf, hi, hk⟩ := tslice_spec hT
  have hown : W.ownsRow 0 e s (.slice A m cap) m xs := (hw none 0).old hs.sep
  have hrd : Rd W 0 W.heap.size B news := fun j u hu => by
   obtain ⟨ad, h1, h2, _, h3⟩ := hs.fact hm j u hu
   exact ⟨ad, h1, Nat.zero_le _, h2, h3⟩
  have hzz : ∃ z, inf.zero = some z ∧ z.cells = zc.toArray := by
   unfold tzero at hz
   rw [hi] at hz
   cases h : inf.zero with
   | none => simp [h] at hz
   | some z => simp [h] at hz; exact ⟨z, rfl, by rw [← hz]⟩
  obtain ⟨z, hz1, hz2⟩ := hzz
  have hbb : inf.bytes = bytes := by simpa [Program.bytesOf, hi] using hb
  have hbnd : (m + mm) * bytes ≤ 140737488355328 := Nat.le_trans (Nat.mul_le_mul h63 hby) (by omega)
  obtain ⟨v', W', hrun, h2, h3, h4⟩ := run_append_src (P := P) W 0 T' T e inf z s bytes hu hi hz1 hk hbb (by rw [hz2]; simpa using hzl) hs0 (.slice A m cap) m xs hown 0 W.heap.size B mm c' news hl hrd h1
   (by unfold maxLen; omega) hbnd (Nat.zero_le _)
  obtain ⟨A', k', rfl, _⟩ := own_form h2
  refine ⟨_, W', R' A' k', Φ, ?_, hs.swap (hw A' k') ⟨h3.os, h3.tape, h3.output, h3.size, fun b hb hne => h3.block b hb fun e => hne (by simpa [Res.row] using e.symm)⟩ h2 (fun b hb => ?_), k A' k'⟩
  · simp only [execOp, resolve, invoke, builtin, Sem.run_bind, Sem.run_pure, Result.andThen_ok, List.map_toArray, List.map_cons, List.map_nil, he.eval hx, he.eval hy, hrun]
  · have hb' : (Value.slice A' (m + mm) k').ownBlock = some b := hb
    rcases h4 with h4 | h4
    · rw [h4] at hb'; exact .inl hb'
    · rw [h4] at hb'; injection hb' with hb'; exact .inr (Nat.le_of_eq hb')
theorem Jl.slice {A : Option Addr} {len cap s : Nat} {e : TypeId} {xs : List Value} {lo hi : Option Operand} (l h m : Nat) (ys : List Value) (hx : opv env x = some (.slice A len cap)) (hT : tslice P T' = some (e, s))
    (hlo : (match lo with | none => some (Value.int .i64 0) | some o => opv env o) = some (.int .i64 l)) (hhi : (match hi with | none => some (Value.int .i64 len) | some o => opv env o) = some (.int .i64 h))
    (hm : Mem (.rd A xs) Φ) (h1 : l ≤ h) (h2 : h ≤ len) (h3 : len ≤ cap) (hme : h - l = m) (hys : (xs.drop (l * s)).take (m * s) = ys)
    (k : ∀ A' c', c' = cap - l → Jl P r C n ops Q rest ((d, .slice A' m c') :: env) R (.rd A' ys :: Φ)) (hd : Nat.blt d n.1 = true := by rfl) :
    Jl P r C n ops Q (⟨some d, .slice T' x lo hi none, T, pos, af, none⟩ :: rest) env R Φ :=
  Jl.valx hd (by simp) fun a W he hs => by
    obtain ⟨hu, inf, hi', hk⟩ := tslice_spec hT
    subst hme hys
    refine ⟨_, W, R, _, ?_, hs.add ?_, k (if cap = l then A else A.map (·.add (l * s))) _ rfl⟩
    · have e1 : (Instr.sliceBounds true len cap (lo.map a.eval) (hi.map a.eval) none).run P W = .ok (l, h, cap) W := by
        have h5 : (0 : Int) ≤ h ∧ (h : Int) ≤ cap := by omega
        have h6 : (0 : Int) ≤ l ∧ (l : Int) ≤ h := by omega
        have h5' : h ≤ cap := by omega
        cases lo with
        | none =>
          have hl0 : l = 0 := by simp at hlo; omega
          subst hl0
          cases hi with
          | none =>
            have : h = len := by simp at hhi; omega
            subst this
            simp [Instr.sliceBounds]
          | some o => simp [Instr.sliceBounds, he.eval hhi, Instr.sliceBound, asIntOf, h5']
        | some o' =>
          cases hi with
          | none =>
            have : h = len := by simp at hhi; omega
            subst this
            simp [Instr.sliceBounds, he.eval hlo, Instr.sliceBound, asIntOf, h1]
          | some o => simp [Instr.sliceBounds, he.eval hhi, he.eval hlo, Instr.sliceBound, asIntOf, h5', h1]
      simp [execOp, he.eval hx, Instr.sliceAt, Instr.slice, run_underlying hu, e1, sizeOf, typeInfo, hi', hk]
    · intro j u hu'
      have hj : j < (h - l) * s := by
        have := (List.getElem?_eq_some_iff.1 hu').1
        simp at this
        omega
      rw [List.getElem?_take, if_pos hj, List.getElem?_drop] at hu'
      obtain ⟨ad, rfl, q1, q2, q3⟩ := hs.fact hm _ u hu'
      have hne : cap ≠ l := by
        intro e
        have : h - l = 0 := by omega
        rw [this] at hj
        simp at hj
      rw [if_neg hne]
      exact ⟨_, rfl, by rw [add_block]; exact q1, by rw [add_block]; exact q2, by rw [add_add]; exact q3⟩
theorem PR.str {A : Option Addr} {len cap : Nat} {e : TypeId} {l : List UInt8} {src dst : TypeId} (hx : opv env x = some (.slice A len cap)) (hs : P.underlying src = some (.slice e)) (he : P.underlying e = some (.int .u8)) (hdt : P.underlying dst = some .string)
 (hm : Mem (.rd A (u8s l)) Φ) (hl : l.length = len)  : PR P C n env R Φ (.convert src dst x) T (.string ⟨l.toArray⟩) := fun a W he' hsat d pos af g => (by
 subst hl
 have hrd : Rd W 0 W.heap.size A (u8s l) := fun j u hu => by
  obtain ⟨ad, h1, h2, _, h3⟩ := hsat.fact hm j u hu
  exact ⟨ad, h1, Nat.zero_le _, h2, h3⟩
 have := run_string (P := P) hs he hdt hrd cap
 simp [execOp, he'.eval hx, this])
theorem PR.seql {l l' : List UInt8} (t : Bool) (hx : opv env x = some (.string ⟨l.toArray⟩)) (hy : opv env y = some (.string ⟨l'.toArray⟩)) (ht : decide (l = l') = t)  : PR P C n env R Φ (.binOp .eql T' x y T') T (.bool t) := fun a W he _ d pos af g => (by
 subst ht
 have : ((⟨l.toArray⟩ : ByteArray).toList == (⟨l'.toArray⟩ : ByteArray).toList) = decide (l = l') := by
  rw [Bool.eq_iff_iff]; simp [Array.getD]
 simp [execOp, he.eval hx, he.eval hy, eqGuard, binOp, Op.stringOp, this]
 rw [Bool.eq_iff_iff]; simp)
end rules
def RetV (P : Program) (env : List (Nat × Value)) (R : List Res) : ResultVar → Value → Prop
 | .tmp t, v => elook t env = some v
 | .cell p ty, v => ∃ b T cs m, elook p env = some (.pointer (some ⟨b, 0, none⟩)) ∧ Has b T cs R ∧ ((tshape P ty = some (true, m) ∧ cs.length = m ∧ v = .agg cs.toArray) ∨ (tshape P ty = some (false, m) ∧ cs[0]? = some v))
def RetVs (P : Program) (env : List (Nat × Value)) (R : List Res) : List ResultVar → List Value → Prop
 | [], vs => vs = []
 | rv :: rvs, vs => ∃ v vs', vs = v :: vs' ∧ RetV P env R rv v ∧ RetVs P env R rvs vs'
theorem RetVs.nil {P : Program} {env : List (Nat × Value)} {R : List Res} : RetVs P env R [] [] := rfl
theorem RetVs.tmp {P : Program} {env : List (Nat × Value)} {R : List Res} {t : Nat} {v : Value} {rvs : List ResultVar} {vs : List Value} (h : elook t env = some v) (k : RetVs P env R rvs vs) : RetVs P env R (.tmp t :: rvs) (v :: vs) := ⟨v, vs, rfl, h, k⟩
theorem RetVs.cellA {P : Program} {env : List (Nat × Value)} {R : List Res} {p ty b m : Nat} {T : TypeId} {cs : List Value} {rvs : List ResultVar} {vs : List Value} (h : elook p env = some (.pointer (some ⟨b, 0, none⟩))) (hB : Has b T cs R)
 (hT : tshape P ty = some (true, m)) (hm : cs.length = m) (k : RetVs P env R rvs vs) : RetVs P env R (.cell p ty :: rvs) (.agg cs.toArray :: vs) := ⟨_, vs, rfl, ⟨b, T, cs, m, h, hB, .inl ⟨hT, hm, rfl⟩⟩, k⟩
theorem RetVs.cell1 {P : Program} {env : List (Nat × Value)} {R : List Res} {p ty b m : Nat} {T : TypeId} {cs : List Value} {v : Value} {rvs : List ResultVar} {vs : List Value} (h : elook p env = some (.pointer (some ⟨b, 0, none⟩))) (hB : Has b T cs R)
 (hT : tshape P ty = some (false, m)) (hv : cs[0]? = some v) (k : RetVs P env R rvs vs) : RetVs P env R (.cell p ty :: rvs) (v :: vs) := ⟨_, vs, rfl, ⟨b, T, cs, m, h, hB, .inr ⟨hT, hv⟩⟩, k⟩
def retval : List Value → Value
 | [v] => v
 | vs => .tuple vs.toArray
def rvSem (tmps : Array Value) : ResultVar → Sem Value
 | .tmp t => pure (tmps.getD t undef)
 | .cell a t => do loadVar t (← asAddr (tmps.getD a undef))
theorem results_rv (fn : Func) (tmps : Array Value) : results fn tmps = (do
 let vs ← fn.results.mapM (rvSem tmps)
 pure (if h : vs.size = 1 then vs[0] else .tuple vs)) := by
 have : (fun x => match x with
  | ResultVar.tmp t => pure (tmps.getD t undef)
  | ResultVar.cell a t => do loadVar t (← asAddr (tmps.getD a undef))) = rvSem tmps := by
  funext x; cases x <;> rfl
 unfold results
 rw [← this]
 rfl
theorem ret_run {P : Program} {n : Nat × List Nat} {env : List (Nat × Value)} {R : List Res} {X : Nat → Prop} {a : Act} {W W' : World} (he : Env n env a) (hs : Sep X W R) (hc : ∀ p, W'.cell? p = W.cell? p) :
    ∀ (rvs : List ResultVar) (vs : List Value), RetVs P env R rvs vs → (rvs.mapM (rvSem a.tmps)).run P W' = .ok vs W'
  | [], vs, h => by cases h; simp
  | rv :: rvs, _, ⟨v, vs, rfl, h, k⟩ => by
    have ih := ret_run he hs hc rvs vs k
    have hv : (rvSem a.tmps rv).run P W' = .ok v W' := by
      cases rv with
      | tmp t =>
        have := he.at_ t v h
        simp [rvSem, Array.getD_eq_getD_getElem?, this]
      | cell p ty =>
        obtain ⟨b, T, cs, m, h1, hB, h2⟩ := h
        have ht : a.tmps.getD p undef = .pointer (some ⟨b, 0, none⟩) := by
          have := he.at_ p _ h1
          simp [Array.getD_eq_getD_getElem?, this]
        have hb := hB.says hs
        have hl : (loadVar ty ⟨b, 0, none⟩).run P W' = .ok v W' := by
          rcases h2 with ⟨hT, hm, rfl⟩ | ⟨hT, hv⟩
          · have hl : (loadCells ⟨b, 0, none⟩ m).run P W' = .ok cs.toArray W' := by
              have := run_loadCells_list (P := P) W' ⟨b, 0, none⟩ cs (fun i u hu => by
                rw [add_none, hc, cell_of_row W b (0 + i) _ _ _ hb]
                simpa using hu)
              rwa [hm] at this
            simp [loadVar, run_isAgg_ts hT, run_sizeOf_ts hT, hl]
          · have hcell : W'.cell? ⟨b, 0, none⟩ = some v := by rw [hc, cell_of_row W b 0 _ _ _ hb]; simpa using hv
            simp [loadVar, run_isAgg_ts hT, hcell]
        show (do loadVar ty (← asAddr (a.tmps.getD p undef)) : Sem Value).run P W' = _
        rw [ht]
        simp [asAddr, hl]
    rw [List.mapM_cons, Sem.run_bind, hv]
    simp only [Result.andThen_ok, Sem.run_bind, ih, Sem.run_pure]
theorem Jq.fin {P : Program} {C : Cx} {nt : Nat} {env : List (Nat × Value)} {R : List Res} {Φ : List Fact} {fn : Func} {α : Type} {res : α → Value} {Rout : α → List Res} {post : α → List Fact} {R' : List Res} {rvs : List ResultVar} {vs : List Value} {e : Exit}
 (x : α) (he' : e = .ret ∨ e = .normal) (hrv : fn.results = rvs.toArray) (hr : RetVs P env R rvs vs) (hv : res x = retval vs) (ht : Take (Rout x) R R') (hp : FSub (post x) Φ) :
 Jq C (nt, []) (bodyPostM Fence.wide 0 P fn (Fin C res Rout post)) e env R Φ := fun a W he hs => by
 have key : LeavesInM Fence.wide 0 P fn a.tmps (Fin C res Rout post) a.defers .returning W := by
  rw [he.defers]
  refine marks_ret a.tmps [] W (by simp) (by simp) fun W' h1 h2 h3 h4 h5 h6 h7 => ?_
  have hrun := ret_run (P := P) he hs.sep h5 rvs vs hr
  have hre : (results fn a.tmps).run P W' = .ok (res x) W' := by
   rw [results_rv, hrv, Sem.run_bind, List.mapM_toArray, map_eq_pure_bind, Sem.run_bind, hrun, hv]
   simp only [Result.andThen_ok, Sem.run_pure]
   cases vs with
   | nil => simp [retval]
   | cons v vs => cases vs <;> simp [retval]
  have hfor : Foreign (ownL R) W W' := ⟨h1, h2, h3, Nat.le_of_eq h4.symm, fun b _ _ => h7 b (by simp)⟩
  have hs' : Sat C R Φ W' := hs.step hfor (hs.sep.keep fun b _ => h7 b (by simp)) fun b hb => .inl hb
  obtain ⟨h8, h9⟩ := ht.sep hs'.sep
  refine ⟨res x, hre, x, rfl, hs'.ev, ?_, fun b hb => hs'.ours b ((ht.own b).2 (.inl hb)), fun φ hφ => ?_⟩
  · have : ∀ {rs : List Res}, Sep (fun b => C.X0 b ∨ ownL R' b) W' rs → Sep C.X0 W' rs := by
     intro rs
     induction rs with
     | nil => exact id
     | cons q rs ih => exact fun h => ⟨h.1, fun b hb => ⟨fun hx => (h.2.1 b hb).1 (.inl hx), (h.2.1 b hb).2⟩, ih h.2.2⟩
    exact this h8
  · exact φ.fr _ _ W' W' (hs'.facts φ (hp.mem φ hφ)) (Foreign.refl _ _) fun b hb => .inl (hb.imp id fun h => (ht.own b).2 (.inl h))
 rcases he' with rfl | rfl <;> exact key
theorem Fact.rd_nil (A : Option Addr) (X : Nat → Prop) (W : World) : (Fact.rd A []).p X W := fun j u h => by simp at h
theorem Fact.rd_none {xs : List Value} {X : Nat → Prop} {W : World} (h : (Fact.rd none xs).p X W) : xs = [] := by
 cases xs with
 | nil => rfl
 | cons x xs => obtain ⟨a, h1, _⟩ := h 0 x rfl; cases h1
theorem Jq.nilRow {C : Cx} {n : Nat × List Nat} {Q : Exit → Act → World → Prop} {x : Exit} {env : List (Nat × Value)} {R : List Res} {Φ : List Fact} (e : TypeId) (s : Nat) (k : Jq C n Q x env (.row e s (.slice none 0 0) 0 [] :: R) Φ) : Jq C n Q x env R Φ := fun a W he hs => by
 have hno : ∀ b, ¬ (Res.row e s (.slice none 0 0) 0 []).own b := fun b h => by simp [Res.row, Value.ownBlock] at h
 exact k a W he (hs.step (W' := W) (Foreign.refl _ _) ⟨World.ownsRow_nil _ _ _ _, fun b hb => (hno b hb).elim, hs.sep⟩ fun b hb => hb.elim (fun h => (hno b h).elim) .inl)
theorem Jq.sealR {C : Cx} {n : Nat × List Nat} {Q : Exit → Act → World → Prop} {x : Exit} {env : List (Nat × Value)} {R : List Res} {Φ : List Fact} {e : TypeId} {s m cap : Nat} {A : Option Addr} {xs : List Value} {R' : List Res} (hd : Del (.row e s (.slice A m cap) m xs) R R') (k : Jq C n Q x env R' (.rd A xs :: Φ)) : Jq C n Q x env R Φ := fun a W he hs =>
 k a W he (sat_seal hs hd fun X hX => rd_of_row (hd.sep hs.sep).1 hX)
section more
variable {P : Program} {r : Option Nat} {C : Cx} {n : Nat × List Nat} {ops : Array Oper} {Q : Exit → Act → World → Prop} {rest : List Oper} {env : List (Nat × Value)} {R : List Res} {Φ : List Fact}
  {d : Nat} {T T' : TypeId} {pos : String} {af : Array Edge} {x y z : Operand} {u v : Value} {c : Code}
theorem Jl.bsplit {b : Bool} (h1 : b = true → Jl P r C n ops Q rest ((d, .bool true) :: env) R Φ) (h2 : b = false → Jl P r C n ops Q rest ((d, .bool false) :: env) R Φ) : Jl P r C n ops Q rest ((d, .bool b) :: env) R Φ := by
 cases b
 · exact h2 rfl
 · exact h1 rfl
theorem w64 {a : Int} (h1 : -9223372036854775808 ≤ a) (h2 : a ≤ 9223372036854775807) : IntKind.i64.wrap a = a := by rw [IntKind.wrap_i64]; omega
theorem getm {α : Type} {f : α → Value} {l : List α} {k : Nat} (h : k < l.length) : (l.map f)[k]? = some (f l[k]) := by simp [h]
theorem PR.idx1 {A : Option Addr} {len c : Nat} {e : TypeId} {kd : IntKind} {i : Int} {xs : List Value} (j : Nat) (hx : opv env x = some (.slice A len c)) (hy : opv env y = some (.int kd i)) (hT : tslice P T' = some (e, 1))
 (hm : Mem (.rd A xs) Φ) (hl : xs.length = len) (hi : i = j) (hj : j < len) : PR P C n env R Φ (.indexAddr T' x y) T (.pointer (A.map (·.add j))) := by
 have := PR.idx (P := P) (C := C) (n := n) (env := env) (R := R) (Φ := Φ) (T := T) j hx hy hT hm (by simpa using hl) (by decide) hi hj
 simpa using this
end more
end Go.Proofs.YtakbgccddokbbaaGreatDoor
namespace Go.Proofs.YtakbgccddokbbaaGreatDoor
theorem zT {a b c : List Res} (h : Take a b c := by repeat (first | exact Take.nil | apply Take.cons (by repeat (first | exact Del.here | apply Del.there)))) : Take a b c := h
theorem zL {a : List Res} {b : List Fact} (h : Lends a b := by repeat (first | exact Lends.nil | apply Lends.row | apply Lends.blk)) : Lends a b := h
theorem zD {r : Res} {a b : List Res} (h : Del r a b := by repeat (first | exact Del.here | apply Del.there)) : Del r a b := h
end Go.Proofs.YtakbgccddokbbaaGreatDoor
namespace Go.Proofs.YtakbgccddokbbaaGreatDoor
open Go.RowKit
section
variable {P : Program} {r : Option Nat} {C : Cx} {n : Nat × List Nat} {ops : Array Oper} {Q : Exit → Act → World → Prop} {rest : List Oper} {env : List (Nat × Value)} {R R0 R' : List Res} {Φ : List Fact}
  {d : Nat} {T T' : TypeId} {pos : String} {af : Array Edge} {x y : Operand} {u v : Value} {A : Option Addr} {e : TypeId} {s m cap k : Nat} {xs : List Value}
theorem row_form {W : World} (h : (Res.row e s (.slice A m cap) m xs).says W) (hk : k < xs.length) : ∃ g cur, A = some ⟨g, 0, none⟩ ∧ W.heap[g]? = some (.cells cur e (0, 0)) ∧ cur.toList.take (m * s) = xs ∧ xs.length = m * s ∧ m ≤ cap ∧ cap ≤ maxLen ∧ cur.size = cap * s := by
 obtain ⟨h1, h2⟩ := h
 rcases h2 with ⟨_, h3⟩ | ⟨g, cap', cur, h3, _, h5, h6, h7, h8, h9⟩
 · subst h3; simp at h1; subst h1; simp at hk
 · simp only [Value.slice.injEq, true_and] at h3
   obtain ⟨rfl, rfl⟩ := h3
   exact ⟨g, cur, rfl, h5, h9, h1, h6, h7, h8⟩
theorem row_cell {W : World} {g : Nat} {cur : Array Value} (h1 : W.heap[g]? = some (.cells cur e (0, 0))) (h2 : cur.toList.take (m * s) = xs) {j : Nat} {v : Value} (hj : xs[j]? = some v) : W.cell? ⟨g, j, none⟩ = some v := by
 rw [cell_of_row W g j cur _ _ h1]
 rw [← h2] at hj
 have hlt := (List.getElem?_eq_some_iff.1 hj).1
 rw [List.getElem?_take_of_lt (by simp at hlt; omega)] at hj
 simpa using hj
theorem PR.idxO {len : Nat} {kd : IntKind} {i : Int} (j : Nat) (hx : opv env x = some (.slice A len cap)) (hy : opv env y = some (.int kd i)) (hT : tslice P T' = some (e, s))
 (hD : Del (.row e s (.slice A len cap) len xs) R R0) (hs : 0 < s) (hi : i = j) (hj : j < len) : PR P C n env R Φ (.indexAddr T' x y) T (.pointer (A.map (·.add (j * s)))) := fun a W he hsat d pos af g => by
 subst hi
 obtain ⟨hu, inf, hi, hk⟩ := tslice_spec hT
 obtain ⟨q1, _, _⟩ := hD.sep hsat.sep
 have hlen : xs.length = len * s := q1.1
 obtain ⟨g, cur, rfl, _⟩ := row_form (k := j * s) q1 (by rw [hlen]; exact Nat.mul_lt_mul_of_pos_right hj hs)
 have h1 : (0 : Int) ≤ j ∧ (j : Int) < len := by omega
 have h2 : ¬ len ≤ j := by omega
 simp [execOp, he.eval hx, he.eval hy, Instr.indexAt, asIntOf, run_underlying hu, sizeOf, typeInfo, hi, hk, h1, h2]
theorem PR.loadO (hx : opv env x = some (.pointer (A.map (·.add k)))) (hT : tshape P T' = some (false, m)) {l : Nat} (hD : Del (.row e s (.slice A l cap) l xs) R R0) (hv : xs[k]? = some v) : PR P C n env R Φ (.load T' x) T v := fun a W he hs d pos af g => by
 obtain ⟨q1, _, _⟩ := hD.sep hs.sep
 obtain ⟨g, cur, rfl, h1, h2, _⟩ := row_form q1 (List.getElem?_eq_some_iff.1 hv).1
 have hc := row_cell h1 h2 hv
 simp [execOp, he.eval hx, Instr.loadAt, Instr.sureAddr, loadVar, run_isAgg_ts hT, add_none, hc]
theorem PR.loadOA {vs : List Value} (hx : opv env x = some (.pointer (A.map (·.add k)))) (hT : tshape P T' = some (true, m)) {l : Nat} (hD : Del (.row e s (.slice A l cap) l xs) R R0) (hm : 0 < m) (hv : takeL xs k m = some vs) : PR P C n env R Φ (.load T' x) T (.agg vs.toArray) := fun a W he hs d pos af g => by
 obtain ⟨hvl, hv⟩ := takeL_spec hv
 obtain ⟨q1, _, _⟩ := hD.sep hs.sep
 have h0 := hv 0 _ (List.getElem?_eq_getElem (by omega))
 obtain ⟨g, cur, rfl, h1, h2, _⟩ := row_form q1 (List.getElem?_eq_some_iff.1 h0).1
 have hl : (loadCells ⟨g, k, none⟩ m).run P W = .ok vs.toArray W := by
  have := run_loadCells_list (P := P) W ⟨g, k, none⟩ vs (fun i u hu => by
   rw [add_none]
   exact row_cell h1 h2 (hv i u hu))
  rwa [hvl] at this
 simp [execOp, he.eval hx, Instr.loadAt, Instr.sureAddr, loadVar, run_isAgg_ts hT, run_sizeOf_ts hT, add_none, hl]
theorem PR.loadRA {vs : List Value} (hx : opv env x = some (.pointer (A.map (·.add k)))) (hT : tshape P T' = some (true, m)) (hM : Mem (.rd A xs) Φ) (hm : 0 < m) (hv : takeL xs k m = some vs) : PR P C n env R Φ (.load T' x) T (.agg vs.toArray) := fun a W he hs d pos af g => by
 obtain ⟨hvl, hv⟩ := takeL_spec hv
 have hf := hs.fact hM
 obtain ⟨ad, rfl, _⟩ := hf k _ (hv 0 _ (List.getElem?_eq_getElem (by omega)))
 have hl : (loadCells (ad.add k) m).run P W = .ok vs.toArray W := by
  have := run_loadCells_list (P := P) W (ad.add k) vs (fun i u hu => by
   obtain ⟨ad', h1, _, _, h2⟩ := hf _ u (hv i u hu)
   cases h1
   rw [add_add]
   exact h2)
  rwa [hvl] at this
 simp [execOp, he.eval hx, Instr.loadAt, Instr.sureAddr, loadVar, run_isAgg_ts hT, run_sizeOf_ts hT, hl]
theorem PR.fieldAddrR {f o q : Nat} (hx : opv env x = some (.pointer (A.map (·.add k)))) (hf : tfield P T' f = some (o, q + 1)) (hM : Mem (.rd A xs) Φ) (hk : k < xs.length) : PR P C n env R Φ (.fieldAddr T' x f) T (.pointer (A.map (·.add (k + o)))) := fun a W he hs d pos af g => by
 obtain ⟨fs, fx, i, hu, hfx, hi, hk', ho⟩ := tfield_spec hf
 obtain ⟨ad, rfl, _⟩ := hs.fact hM k _ (List.getElem?_eq_getElem hk)
 simp [execOp, he.eval hx, Instr.fieldAt, run_underlying hu, hfx, Instr.sureAddr, fieldPlace, sizeOf, typeInfo, hi, hk', ho, add_add]
theorem PR.fieldAddrO {f o q l : Nat} (hx : opv env x = some (.pointer (A.map (·.add k)))) (hf : tfield P T' f = some (o, q + 1)) (hD : Del (.row e s (.slice A l cap) l xs) R R0) (hk : k < xs.length) : PR P C n env R Φ (.fieldAddr T' x f) T (.pointer (A.map (·.add (k + o)))) := fun a W he hs d pos af g => by
 obtain ⟨fs, fx, i, hu, hfx, hi, hk', ho⟩ := tfield_spec hf
 obtain ⟨q1, _, _⟩ := hD.sep hs.sep
 obtain ⟨b, cur, rfl, _⟩ := row_form q1 hk
 simp [execOp, he.eval hx, Instr.fieldAt, run_underlying hu, hfx, Instr.sureAddr, fieldPlace, sizeOf, typeInfo, hi, hk', ho, add_add]
theorem put_take {c vs : List Value} {k m N : Nat} (h1 : k + m ≤ N) (h2 : N ≤ c.length) (hl : vs.length = m) : (c.take k ++ vs ++ c.drop (k + m)).take N = (c.take N).take k ++ vs ++ (c.take N).drop (k + vs.length) := by
 subst hl
 have e1 : (c.take k).length = k := by simp; omega
 have e2 : (c.take k ++ vs).length = k + vs.length := by rw [List.length_append, e1]
 rw [List.take_append, e2, List.take_of_length_le (by rw [e2]; exact h1), List.take_take, Nat.min_eq_left (by omega), List.drop_take]
theorem Jl.storeOA {bb : Bool} {vs xs' : List Value} {l : Nat} (hx : opv env x = some (.pointer (A.map (·.add k)))) (hT : tshape P T' = some (bb, m)) (hy : opv env y = some v) (hv : v.cells = vs.toArray) (hl : vs.length = m) (hm : 0 < m) (h1 : ∀ u ∈ vs, u.oneCell' = true)
 (hw : Swap (.row e s (.slice A l cap) l xs) (.row e s (.slice A l cap) l xs') R R') (hc : putL xs k vs = some xs') (j : Jl P r C n ops Q rest env R' Φ) : Jl P r C n ops Q (⟨none, .store T' x y, T, pos, af, none⟩ :: rest) env R Φ :=
 Jl.act (by simp) fun a W he hs => by
  obtain ⟨hj, hcs⟩ := putL_spec hc
  have q1 := hw.old hs.sep
  obtain ⟨g, cur, rfl, g1, g2, g3, g4, g5, g6⟩ := row_form (k := k) q1 (by omega)
  have hsz : cur.size = cap * s := g6
  have hcl : cur.toList.length = cap * s := by simpa using g6
  have hle : l * s ≤ cap * s := Nat.mul_le_mul_right s g4
  obtain ⟨W', hr, h2, h3⟩ := storeAt_blk (P := P) (W := W) (b := g) (cs := cur.toList) (by simpa using g1) hT hv hl h1 (j := k) (by omega)
  refine ⟨W', R', Φ, by simp [execOp, he.eval hx, he.eval hy, hr, add_none], hs.swap hw ⟨h3.os, h3.tape, h3.output, h3.size, fun b hb hn => h3.block b hb fun e => hn ?_⟩ ⟨?_, .inr ⟨g, cap, _, rfl, Nat.zero_le _, h2, g4, g5, ?_, ?_⟩⟩ (fun b hb => .inl hb), j⟩
  · show some g = some b
    rw [show b = g from e]
  · rw [hcs]; simp; omega
  · simp; omega
  · rw [hcs, ← g2]
    exact put_take (by rw [← hl, ← g3]; exact hj) (by omega) hl
theorem Jl.storeO {l : Nat} {xs' : List Value} (hx : opv env x = some (.pointer (A.map (·.add k)))) (hT : tshape P T' = some (false, 1)) (hy : opv env y = some v) (h1 : v.oneCell' = true)
    (hw : Swap (.row e s (.slice A l cap) l xs) (.row e s (.slice A l cap) l xs') R R') (hk : k < xs.length) (hc : xs.set k v = xs') (j : Jl P r C n ops Q rest env R' Φ) : Jl P r C n ops Q (⟨none, .store T' x y, T, pos, af, none⟩ :: rest) env R Φ := by
  have hcc : v.cells = ([v] : List Value).toArray := by cases v <;> first | rfl | (simp [Value.oneCell'] at h1)
  refine Jl.storeOA (vs := [v]) hx hT hy hcc rfl (by omega) (by simpa using h1) hw ?_ j
  subst hc
  clear hw hx
  induction xs generalizing k with
  | nil => simp at hk
  | cons z zs ih =>
    cases k with
    | zero => cases zs <;> rfl
    | succ k => simp only [putL]; rw [ih (by simpa using hk)]; rfl
theorem PR.nilCheck {a : Addr} (hx : opv env x = some (.pointer (some a))) : PR P C n env R Φ (.nilCheck x) T (.pointer (some a)) := fun a' W he _ d pos af g => by
 simp [execOp, he.eval hx]
theorem PR.field1 {f o m : Nat} {vs : List Value} (hx : opv env x = some (.agg vs.toArray)) (hf : tfield P T' f = some (o, m)) (hs : ∃ fs fx, P.underlying T' = some (.struct fs) ∧ fs[f]? = some fx ∧ tshape P fx.type = some (false, m)) (hv : vs[o]? = some v) : PR P C n env R Φ (.field T' x f) T v := fun a W he _ d pos af g => by
 obtain ⟨fs, fx, i, hu, hfx, hi, hk, ho⟩ := tfield_spec hf
 obtain ⟨fs', fx', h1, h2, h3⟩ := hs
 rw [hu] at h1; cases h1
 rw [hfx] at h2; cases h2
 have hp : (part fx.type vs.toArray fx.offset).run P W = .ok v W := by
  simp [part, run_isAgg_ts h3, ho, hv]
 simp [execOp, he.eval hx, Instr.field, run_underlying hu, hfx, asAgg, hp]
end
end Go.Proofs.YtakbgccddokbbaaGreatDoor
namespace Go.Proofs.YtakbgccddokbbaaGreatDoor
open Go.RowKit
theorem least_of {p : Nat → Prop} : ∀ n, p n → ∃ m, p m ∧ ∀ k, p k → m ≤ k := by
  intro n
  induction n using Nat.strongRecOn with
  | _ n ih =>
    intro hn
    by_cases h : ∃ k, k < n ∧ p k
    · obtain ⟨k, hk, hp⟩ := h
      exact ih k hk hp
    · exact ⟨n, hn, fun k hk => Nat.le_of_not_lt fun hlt => h ⟨k, hlt, hk⟩⟩
section
variable {P : Program} {r : Option Nat} {C : Cx} {n : Nat × List Nat} {Q : Exit → Act → World → Prop} {env : List (Nat × Value)} {R : List Res} {Φ : List Fact} {c : Code}
theorem Jq.jmpN {l : Nat} {J : Act → World → Prop} (h : Jq C n Q .normal env R Φ) : Jq C n (Exit.jump l J Q) .normal env R Φ := h
theorem Jq.jmpR {l : Nat} {J : Act → World → Prop} (h : Jq C n Q .ret env R Φ) : Jq C n (Exit.jump l J Q) .ret env R Φ := h
theorem Jc.mid {c' : Code} {σ : Type} (E : σ → List (Nat × Value)) (Rs : σ → List Res) (Φs : σ → List Fact) (first : Jc P r C n (Exit.then (fun a W => ∃ s, Env n (E s) a ∧ Sat C (Rs s) (Φs s) W) Q) c env R Φ)
 (rest : ∀ s, Jc P r C n Q c' (E s) (Rs s) (Φs s)) : Jc P r C n Q (.seq c c') env R Φ := fun a W he hs => by
 refine wpIn_seq (wpIn_mono (first a W he hs) fun e a' W' h => ?_)
 cases e with
 | normal => obtain ⟨s, h1, h2⟩ := h; exact rest s a' W' h1 h2
 | ret => exact h
 | exit id => exact h
 | goto l => exact h
 | panic ch => exact h
 | outgrown => exact h
theorem Jq.mid {σ : Type} {E : σ → List (Nat × Value)} {Rs : σ → List Res} {Φs : σ → List Fact} (s : σ) (he : ESub (E s) env) (hr : Rs s = R) (hf : FSub (Φs s) Φ) : Jq C n (Exit.then (fun a W => ∃ s, Env n (E s) a ∧ Sat C (Rs s) (Φs s) W) Q) .normal env R Φ := fun a W h1 h2 => by
 subst hr
 exact ⟨s, h1.sub he, h2.sub hf⟩
theorem Jq.fact0 (φ' : Fact) {x : Exit} (h : ∀ X W, φ'.p X W) (k : Jq C n Q x env R (φ' :: Φ)) : Jq C n Q x env R Φ := fun a W h1 h2 => k a W h1 (h2.add (h _ _))
theorem Jq.jmpB {σ : Type} {E : σ → List (Nat × Value)} {Rs : σ → List Res} {Φs : σ → List Fact} {μ : σ → Nat} {s : σ} {l : Nat} (s' : σ) (hμ : μ s' < μ s) (he : ESub (E s') env) (hr : Rs s' = R) (hf : FSub (Φs s') Φ) :
 Jq C n (Exit.jump l (fun a W => ∃ s', μ s' < μ s ∧ Env n (E s') a ∧ Sat C (Rs s') (Φs s') W) Q) (.goto l) env R Φ := fun a W h1 h2 => by
 subst hr
 exact ⟨rfl, s', hμ, h1.sub he, h2.sub hf⟩
theorem Jq.jmpA {σ : Type} {E : σ → List (Nat × Value)} {Rs : σ → List Res} {Φs : σ → List Fact} {l : Nat} (s' : σ) (he : ESub (E s') env) (hr : Rs s' = R) (hf : FSub (Φs s') Φ) :
 Jq C n (Exit.jump l (fun a W => ∃ s', Env n (E s') a ∧ Sat C (Rs s') (Φs s') W) Q) (.goto l) env R Φ := fun a W h1 h2 => by
 subst hr
 exact ⟨rfl, s', h1.sub he, h2.sub hf⟩
theorem Jc.at_ {σ : Type} {E : σ → List (Nat × Value)} {Rs : σ → List Res} {Φs : σ → List Fact} (h : ∀ s, Jc P r C n Q c (E s) (Rs s) (Φs s)) (s : σ) (he : ESub (E s) env) (hr : Rs s = R) (hf : FSub (Φs s) Φ) : Jc P r C n Q c env R Φ := by
 subst hr
 exact Jc.less he hf (h s)
theorem Jc.scope {σ : Type} (E : σ → List (Nat × Value)) (Rs : σ → List Res) (Φs : σ → List Fact) (μ : σ → Nat) {l : Nat} {B : Code} (hl : findLabel c l = some (.seq .skip B))
    (pass : ∀ s, Jc P none C n (Exit.jump l (fun a W => ∃ s', μ s' < μ s ∧ Env n (E s') a ∧ Sat C (Rs s') (Φs s') W) Q) B (E s) (Rs s) (Φs s))
    (first : (∀ s, Jc P none C n (Exit.jump l (fun a W => ∃ s', Env n (E s') a ∧ Sat C (Rs s') (Φs s') W) Q) B (E s) (Rs s) (Φs s)) →
      Jc P none C n (Exit.jump l (fun a W => ∃ s', Env n (E s') a ∧ Sat C (Rs s') (Φs s') W) Q) c env R Φ) : Jc P none C n Q (.scope c) env R Φ := fun a W he hs => by
  have hm : ∀ (x : Act × World), ∃ m : Nat, ∀ s, Env n (E s) x.1 → Sat C (Rs s) (Φs s) x.2 → m ≤ μ s ∧ ∃ s', Env n (E s') x.1 ∧ Sat C (Rs s') (Φs s') x.2 ∧ μ s' = m := fun x => by
    by_cases h : ∃ s, Env n (E s) x.1 ∧ Sat C (Rs s) (Φs s) x.2
    · obtain ⟨s, h1, h2⟩ := h
      obtain ⟨m, ⟨s', h3, h4, h5⟩, h6⟩ := least_of (p := fun m => ∃ s, Env n (E s) x.1 ∧ Sat C (Rs s) (Φs s) x.2 ∧ μ s = m) (μ s) ⟨s, h1, h2, rfl⟩
      exact ⟨m, fun t h7 h8 => ⟨h6 _ ⟨t, h7, h8, rfl⟩, s', h3, h4, h5⟩⟩
    · exact ⟨0, fun s h1 h2 => (h ⟨s, h1, h2⟩).elim⟩
  obtain ⟨f, hf⟩ := Classical.axiomOfChoice hm
  refine wpIn_wide.2 (wp_scope_jumps l (fun a W => ∃ s', Env n (E s') a ∧ Sat C (Rs s') (Φs s') W) (fun a W => f (a, W)) hl (wpIn_wide.1 (first (fun s => ?_) a W he hs)) ?_)
  · intro a' W' h1 h2
    refine wpIn_mono (pass s a' W' h1 h2) fun e a2 W2 hq => ?_
    cases e with
    | goto l' => exact ⟨hq.1, let ⟨s', _, h3, h4⟩ := hq.2; ⟨s', h3, h4⟩⟩
    | normal => exact hq
    | exit id => exact hq
    | ret => exact hq
    | panic ch => exact hq
    | outgrown => exact hq
  · rintro a' W' ⟨s, h1, h2⟩
    obtain ⟨_, t, h3, h4, h5⟩ := hf (a', W') s h1 h2
    refine wp_seq (wp_skip ?_)
    refine wpIn_wide.1 (wpIn_mono (pass t a' W' h3 h4) fun e a2 W2 hq => ?_)
    cases e with
    | goto l' =>
      obtain ⟨hl', s', hlt, h6, h7⟩ := hq
      exact ⟨hl', ⟨s', h6, h7⟩, by
        show f (a2, W2) < f (a', W')
        have := (hf (a2, W2) s' h6 h7).1
        omega⟩
    | normal => exact hq
    | exit id => exact hq
    | ret => exact hq
    | panic ch => exact hq
    | outgrown => exact hq
end
end Go.Proofs.YtakbgccddokbbaaGreatDoor
namespace Go.Proofs.YtakbgccddokbbaaGreatDoor
open Go.RowKit
def Still (W W' : World) : Prop := W'.os = W.os ∧ W'.tape = W.tape ∧ W'.output = W.output
def IterX (P : Program) (gf : Nat) (lb : Array Value) (N : Nat) (encs : Nat → Array Value → (Nat → Prop) → World → Prop) (K XI : Nat → Prop) (w0 : World) : Prop :=
  ∀ (l : Nat) (J Jx : Nat → (Nat → Prop) → World → Prop) (W : World), w0.heap.size ≤ W.heap.size → (∀ b, b < w0.heap.size → W.heap[b]? = w0.heap[b]?) → Framed J → Framed Jx → (∀ k X W', J k X W' → Still w0 W') → (∀ k X W', Jx k X W' → Still w0 W') →
    (∀ k X vs W1, k < N → J k X W1 → W.heap.size ≤ W1.heap.size → (∀ b, K b → W1.heap[b]? = w0.heap[b]?) → (∀ b, X b → XI b ∨ (W.heap.size ≤ b ∧ b < W1.heap.size)) → encs k vs X W1 → YieldAt Fence.wide 0 P l vs W1 fun e W' =>
      (e = .returned (.bool true) ∧ J (k + 1) X W' ∧ W1.heap.size ≤ W'.heap.size ∧ (∀ b, K b → W'.heap[b]? = W1.heap[b]?) ∧ (∀ b, X b → W'.heap[b]? = W1.heap[b]?)) ∨ (e = .returned (.bool false) ∧ Jx k X W' ∧ W1.heap.size ≤ W'.heap.size)) →
    J 0 XI W →
    CallsIn Fence.wide 0 P gf (#[.func (.yield l) #[] #[]] ++ lb) W fun e W' => (∃ v, e = .returned v) ∧ ((∃ X, J N X W') ∨ (∃ k X, k < N ∧ Jx k X W'))
theorem wpIn_rangeX {P : Program} {g : Operand} {ps : Array Tmp} {assign body : Code} {Q : Exit → Act → World → Prop} {a : Act} {w : World}
    (D : Nat) (hD : w.heap.size = D) {gf : Nat} {lb : Array Value} (hg : a.eval g = .func (.func gf) #[] lb) (eg : ∀ args w, (callFunc gf args).run P w = .ok (.enter gf args) w)
    {N : Nat} {encs : Nat → Array Value → (Nat → Prop) → World → Prop} {K XI : Nat → Prop} (hit : IterX P gf lb N encs K XI w)
    (hK : ∀ b, K b → b < w.heap.size) (hXI : ∀ b, XI b → b < w.heap.size)
    (hps : ∀ k vs X W, encs k vs X W → vs.size = ps.size)
    (I : Nat → (Nat → Prop) → World → Prop) (Ix : Code → Nat → (Nat → Prop) → World → Prop) (hI : Framed I) (hIx : ∀ c, Framed (Ix c)) (hIs : ∀ k X W, I k X W → Still w W) (hIxs : ∀ c k X W, Ix c k X W → Still w W) (h0 : I 0 XI w)
    (hround : ∀ l k X vs W, k < N → l = D + 1 → I k (ext X D) W → (∀ b, X b → XI b ∨ (D + 2 ≤ b ∧ b < W.heap.size)) → (∀ b, K b → W.heap[b]? = w.heap[b]?) → D + 2 ≤ W.heap.size →
      encs k vs X W →
      assign.wpIn (Fence.wide.inRound l) 0 P (Exit.then (afterAssign P K (ext X D) I Ix l k body W) (fun _ _ _ => False))
        { tmps := (ps.zip vs).foldl (fun t (p, v) => t.setIfInBounds p v) a.tmps, defers := [] } W)
    (hdone : ∀ (X : Nat → Prop) (W : World), (∀ b, X b → XI b ∨ D ≤ b) → X D → I N X W → W.heap[D]? = some (.deferred (some [])) →
      Q .normal { a with defers := { target := .collected D, args := #[] } :: a.defers } W)
    (hstop : ∀ (c : Code) (k : Nat) (X : Nat → Prop) (W : World), k < N → (∀ b, X b → XI b ∨ D ≤ b) → X D → Ix c k X W → W.heap[D]? = some (.deferred (some [])) →
      c.wpIn Fence.wide 0 P Q { a with defers := { target := .collected D, args := #[] } :: a.defers } W) :
    (Code.rangeFunc g ps assign body).wpIn Fence.wide 0 P Q a w := by
  refine wpIn_rangeFunc ?_
  intro fn hfn
  rw [Fence.wide_round]
  replace hD := hD.symm
  obtain ⟨rec, hrec⟩ : ∃ rec : LoopState → Option Code → Loop, rec = fun st pe => { state := st, pending := pe, fn, tmps := a.tmps, params := ps, assign, body, defers := D } := ⟨_, rfl⟩
  obtain ⟨W1, hW1⟩ : ∃ W1, (w.alloc (.deferred (some []))).alloc (.loop (rec .ready none)) = W1 := ⟨_, rfl⟩
  have hz1 : W1.heap.size = D + 2 := by rw [← hW1, hD]; simp
  have hL1 : W1.heap[D + 1]? = some (.loop (rec .ready none)) := by
    rw [← hW1, hD]; have := World.alloc_heap_new (w.alloc (.deferred (some []))) (.loop (rec .ready none)); rwa [World.size_alloc] at this
  have hD1 : W1.heap[D]? = some (.deferred (some [])) := by
    rw [← hW1, hD]; exact (Below.heap_alloc _ _ _ (by simp)).trans (World.alloc_heap_new w _)
  have hold : ∀ b, b < D → W1.heap[b]? = w.heap[b]? := fun b hb => by
    rw [← hW1]; exact (Below.heap_alloc _ _ _ (by simp; omega)).trans (Below.heap_alloc _ _ _ (by omega))
  have hf1 : Foreign (fun _ => False) w W1 := by rw [← hW1]; exact (Foreign.alloc _ w _).trans (Foreign.alloc _ _ _)
  have hI1 : I 0 (ext XI D) W1 := hI 0 _ _ w W1 h0 (⟨hf1.os, hf1.tape, hf1.output, hf1.size, fun b hb _ => hf1.block b hb id⟩) (fun b hb => by
    rcases hb with hb | hb | hb
    · exact .inl hb
    · exact .inr ⟨by omega, by omega⟩
    · exact .inr ⟨by omega, by omega⟩)
  refine ⟨D + 1, [{ target := .collected D, args := #[] }], W1, { target := .fn (.func gf) lb, args := #[.func (.yield (D + 1)) #[] #[]] }, W1, gf,
    #[.func (.yield (D + 1)) #[] #[]] ++ lb, W1, ?_, ?_, ?_, ?_, fun h => by simp [Fence.wide] at h, ?_⟩
  · rw [← hW1, hrec, hD]; exact run_enterLoop_outer _ _ _ _ _
  · simp only [resolve, hg]
    simp [go_sem]
  · intro f' _; trivial
  · simp [invoke, go_sem, eg]
  · have hext : ∀ {X X' : Nat → Prop} {W W' : World}, (∀ b, X' b → X b ∨ (W.heap.size ≤ b ∧ b < W'.heap.size)) → ∀ b, ext X' D b → ext X D b ∨ (W.heap.size ≤ b ∧ b < W'.heap.size) := by
      intro X X' W W' h b hb
      rcases hb with hb | hb | hb
      · rcases h b hb with h | h
        · exact .inl (.inl h)
        · exact .inr h
      · exact .inl (.inr (.inl hb))
      · exact .inl (.inr (.inr hb))
    have hfor : ∀ {X : Nat → Prop} {W W' : World}, Foreign X W W' → Foreign (ext X D) W W' := fun h => ⟨h.os, h.tape, h.output, h.size, fun b hb hx => h.block b hb (fun e => hx (.inl e))⟩
    refine CallsIn.mono (hit (D + 1)
      (fun k X W => I k (ext X D) W ∧ W.heap[D + 1]? = some (.loop (rec .ready none)) ∧ W.heap[D]? = some (.deferred (some [])) ∧ ¬ X D ∧ ¬ X (D + 1))
      (fun k X W => ∃ c, Ix c k (ext X D) W ∧ W.heap[D + 1]? = some (.loop (rec .done (some c))) ∧ W.heap[D]? = some (.deferred (some [])) ∧ ¬ X D ∧ ¬ X (D + 1))
      W1 (by omega) (fun b hb => hold b (by omega)) ?_ ?_ (fun k X W h => hIs k _ W h.1) (fun k X W ⟨c, h, _⟩ => hIxs c k _ W h) ?_ ⟨hI1, hL1, hD1, fun h => by have := hXI _ h; omega, fun h => by have := hXI _ h; omega⟩) ?_
    · -- framed: while the rounds go on
      rintro k X X' W W' ⟨h1, h2, h3, h4, h5⟩ hf hx
      have hl2 := (Array.getElem?_eq_some_iff.1 h2).1
      exact ⟨hI k _ _ W W' h1 (hfor hf) (hext hx), (hf.block _ hl2 h5).trans h2, (hf.block _ (by omega) h4).trans h3,
        fun h => (hx _ h).elim h4 (fun h => by omega), fun h => (hx _ h).elim h5 (fun h => by omega)⟩
    · rintro k X X' W W' ⟨c, h1, h2, h3, h4, h5⟩ hf hx
      have hl2 := (Array.getElem?_eq_some_iff.1 h2).1
      exact ⟨c, hIx c k _ _ W W' h1 (hfor hf) (hext hx), (hf.block _ hl2 h5).trans h2, (hf.block _ (by omega) h4).trans h3,
        fun h => (hx _ h).elim h4 (fun h => by omega), fun h => (hx _ h).elim h5 (fun h => by omega)⟩
    · -- one round
      rintro k X vs W hk ⟨hi, hl, hd, hx1, hx2⟩ hsz hkk hX henc
      have hlt : D + 1 < W.heap.size := (Array.getElem?_eq_some_iff.1 hl).1
      have hy := run_yield (P := P) (args := vs) hl (by rw [hrec]; exact hps k vs X W henc)
      rw [hrec] at hy
      refine ⟨fn, _, assign, body, hy, roundIn_of_wpIn hfn ?_⟩
      refine wpIn_mono (hround (D + 1) k X vs W hk rfl hi (fun b hb => (hX b hb).imp id fun h => by omega) hkk (by omega) henc) ?_
      rintro e a₁ W₁ hp
      cases e with
      | normal =>
        obtain ⟨hs1, hsame1, hb⟩ := hp
        have hl1 : W₁.heap[D + 1]? = some (.loop (rec .ready none)) := (hsame1 _ (.inl (.inr (.inr rfl)))).trans hl
        have hd1 : W₁.heap[D]? = some (.deferred (some [])) := (hsame1 _ (.inl (.inr (.inl rfl)))).trans hd
        refine ⟨_, run_beginRound hl1 (by rw [hrec]), ?_⟩
        obtain ⟨W₂, hW2⟩ : ∃ W₂, W₁.putObj (D + 1) (.loop { rec .ready none with state := .busy }) = W₂ := ⟨_, rfl⟩
        rw [hW2]
        have hl2 : W₂.heap[D + 1]? = some (.loop { rec .ready none with state := .busy }) := by rw [← hW2]; exact World.putObj_heap_same (Array.getElem?_eq_some_iff.1 hl1).1
        have hd2 : W₂.heap[D]? = some (.deferred (some [])) := by rw [← hW2]; exact (World.putObj_heap_other (by omega)).trans hd1
        have hsz2 : W₂.heap.size = W₁.heap.size := by rw [← hW2]; simp
        have hoth : ∀ b, b ≠ D + 1 → W₂.heap[b]? = W₁.heap[b]? := fun b hb => by rw [← hW2]; exact World.putObj_heap_other hb
        refine wpIn_mono (hb W₂ (by rw [← hW2]; exact turned_putObj hl1 rfl rfl) (by rw [← hW2]; exact Foreign.putObj _ (.inr (.inr rfl))) (fun hi1 => by rw [← hW2]; exact hI k _ _ W₁ _ hi1 (Foreign.putObj _ (.inr (.inr rfl))) (fun b hb => .inl hb))) ?_
        have fin : ∀ (jump : Option Code) (W3 : World), (∀ b, ext X D b → W3.heap[b]? = W₂.heap[b]?) → W₂.heap.size ≤ W3.heap.size →
            (Instr.endRound (D + 1) jump).run P W3 = .ok (.bool jump.isNone) (W3.putObj (D + 1) (.loop (rec (if jump.isNone then .ready else .done) jump))) ∧
            (W3.putObj (D + 1) (.loop (rec (if jump.isNone then .ready else .done) jump))).heap[D + 1]? = some (.loop (rec (if jump.isNone then .ready else .done) jump)) ∧
            (W3.putObj (D + 1) (.loop (rec (if jump.isNone then .ready else .done) jump))).heap[D]? = some (.deferred (some [])) := fun jump W3 hk3 hs3 => by
          have hl3 := (hk3 (D + 1) (.inr (.inr rfl))).trans hl2
          have := run_endRound (P := P) jump hl3
          rw [hrec] at this ⊢
          exact ⟨this, World.putObj_heap_same (Array.getElem?_eq_some_iff.1 hl3).1, (World.putObj_heap_other (by omega)).trans ((hk3 D (.inr (.inl rfl))).trans hd2)⟩
        rintro e a3 W3 hp3
        cases e with
        | normal =>
          obtain ⟨hs3, hx3, hk3, hi3⟩ := hp3
          obtain ⟨hr, hl4, hd4⟩ := fin none W3 hx3 hs3
          refine ⟨_, _, hr, .inl ⟨rfl, ⟨hI (k + 1) _ _ W3 _ hi3 (Foreign.putObj _ (.inr (.inr rfl))) (fun b hb => .inl hb), hl4, hd4, hx1, hx2⟩, by simp; omega, fun b hb => ?_, fun b hb => ?_⟩⟩
          · have hbD := hK b hb
            exact (World.putObj_heap_other (by omega)).trans ((hk3 b hb).trans ((hoth b (by omega)).trans (hsame1 b (.inr hb))))
          · have hne : b ≠ D + 1 := fun e => hx2 (e ▸ hb)
            exact (World.putObj_heap_other hne).trans ((hx3 b (.inl hb)).trans ((hoth b hne).trans (hsame1 b (.inl (.inl hb)))))
        | ret =>
          obtain ⟨hs3, hx3, hi3⟩ := hp3
          obtain ⟨hr, hl4, hd4⟩ := fin (some .ret) W3 hx3 hs3
          exact ⟨_, _, hr, .inr ⟨rfl, ⟨.ret, hIx _ k _ _ W3 _ hi3 (Foreign.putObj _ (.inr (.inr rfl))) (fun b hb => .inl hb), hl4, hd4, hx1, hx2⟩, by simp; omega⟩⟩
        | exit id =>
          obtain ⟨hs3, hx3, hi3⟩ := hp3
          obtain ⟨hr, hl4, hd4⟩ := fin (some (.exit id)) W3 hx3 hs3
          exact ⟨_, _, hr, .inr ⟨rfl, ⟨.exit id, hIx _ k _ _ W3 _ hi3 (Foreign.putObj _ (.inr (.inr rfl))) (fun b hb => .inl hb), hl4, hd4, hx1, hx2⟩, by simp; omega⟩⟩
        | goto t =>
          obtain ⟨hs3, hx3, hi3⟩ := hp3
          obtain ⟨hr, hl4, hd4⟩ := fin (some (.goto t)) W3 hx3 hs3
          exact ⟨_, _, hr, .inr ⟨rfl, ⟨.goto t, hIx _ k _ _ W3 _ hi3 (Foreign.putObj _ (.inr (.inr rfl))) (fun b hb => .inl hb), hl4, hd4, hx1, hx2⟩, by simp; omega⟩⟩
        | panic ch => exact hp3.elim
        | outgrown => exact hp3.elim
      | ret => exact hp.elim
      | exit id => exact hp.elim
      | goto t => exact hp.elim
      | panic ch => exact hp.elim
      | outgrown => exact hp.elim
    · -- behind the iterator
      rintro e W2 ⟨⟨v, rfl⟩, (⟨X, hi, hl, hd, hx1, hx2⟩ | ⟨k, X, hk, c, hi, hl, hd, hx1, hx2⟩)⟩
      · have hle : ∀ b, ext X D b ∧ (XI b ∨ D ≤ b) → XI b ∨ D ≤ b := fun b h => h.2
        refine ⟨none, _, by have := run_endLoop (P := P) hl (by rw [hrec]; simp); rw [hrec] at this; exact this, ?_⟩
        have hi' := hI N _ (fun b => ext X D b ∧ (XI b ∨ D ≤ b)) W2 (W2.putObj (D + 1) (.loop { rec .ready none with state := .exhausted })) hi (Foreign.putObj _ (.inr (.inr rfl))) (fun b hb => .inl hb.1)
        rw [hrec] at hi'
        exact hdone (fun b => ext X D b ∧ (XI b ∨ D ≤ b)) _ hle ⟨.inr (.inl rfl), .inr (Nat.le_refl _)⟩ hi' ((World.putObj_heap_other (by omega)).trans hd)
      · have hle : ∀ b, ext X D b ∧ (XI b ∨ D ≤ b) → XI b ∨ D ≤ b := fun b h => h.2
        refine ⟨some c, _, by have := run_endLoop (P := P) hl (by rw [hrec]; simp); rw [hrec] at this; exact this, ?_⟩
        have hi' := hIx c k _ (fun b => ext X D b ∧ (XI b ∨ D ≤ b)) W2 (W2.putObj (D + 1) (.loop { rec .done (some c) with state := .exhausted })) hi (Foreign.putObj _ (.inr (.inr rfl))) (fun b hb => .inl hb.1)
        rw [hrec] at hi'
        exact hstop c k (fun b => ext X D b ∧ (XI b ∨ D ≤ b)) _ hk hle ⟨.inr (.inl rfl), .inr (Nat.le_refl _)⟩ hi' ((World.putObj_heap_other (by omega)).trans hd)
def ItL (P : Program) (gf : Nat) (lb : List Value) (Rit : List Res) (pre lf : List Fact) (N : Nat) (vals : Nat → List Value) : Prop :=
  ∀ (X : Nat → Prop) w0, (∀ b, X b → b < w0.heap.size) → Sep X w0 Rit → (∀ φ ∈ pre, φ.p (fun b => X b ∨ ownL Rit b) w0) → (∀ φ ∈ lf, φ.p (ownL Rit) w0) →
    ∃ K : Nat → Prop, (∀ b, K b → b < w0.heap.size ∧ ¬ X b ∧ ¬ ownL Rit b) ∧ IterX P gf lb.toArray N (fun k vs _ _ => vs = (vals k).toArray) K (ownL Rit) w0
def It (P : Program) (gf : Nat) (lb : List Value) (Rit : List Res) (pre : List Fact) (N : Nat) (vals : Nat → List Value) : Prop := ItL P gf lb Rit pre [] N vals
def psetL : List Tmp → List Value → List (Nat × Value) → List (Nat × Value)
 | p :: ps, v :: vs, env => psetL ps vs ((p, v) :: env)
 | _, _, env => env
theorem Env.pset {m : Nat} : ∀ {ps : List Tmp} {vs : List Value} {env : List (Nat × Value)} {t : Array Value}, Env (m, []) env { tmps := t, defers := [] } → (ps.all fun p => Nat.blt p m) = true →
    Env (m, []) (psetL ps vs env) { tmps := (ps.zip vs).foldl (fun t (x : Tmp × Value) => t.setIfInBounds x.1 x.2) t, defers := [] }
  | [], _, _, _, h, _ => by simpa [psetL] using h
  | p :: ps, [], _, _, h, _ => by simpa [psetL] using h
  | p :: ps, v :: vs, env, t, h, hp => by
    simp only [List.all_cons, Bool.and_eq_true] at hp
    simp only [List.zip_cons_cons, List.foldl_cons]
    have h' : Env (m, []) ((p, v) :: env) { tmps := t.setIfInBounds p v, defers := [] } := h.put (Nat.le_of_ble_eq_true hp.1) v
    have k := Env.pset (ps := ps) (vs := vs) h' hp.2
    exact k
theorem Sat.rebase {C : Cx} {R : List Res} {Φ : List Fact} {W : World} (h : Sat C R Φ W) : Sat ⟨C.X0, ownL R, W⟩ R Φ W := ⟨Foreign.refl _ _, h.sep, fun b hb => .inl hb, h.x0, h.facts⟩
theorem Sat.compose {C : Cx} {R R' : List Res} {Φ Φ' : List Fact} {W W' : World} (h : Sat C R Φ W) (k : Sat ⟨C.X0, ownL R, W⟩ R' Φ' W') : Sat C R' Φ' W' := by
 refine ⟨⟨k.ev.os.trans h.ev.os, k.ev.tape.trans h.ev.tape, k.ev.output.trans h.ev.output, Nat.le_trans h.ev.size k.ev.size, fun b hb hm => ?_⟩, k.sep, fun b hb => ?_, k.x0, k.facts⟩
 · refine (k.ev.block b (Nat.lt_of_lt_of_le hb h.ev.size) fun hb' => ?_).trans (h.ev.block b hb hm)
   rcases h.ours b hb' with h1 | h1
   · exact hm h1
   · omega
 · rcases k.ours b hb with h1 | h1
   · exact h.ours b h1
   · exact .inr (Nat.le_trans h.ev.size h1)
theorem Sat.turn {C : Cx} {R : List Res} {Φ : List Fact} {W W' : World} {X : Nat → Prop} (h : Sat C R Φ W) (hf : Foreign X W W') (hX : ∀ b, X b → C.X0 b ∧ C.W0.heap.size ≤ b) : Sat C R Φ W' := by
 refine ⟨⟨hf.os.trans h.ev.os, hf.tape.trans h.ev.tape, hf.output.trans h.ev.output, Nat.le_trans h.ev.size hf.size, fun b hb hm => ?_⟩, h.sep.keep fun b hb => hf.block b (h.sep.lt b hb) fun hx => h.sep.notX b hb (hX b hx).1, h.ours, fun b hb => Nat.lt_of_lt_of_le (h.x0 b hb) hf.size, fun φ hφ => ?_⟩
 · exact (hf.block b (Nat.lt_of_lt_of_le hb h.ev.size) fun hx => by have := (hX b hx).2; omega).trans (h.ev.block b hb hm)
 · exact φ.fr _ _ W W' (h.facts φ hφ) ⟨hf.os, hf.tape, hf.output, hf.size, fun b hb hx => hf.block b hb fun h1 => hx (.inl (hX b h1).1)⟩ fun b hb => .inl hb
theorem Sep.more' {X X' : Nat → Prop} {W : World} : ∀ {R : List Res}, Sep X W R → (∀ b, ownL R b → X' b → False) → Sep X' W R
 | [], _, _ => trivial
 | q :: R, h, hx => ⟨h.1, fun b hb => ⟨fun h' => hx b (.inl hb) h', (h.2.1 b hb).2⟩, h.2.2.more' fun b hb => hx b (.inr hb)⟩
theorem frame {C : Cx} {X X' : Nat → Prop} {R : List Res} {Φ : List Fact} {W W' : World} (h : Sat ⟨fun b => C.X0 b ∨ X b, C.M0, C.W0⟩ R Φ W) (h2 : ∀ b, X b → C.M0 b ∨ C.W0.heap.size ≤ b) (hf : Foreign X W W')
 (hx : ∀ b, X' b → X b ∨ (W.heap.size ≤ b ∧ b < W'.heap.size)) : Sat ⟨fun b => C.X0 b ∨ X' b, C.M0, C.W0⟩ R Φ W' := by
 have hlt := fun b hb => h.sep.lt b hb
 refine ⟨⟨hf.os.trans h.ev.os, hf.tape.trans h.ev.tape, hf.output.trans h.ev.output, Nat.le_trans h.ev.size hf.size, fun b hb hm => ?_⟩, ?_, h.ours, fun b hb => ?_, fun φ hφ => ?_⟩
 · exact (hf.block b (Nat.lt_of_lt_of_le hb h.ev.size) fun hX => (h2 b hX).elim hm fun h => by have hb' : b < C.W0.heap.size := hb; omega).trans (h.ev.block b hb hm)
 · refine (h.sep.keep fun b hb => hf.block b (hlt b hb) fun hX => h.sep.notX b hb (.inr hX)).more' fun b hb hX => ?_
   rcases hX with hX | hX
   · exact h.sep.notX b hb (.inl hX)
   · rcases hx b hX with h3 | h3
     · exact h.sep.notX b hb (.inr h3)
     · have := hlt b hb; omega
 · rcases hb with hb | hb
   · exact Nat.lt_of_lt_of_le (h.x0 b (.inl hb)) hf.size
   · rcases hx b hb with h3 | h3
     · exact Nat.lt_of_lt_of_le (h.x0 b (.inr h3)) hf.size
     · exact h3.2
 · refine φ.fr _ _ W W' (h.facts φ hφ) ⟨hf.os, hf.tape, hf.output, hf.size, fun b hb hX => hf.block b hb fun h1 => hX (.inl (.inr h1))⟩ fun b hb => ?_
   rcases hb with (hb | hb) | hb
   · exact .inl (.inl (.inl hb))
   · exact (hx b hb).imp (fun h => .inl (.inr h)) id
   · exact .inl (.inr hb)
theorem marked {C : Cx} {X : Nat → Prop} {R : List Res} {Φ : List Fact} {W : World} {D : Nat} (h : Sat ⟨fun b => C.X0 b ∨ X b, C.M0, C.W0⟩ R Φ W) (hXD : X D) (hD : W.heap[D]? = some (.deferred (some []))) (hn : ¬ C.X0 D) (hsz : C.W0.heap.size ≤ D) : Sat C (.mark D :: R) Φ W := by
 refine ⟨h.ev, ⟨hD, fun b hb => ?_, h.sep.less fun b hb => .inl hb⟩, fun b hb => ?_, fun b hb => h.x0 b (.inl hb), fun φ hφ => φ.fr _ _ W W (h.facts φ hφ) (Foreign.refl _ _) fun b hb => .inl ?_⟩
 · have : b = D := hb
   subst this
   exact ⟨hn, fun ho => h.sep.notX b ho (.inr hXD)⟩
 · rcases hb with hb | hb
   · have : b = D := hb
     subst this
     exact .inr hsz
   · exact h.ours b hb
 · rcases hb with hb | hb | hb
   · exact .inl (.inl hb)
   · have : b = D := hb
     subst this
     exact .inl (.inr hXD)
   · exact .inr hb
section
variable {σ τ : Type} (Inv : Nat → σ → Prop) (Rs : σ → List Res) (Φs : σ → List Fact) (InvX : Code → Nat → τ → Prop) (RsX : τ → List Res) (ΦsX : τ → List Fact)
def RQ (C : Cx) (k : Nat) : Exit → Act → World → Prop
 | .normal, _, W => ∃ s, Inv (k + 1) s ∧ Sat C (Rs s) (Φs s) W
 | .ret, _, W => ∃ t, InvX .ret k t ∧ Sat C (RsX t) (ΦsX t) W
 | .exit id, _, W => ∃ t, InvX (.exit id) k t ∧ Sat C (RsX t) (ΦsX t) W
 | .goto l, _, W => ∃ t, InvX (.goto l) k t ∧ Sat C (RsX t) (ΦsX t) W
 | .panic _, _, _ => False
 | .outgrown, _, _ => False
def AQ (P : Program) (l : Nat) (C : Cx) (m k : Nat) (body : Code) : Exit → Act → World → Prop
 | .normal, a, W => ∃ env R Φ, Env (m, []) env a ∧ Sat C R Φ W ∧ ∀ C2 : Cx, Jc P (some l) C2 (m, []) (RQ Inv Rs Φs InvX RsX ΦsX C2 k) body env R Φ
 | _, _, _ => False
variable {Inv Rs Φs InvX RsX ΦsX}
theorem Jq.assigned {P : Program} {l : Nat} {C : Cx} {m k : Nat} {body : Code} {env : List (Nat × Value)} {R : List Res} {Φ : List Fact} (h : ∀ C2 : Cx, Jc P (some l) C2 (m, []) (RQ Inv Rs Φs InvX RsX ΦsX C2 k) body env R Φ) :
 Jq C (m, []) (AQ Inv Rs Φs InvX RsX ΦsX P l C m k body) .normal env R Φ := fun a W he hs => ⟨env, R, Φ, he, hs, h⟩
theorem Jq.next {C : Cx} {n : Nat × List Nat} {k : Nat} {env : List (Nat × Value)} {R : List Res} {Φ : List Fact} (s : σ) (hi : Inv (k + 1) s) (hr : Rs s = R) (hf : FSub (Φs s) Φ) : Jq C n (RQ Inv Rs Φs InvX RsX ΦsX C k) .normal env R Φ := fun a W he hs => by
 subst hr; exact ⟨s, hi, hs.sub hf⟩
theorem Jq.nextR {C : Cx} {n : Nat × List Nat} {k : Nat} {env : List (Nat × Value)} {R : List Res} {Φ : List Fact} (t : τ) (hi : InvX .ret k t) (hr : RsX t = R) (hf : FSub (ΦsX t) Φ) : Jq C n (RQ Inv Rs Φs InvX RsX ΦsX C k) .ret env R Φ := fun a W he hs => by
 subst hr; exact ⟨t, hi, hs.sub hf⟩
theorem Jq.nextG {C : Cx} {n : Nat × List Nat} {k l : Nat} {env : List (Nat × Value)} {R : List Res} {Φ : List Fact} (t : τ) (hi : InvX (.goto l) k t) (hr : RsX t = R) (hf : FSub (ΦsX t) Φ) : Jq C n (RQ Inv Rs Φs InvX RsX ΦsX C k) (.goto l) env R Φ := fun a W he hs => by
 subst hr; exact ⟨t, hi, hs.sub hf⟩
theorem Jc.rangeL {P : Program} {C : Cx} {n : Nat × List Nat} {Q : Exit → Act → World → Prop} {env : List (Nat × Value)} {R R' R'' ls : List Res} {Φ lf : List Fact} {g : Operand} {ps : Array Tmp} {assign body : Code} {gf : Nat} {lb : List Value} {Rit : List Res} {pre : List Fact} {N : Nat} {vals : Nat → List Value}
    (hg : opv env g = some (.func (.func gf) #[] lb.toArray)) (eg : ∀ args w, (callFunc gf args).run P w = .ok (.enter gf args) w) (hit : ItL P gf lb Rit pre lf N vals) (ht : Take Rit R R') (hp : FSub pre Φ) (hl : Take ls R' R'') (hlf : Lends ls lf)
    (hps : ∀ k, (vals k).length = ps.toList.length) (hpn : (ps.toList.all fun p => Nat.blt p n.1) = true) (s0 : σ) (h0 : Inv 0 s0) (hr0 : Rs s0 = R') (hf0 : FSub (Φs s0) Φ)
    (round : ∀ k s, k < N → Inv k s → ∀ (l : Nat) (C1 : Cx), Jc P (some l) C1 (n.1, []) (AQ Inv Rs Φs InvX RsX ΦsX P l C1 n.1 k body) assign (psetL ps.toList (vals k) env) (Rs s) (Φs s))
    (done : ∀ s D, Inv N s → Jq C (n.1, D :: n.2) Q .normal env (.mark D :: Rs s) (Φs s))
    (stop : ∀ c k t D, k < N → InvX c k t → Jc P none C (n.1, D :: n.2) Q c env (.mark D :: RsX t) (ΦsX t)) : Jc P none C n Q (.rangeFunc g ps assign body) env R Φ := fun a W he hs => by
  obtain ⟨q1, q2⟩ := ht.sep hs.sep
  obtain ⟨K, hK, hiter⟩ := hit (fun b => C.X0 b ∨ ownL R' b) W (fun b hb => hb.elim (hs.x0 b) (q2.lt b)) q1 (fun φ hφ => φ.fr _ _ W W (hs.facts φ (hp.mem φ hφ)) (Foreign.refl _ _) fun b hb => .inl (by
    rcases hb with (h | h) | h
    · exact .inl h
    · exact .inr ((ht.own b).2 (.inr h))
    · exact .inr ((ht.own b).2 (.inl h)))) (hlf.mem (hl.sep q2).1 fun b hb hx => q1.notX b hx (.inr ((hl.own b).2 (.inl hb))))
  have hsz := hs.ev.size
  subst hr0
  refine wpIn_rangeX W.heap.size rfl (he.eval hg) eg hiter (fun b hb => (hK b hb).1) (fun b hb => q1.lt b hb) (fun k vs X W' h => by subst h; simpa using hps k)
    (fun k X W => ∃ s, Inv k s ∧ Sat ⟨fun b => C.X0 b ∨ X b, C.M0, C.W0⟩ (Rs s) (Φs s) W ∧ (∀ b, X b → C.M0 b ∨ C.W0.heap.size ≤ b) ∧ ∀ b, ownL (Rs s) b → ¬ K b)
    (fun c k X W => ∃ t, InvX c k t ∧ Sat ⟨fun b => C.X0 b ∨ X b, C.M0, C.W0⟩ (RsX t) (ΦsX t) W ∧ ∀ b, X b → C.M0 b ∨ C.W0.heap.size ≤ b) ?_ ?_ (fun k X W ⟨s, _, h1, _⟩ => ⟨h1.ev.os.trans hs.ev.os.symm, h1.ev.tape.trans hs.ev.tape.symm, h1.ev.output.trans hs.ev.output.symm⟩) (fun c k X W ⟨t, _, h1, _⟩ => ⟨h1.ev.os.trans hs.ev.os.symm, h1.ev.tape.trans hs.ev.tape.symm, h1.ev.output.trans hs.ev.output.symm⟩) ?_ ?_ ?_ ?_
  · rintro k X X' W1 W2 ⟨s, hi, h1, h2, h3⟩ hf hx
    exact ⟨s, hi, frame h1 h2 hf hx, fun b hb => (hx b hb).elim (h2 b) fun h => .inr (Nat.le_trans h1.ev.size h.1), h3⟩
  · rintro c k X X' W1 W2 ⟨t, hi, h1, h2⟩ hf hx
    exact ⟨t, hi, frame h1 h2 hf hx, fun b hb => (hx b hb).elim (h2 b) fun h => .inr (Nat.le_trans h1.ev.size h.1)⟩
  · refine ⟨s0, h0, ⟨hs.ev, q2.more' fun b hb h => h.elim (fun h => q2.notX b hb h) fun h => q1.notX b h (.inr hb), fun b hb => hs.ours b ((ht.own b).2 (.inr hb)), fun b hb => hb.elim (hs.x0 b) (q1.lt b), fun φ hφ => ?_⟩, fun b hb => hs.ours b ((ht.own b).2 (.inl hb)), fun b hb hk => (hK b hk).2.1 (.inr hb)⟩
    exact φ.fr _ _ W W (hs.facts φ (hf0.mem φ hφ)) (Foreign.refl _ _) fun b hb => .inl (by
      rcases hb with (h | h) | h
      · exact .inl h
      · exact .inr ((ht.own b).2 (.inl h))
      · exact .inr ((ht.own b).2 (.inr h)))
  · rintro l k X vs W1 hk rfl ⟨s, hi, h1, h2, h3⟩ hX hKW hsz1 henc
    subst henc
    have henv : Env (n.1, []) (psetL ps.toList (vals k) env) { tmps := (ps.zip (vals k).toArray).foldl (fun t (x : Tmp × Value) => t.setIfInBounds x.1 x.2) a.tmps, defers := [] } := by
      have := Env.pset (m := n.1) (ps := ps.toList) (vs := vals k) (env := env) (t := a.tmps) ⟨rfl, he.size, he.at_⟩ hpn
      rw [← Array.foldl_toList, Array.toList_zip]
      exact this
    have hb1 := h1.rebase
    refine wpIn_mono (round k s hk hi (W.heap.size + 1) _ _ W1 henv hb1) fun e a1 W2 hq => ?_
    cases e with
    | normal =>
      obtain ⟨env1, R1, Φ1, he1, hs1, hbody⟩ := hq
      have hX1 : ∀ b, ext X W.heap.size b → b < W1.heap.size ∧ ¬ ownL (Rs s) b := fun b hb => ⟨h1.x0 b (.inr hb), fun ho => h1.sep.notX b ho (.inr hb)⟩
      have hK1 : ∀ b, K b → b < W1.heap.size ∧ ¬ ownL (Rs s) b := fun b hb => ⟨by have := (hK b hb).1; omega, fun ho => h3 b ho hb⟩
      refine ⟨hs1.ev.size, fun b hb => hb.elim (fun h => hs1.ev.block b (hX1 b h).1 (hX1 b h).2) (fun h => hs1.ev.block b (hK1 b h).1 (hK1 b h).2), fun W3 hT hF _ => ?_⟩
      have hsA := h1.compose hs1
      have hf3 : Foreign (fun b => b = W.heap.size + 1) W2 W3 := ⟨hF.os, hF.tape, hF.output, Nat.le_of_eq hT.size.symm, fun b _ hne => hT.block b hne⟩
      have hsB := hsA.turn hf3 (fun b hb => by subst hb; exact ⟨.inr (.inr (.inr rfl)), by have := h1.ev.size; show C.W0.heap.size ≤ _; omega⟩)
      have hsz3 := hT.size
      have hown1 : ∀ b, ownL R1 b → ownL (Rs s) b ∨ W1.heap.size ≤ b := hs1.ours
      have hX3 : ∀ b, ext X W.heap.size b → b < W3.heap.size ∧ ¬ ownL R1 b := fun b hb => ⟨hsB.x0 b (.inr hb), fun ho => hsB.sep.notX b ho (.inr hb)⟩
      have hK3 : ∀ b, K b → b < W3.heap.size ∧ ¬ ownL R1 b := fun b hb => ⟨by have := (hK b hb).1; have := hs1.ev.size; show b < W3.heap.size; have h9 : W1.heap.size ≤ W2.heap.size := hs1.ev.size; omega, fun ho => (hown1 b ho).elim (fun h => h3 b h hb) fun h => by have := (hK b hb).1; omega⟩
      refine wpIn_mono (hbody ⟨fun b => C.X0 b ∨ ext X W.heap.size b, ownL R1, W3⟩ a1 W3 he1 hsB.rebase) fun e a4 W4 hq4 => ?_
      cases e with
      | normal =>
        obtain ⟨s', hi', hs4⟩ := hq4
        exact ⟨hs4.ev.size, fun b hb => hs4.ev.block b (hX3 b hb).1 (hX3 b hb).2, fun b hb => hs4.ev.block b (hK3 b hb).1 (hK3 b hb).2, s', hi', hsB.compose hs4, h2, fun b hb hk => (hs4.ours b hb).elim (fun h => (hK3 b hk).2 h) fun h => by have h5 : W3.heap.size ≤ b := h; have := (hK3 b hk).1; omega⟩
      | ret =>
        obtain ⟨t, hi', hs4⟩ := hq4
        exact ⟨hs4.ev.size, fun b hb => hs4.ev.block b (hX3 b hb).1 (hX3 b hb).2, t, hi', hsB.compose hs4, h2⟩
      | exit id =>
        obtain ⟨t, hi', hs4⟩ := hq4
        exact ⟨hs4.ev.size, fun b hb => hs4.ev.block b (hX3 b hb).1 (hX3 b hb).2, t, hi', hsB.compose hs4, h2⟩
      | goto l =>
        obtain ⟨t, hi', hs4⟩ := hq4
        exact ⟨hs4.ev.size, fun b hb => hs4.ev.block b (hX3 b hb).1 (hX3 b hb).2, t, hi', hsB.compose hs4, h2⟩
      | panic ch => exact hq4.elim
      | outgrown => exact hq4.elim
    | ret => exact hq.elim
    | exit id => exact hq.elim
    | goto l => exact hq.elim
    | panic ch => exact hq.elim
    | outgrown => exact hq.elim
  · rintro X W1 hXle hXD ⟨s, hi, h1, h2, h3⟩ hD
    exact done s W.heap.size hi _ W1 ⟨by simp [he.defers], he.size, he.at_⟩ (marked h1 hXD hD (fun h => absurd (hs.x0 _ h) (Nat.lt_irrefl _)) hsz)
  · rintro c k X W1 hk hXle hXD ⟨t, hi, h1, h2⟩ hD
    exact stop c k t W.heap.size hk hi _ W1 ⟨by simp [he.defers], he.size, he.at_⟩ (marked h1 hXD hD (fun h => absurd (hs.x0 _ h) (Nat.lt_irrefl _)) hsz)
theorem Jc.range {P : Program} {C : Cx} {n : Nat × List Nat} {Q : Exit → Act → World → Prop} {env : List (Nat × Value)} {R R' : List Res} {Φ : List Fact} {g : Operand} {ps : Array Tmp} {assign body : Code} {gf : Nat} {lb : List Value} {Rit : List Res} {pre : List Fact} {N : Nat} {vals : Nat → List Value}
 (hg : opv env g = some (.func (.func gf) #[] lb.toArray)) (eg : ∀ args w, (callFunc gf args).run P w = .ok (.enter gf args) w) (hit : It P gf lb Rit pre N vals) (ht : Take Rit R R') (hp : FSub pre Φ)
 (hps : ∀ k, (vals k).length = ps.toList.length) (hpn : (ps.toList.all fun p => Nat.blt p n.1) = true) (s0 : σ) (h0 : Inv 0 s0) (hr0 : Rs s0 = R') (hf0 : FSub (Φs s0) Φ)
 (round : ∀ k s, k < N → Inv k s → ∀ (l : Nat) (C1 : Cx), Jc P (some l) C1 (n.1, []) (AQ Inv Rs Φs InvX RsX ΦsX P l C1 n.1 k body) assign (psetL ps.toList (vals k) env) (Rs s) (Φs s))
 (done : ∀ s D, Inv N s → Jq C (n.1, D :: n.2) Q .normal env (.mark D :: Rs s) (Φs s))
 (stop : ∀ c k t D, k < N → InvX c k t → Jc P none C (n.1, D :: n.2) Q c env (.mark D :: RsX t) (ΦsX t)) : Jc P none C n Q (.rangeFunc g ps assign body) env R Φ :=
 Jc.rangeL (ls := []) (lf := []) (R'' := R') hg eg hit ht hp Take.nil Lends.nil hps hpn s0 h0 hr0 hf0 round done stop
end
def marksOf (Ds : List Nat) : List Res := Ds.map Res.mark
theorem sep_marks {X : Nat → Prop} {W : World} : ∀ {Ds : List Nat}, Sep X W (marksOf Ds) → Ds.Nodup ∧ ∀ D ∈ Ds, W.heap[D]? = some (.deferred (some []))
  | [], _ => ⟨List.nodup_nil, fun _ h => by simp at h⟩
  | D :: Ds, h => by
    obtain ⟨h1, h2⟩ := sep_marks h.2.2
    refine ⟨List.nodup_cons.2 ⟨fun hm => (h.2.1 D rfl).2 (ownL_mem.2 ⟨.mark D, List.mem_map.2 ⟨D, hm, rfl⟩, rfl⟩), h1⟩, fun D' hD => ?_⟩
    rcases List.mem_cons.1 hD with rfl | hD
    · exact h.1
    · exact h2 D' hD
theorem Jq.finM {P : Program} {C : Cx} {nt : Nat} {Ds : List Nat} {env : List (Nat × Value)} {R R1 : List Res} {Φ : List Fact} {fn : Func} {α : Type} {res : α → Value} {Rout : α → List Res} {post : α → List Fact} {R' : List Res} {rvs : List ResultVar} {vs : List Value} {e : Exit}
 (x : α) (he' : e = .ret ∨ e = .normal) (hrv : fn.results = rvs.toArray) (hm : Take (marksOf Ds) R R1) (hr : RetVs P env R1 rvs vs) (hv : res x = retval vs) (ht : Take (Rout x) R1 R') (hp : FSub (post x) Φ) :
 Jq C (nt, Ds) (bodyPostM Fence.wide 0 P fn (Fin C res Rout post)) e env R Φ := fun a W he hs => by
 obtain ⟨q1, q2⟩ := hm.sep hs.sep
 obtain ⟨hnd, hmk⟩ := sep_marks q1
 have hs1 : Sat C R1 Φ W := hs.take hm
 have hDs : ∀ b, b ∈ Ds → ownL (marksOf Ds) b := fun b hb => ownL_mem.2 ⟨.mark b, List.mem_map.2 ⟨b, hb, rfl⟩, rfl⟩
 have key : LeavesInM Fence.wide 0 P fn a.tmps (Fin C res Rout post) a.defers .returning W := by
  rw [he.defers]
  refine marks_ret a.tmps Ds W hnd hmk fun W' h1 h2 h3 h4 h5 h6 h7 => ?_
  have hrun := ret_run (P := P) he hs1.sep h5 rvs vs hr
  have hre : (results fn a.tmps).run P W' = .ok (res x) W' := by
   rw [results_rv, hrv, Sem.run_bind, List.mapM_toArray, map_eq_pure_bind, Sem.run_bind, hrun, hv]
   simp only [Result.andThen_ok, Sem.run_pure]
   cases vs with
   | nil => simp [retval]
   | cons v vs => cases vs <;> simp [retval]
  have hs2 := hs.step (W' := W') (R' := R1) ⟨h1, h2, h3, Nat.le_of_eq h4.symm, fun b _ hne => h7 b fun hb => hne ((hm.own b).2 (.inl (hDs b hb)))⟩ (q2.keep fun b hb => h7 b fun hd => q1.notX b (hDs b hd) (.inr hb)) fun b hb => .inl ((hm.own b).2 (.inr hb))
  obtain ⟨h8, h9⟩ := ht.sep hs2.sep
  exact ⟨res x, hre, x, rfl, hs2.ev, h8.less fun b hb => .inl hb, fun b hb => hs2.ours b ((ht.own b).2 (.inl hb)), fun φ hφ => φ.fr _ _ W' W' (hs2.facts φ (hp.mem φ hφ)) (Foreign.refl _ _) fun b hb => .inl (hb.imp id fun h => (ht.own b).2 (.inl h))⟩
 rcases he' with rfl | rfl <;> exact key
end Go.Proofs.YtakbgccddokbbaaGreatDoor
namespace Go.Proofs.YtakbgccddokbbaaGreatDoor
open Go.RowKit
section
variable {P : Program} {r : Option Nat} {C : Cx} {n : Nat × List Nat} {Q : Exit → Act → World → Prop} {env : List (Nat × Value)} {R : List Res} {Φ : List Fact} {c : Code}
theorem Jq.jmpAN {σ : Type} {N : σ → Nat × List Nat} {E : σ → List (Nat × Value)} {Rs : σ → List Res} {Φs : σ → List Fact} {l : Nat} (s' : σ) (hn : N s' = n) (he : ESub (E s') env) (hr : Rs s' = R) (hf : FSub (Φs s') Φ) :
 Jq C n (Exit.jump l (fun a W => ∃ s', Env (N s') (E s') a ∧ Sat C (Rs s') (Φs s') W) Q) (.goto l) env R Φ := fun a W h1 h2 => by
 subst hr hn
 exact ⟨rfl, s', h1.sub he, h2.sub hf⟩
theorem Jc.scopeN {σ : Type} (N : σ → Nat × List Nat) (E : σ → List (Nat × Value)) (Rs : σ → List Res) (Φs : σ → List Fact) (μ : σ → Nat) {l : Nat} {B : Code} (hl : findLabel c l = some (.seq .skip B))
    (pass : ∀ s, Jc P none C (N s) (Exit.jump l (fun a W => ∃ s', μ s' < μ s ∧ Env (N s') (E s') a ∧ Sat C (Rs s') (Φs s') W) Q) B (E s) (Rs s) (Φs s))
    (first : (∀ s, Jc P none C (N s) (Exit.jump l (fun a W => ∃ s', Env (N s') (E s') a ∧ Sat C (Rs s') (Φs s') W) Q) B (E s) (Rs s) (Φs s)) →
      Jc P none C n (Exit.jump l (fun a W => ∃ s', Env (N s') (E s') a ∧ Sat C (Rs s') (Φs s') W) Q) c env R Φ) : Jc P none C n Q (.scope c) env R Φ := fun a W he hs => by
  have hm : ∀ (x : Act × World), ∃ m : Nat, ∀ s, Env (N s) (E s) x.1 → Sat C (Rs s) (Φs s) x.2 → m ≤ μ s ∧ ∃ s', Env (N s') (E s') x.1 ∧ Sat C (Rs s') (Φs s') x.2 ∧ μ s' = m := fun x => by
    by_cases h : ∃ s, Env (N s) (E s) x.1 ∧ Sat C (Rs s) (Φs s) x.2
    · obtain ⟨s, h1, h2⟩ := h
      obtain ⟨m, ⟨s', h3, h4, h5⟩, h6⟩ := least_of (p := fun m => ∃ s, Env (N s) (E s) x.1 ∧ Sat C (Rs s) (Φs s) x.2 ∧ μ s = m) (μ s) ⟨s, h1, h2, rfl⟩
      exact ⟨m, fun t h7 h8 => ⟨h6 _ ⟨t, h7, h8, rfl⟩, s', h3, h4, h5⟩⟩
    · exact ⟨0, fun s h1 h2 => (h ⟨s, h1, h2⟩).elim⟩
  obtain ⟨f, hf⟩ := Classical.axiomOfChoice hm
  refine wpIn_wide.2 (wp_scope_jumps l (fun a W => ∃ s', Env (N s') (E s') a ∧ Sat C (Rs s') (Φs s') W) (fun a W => f (a, W)) hl (wpIn_wide.1 (first (fun s => ?_) a W he hs)) ?_)
  · intro a' W' h1 h2
    refine wpIn_mono (pass s a' W' h1 h2) fun e a2 W2 hq => ?_
    cases e with
    | goto l' => exact ⟨hq.1, let ⟨s', _, h3, h4⟩ := hq.2; ⟨s', h3, h4⟩⟩
    | normal => exact hq
    | exit id => exact hq
    | ret => exact hq
    | panic ch => exact hq
    | outgrown => exact hq
  · rintro a' W' ⟨s, h1, h2⟩
    obtain ⟨_, t, h3, h4, h5⟩ := hf (a', W') s h1 h2
    refine wp_seq (wp_skip ?_)
    refine wpIn_wide.1 (wpIn_mono (pass t a' W' h3 h4) fun e a2 W2 hq => ?_)
    cases e with
    | goto l' =>
      obtain ⟨hl', s', hlt, h6, h7⟩ := hq
      exact ⟨hl', ⟨s', h6, h7⟩, by
        show f (a2, W2) < f (a', W')
        have := (hf (a2, W2) s' h6 h7).1
        omega⟩
    | normal => exact hq
    | exit id => exact hq
    | ret => exact hq
    | panic ch => exact hq
    | outgrown => exact hq
theorem Jq.drop {q : Res} {x : Exit} {R' : List Res} (hd : Del q R R') (k : Jq C n Q x env R' Φ) : Jq C n Q x env R Φ := fun a W he hs => k a W he (hs.take (rs := [q]) ⟨_, hd, rfl⟩)
theorem Sat.takeL {rs R' : List Res} {W : World} (h : Sat C R Φ W) (ht : Take rs R R') : Sat C rs Φ W := by
 obtain ⟨q1, q2⟩ := ht.sep h.sep
 exact ⟨h.ev, q1.less fun b hb => .inl hb, fun b hb => h.ours b ((ht.own b).2 (.inl hb)), h.x0, fun φ hφ => φ.fr _ _ W W (h.facts φ hφ) (Foreign.refl _ _) fun b hb => .inl (hb.imp id fun h => (ht.own b).2 (.inl h))⟩
theorem Jq.lessR {x : Exit} {rs R' : List Res} (ht : Take rs R R') (k : Jq C n Q x env rs Φ) : Jq C n Q x env R Φ := fun a W he hs => k a W he (hs.takeL ht)
theorem Jc.lessR {rs R' : List Res} (ht : Take rs R R') (k : Jc P r C n Q c env rs Φ) : Jc P r C n Q c env R Φ := fun a W he hs => k a W he (hs.takeL ht)
theorem Jl.lessR {ops : Array Oper} {rest : List Oper} {rs R' : List Res} (ht : Take rs R R') (k : Jl P r C n ops Q rest env rs Φ) : Jl P r C n ops Q rest env R Φ := fun a W he hs => k a W he (hs.takeL ht)
theorem Jq.midT {σ : Type} {E : σ → List (Nat × Value)} {Rs : σ → List Res} {Φs : σ → List Fact} {R' : List Res} (s : σ) (he : ESub (E s) env) (ht : Take (Rs s) R R') (hf : FSub (Φs s) Φ) : Jq C n (Exit.then (fun a W => ∃ s, Env n (E s) a ∧ Sat C (Rs s) (Φs s) W) Q) .normal env R Φ :=
 Jq.lessR ht (Jq.mid s he rfl hf)
theorem Jq.againT {K : Exit → Act → World → Prop} {σ : Type} {E : σ → List (Nat × Value)} {Rs : σ → List Res} {Φs : σ → List Fact} {μ : σ → Nat} {s : σ} {R' : List Res} (s' : σ) (hμ : μ s' < μ s) (he : ESub (E s') env) (ht : Take (Rs s') R R') (hf : FSub (Φs s') Φ) :
 Jq C n (Exit.then (fun a W => ∃ s', μ s' < μ s ∧ Env n (E s') a ∧ Sat C (Rs s') (Φs s') W) K) .normal env R Φ := Jq.lessR ht (Jq.again s' hμ he rfl hf)
end
end Go.Proofs.YtakbgccddokbbaaGreatDoor
namespace Go.Proofs.YtakbgccddokbbaaGreatDoor.Dr
open Go.RowKit
def hpost (df : List Deferred) (d : Tmp) (post : Value → World → Prop) : Exit → Act → World → Prop
 | .normal, a, w => post (a.tmps.getD d undef) w ∧ a.defers = df
 | _, _, _ => False
def needs (o : Oper) : List Nat := o.after.toList.filterMap fun e => if Region.binds .any e then some e.on else none
abbrev Ph := Value ⊕ ((Value → Prop) × (Value → World → Prop))
def phi : Ph → Value → World → Prop
 | .inl x, u, _ => u = x
 | .inr φ, u, W => φ.1 u ∧ φ.2 u W
def phNd (Φs : List Ph) (vs : List Value) (W : World) : List Nat → Prop
 | [] => True
 | j :: js => (match Φs[j]? with | some (.inr φ) => (φ.1 (vs.getD j undef) ∧ φ.2 (vs.getD j undef) W) ∧ phNd Φs vs W js | _ => phNd Φs vs W js)
def detP (x : Value) (W : World) (u : Value) (W' : World) : Prop := u = x ∧ Below W.heap.size W W'
def ndP (φ : Value → World → Prop) (al : List Nat) (i : Nat) (W : World) (u : Value) (W' : World) : Prop :=
 φ u W' ∧ Below W.heap.size W W' ∧ (i ∈ al → u = .pointer (some ⟨W.heap.size, 0, none⟩) ∧ W.heap.size < W'.heap.size)
section
variable (P : Program) (ops : Array Oper) (Q : Exit → Act → World → Prop) (tail : List Oper) (w : World) (al : List Nat) (all : List Ph)
def RG : List Oper → List Ph → Nat → List Value → Act → Prop
  | [], _, i, vs, a => ∀ W, Below w.heap.size w W → phNd all vs W (List.range i) →
      (∀ i j, i ∈ al → j ∈ al → i ≠ j → vs.getD i undef ≠ vs.getD j undef) → wpList P ops Q tail a W
  | o :: rest, .inl x :: Φs, i, vs, a => (∀ W, Below w.heap.size w W → phNd all vs W (needs o) →
      wpList P ops (hpost a.defers (o.dst.getD 0) (detP x W)) [o] a W) ∧ RG rest Φs (i + 1) (vs ++ [x]) (a.put o.dst x)
  | o :: rest, .inr φ :: Φs, i, vs, a => (∀ W, Below w.heap.size w W → phNd all vs W (needs o) →
      wpList P ops (hpost a.defers (o.dst.getD 0) (ndP (fun u W' => φ.1 u ∧ φ.2 u W') al i W)) [o] a W) ∧
      ∀ u, φ.1 u → RG rest Φs (i + 1) (vs ++ [u]) (a.put o.dst u)
  | _ :: _, [], _, _, _ => False
end
def dstAt (ops : Array Oper) (i : Nat) : Option Tmp := (ops[i]?).bind (·.dst)
def headDone (N n : Nat) : Array Bool := Array.ofFn (n := N) fun i => decide (i.val < n)
def isFloat (o : Oper) : Bool := o.guard.isNone && match o.op with | .extract .. => true | _ => false
def regOk (ops : Array Oper) (n : Nat) (size : Nat) : Bool :=
  Region.noSelect ops && decide (n ≤ ops.size) && Region.seqB .any ops (ops.size - n) n (headDone ops.size n) &&
  (List.range n).all (fun i => match ops[i]? with
    | none => false
    | some o => (match o.dst with | none => false | some d => decide (d < size) && (List.range n).all fun j => j == i || dstAt ops j != some d) &&
        (needs o).all (· < i) &&
        (o.looksAt ops).all (fun t => (List.range n).all fun j => dstAt ops j != some t || (needs o).contains j) &&
        (if isFloat o then (List.range ops.size).all fun j => j == i || (needs o).contains j || match ops[j]? with | some o' => (needs o').contains i || o.apart ops o' | none => true
         else n == ops.size || (List.range' (i + 1) (n - i)).any fun m => match ops[m]? with | some o' => (needs o').contains i && (m == n || !isFloat o') | none => false)) &&
  (List.range' (n + 1) (ops.size - (n + 1))).all (fun k => match ops[k]? with | none => true | some o => (needs o).contains (k - 1))
def tx (ops : Array Oper) (v : Nat → Value) : Nat → Act → Act
 | 0, a => a
 | i + 1, a => (tx ops v i a).put (dstAt ops i) (v i)
section
variable {P : Program} {ops : Array Oper} {Q : Exit → Act → World → Prop} {tail : List Oper} {w : World} {al : List Nat} {all : List Ph} {a : Act}
theorem put_size (a : Act) (d : Option Tmp) (v : Value) : (a.put d v).tmps.size = a.tmps.size := by cases d <;> simp [Act.put]
theorem put_defers' (a : Act) (d : Option Tmp) (v : Value) : (a.put d v).defers = a.defers := by cases d <;> rfl
theorem put_at (a : Act) (d : Tmp) (v : Value) (hd : d < a.tmps.size) : (a.put (some d) v).tmps[d]? = some v := by simp [Act.put, hd]
theorem put_ne (a : Act) (d : Option Tmp) (v : Value) (t : Nat) (h : d ≠ some t) : (a.put d v).tmps[t]? = a.tmps[t]? := by
 cases d with
 | none => rfl
 | some d => simp [Act.put, Array.getElem?_setIfInBounds_ne (show d ≠ t from fun e => h (by rw [e]))]
theorem tx_size (v : Nat → Value) : ∀ i, (tx ops v i a).tmps.size = a.tmps.size
 | 0 => rfl
 | i + 1 => by simp only [tx, put_size]; exact tx_size v i
theorem tx_defers (v : Nat → Value) : ∀ i, (tx ops v i a).defers = a.defers
 | 0 => rfl
 | i + 1 => by simp only [tx, put_defers']; exact tx_defers v i
theorem tx_none (v : Nat → Value) (t : Nat) : ∀ i, (∀ j, j < i → dstAt ops j ≠ some t) → (tx ops v i a).tmps[t]? = a.tmps[t]?
  | 0, _ => rfl
  | i + 1, h => by
    simp only [tx]
    rw [put_ne _ _ _ _ (h i (by omega))]
    exact tx_none v t i fun j hj => h j (by omega)
theorem tx_some (v : Nat → Value) (t j : Nat) (ht : t < a.tmps.size) (hj : dstAt ops j = some t) : ∀ i, j < i → (∀ k, k < i → k ≠ j → dstAt ops k ≠ some t) → (tx ops v i a).tmps[t]? = some (v j)
  | 0, h, _ => by omega
  | i + 1, h, hu => by
    simp only [tx]
    by_cases e : i = j
    · subst e; rw [hj]; exact put_at _ _ _ (by rw [tx_size]; exact ht)
    · rw [put_ne _ _ _ _ (hu i (by omega) e)]
      exact tx_some v t j ht hj i (by omega) fun k hk => hu k (by omega)
theorem phNd_of {vs : List Value} {W : World} : ∀ js : List Nat, (∀ j ∈ js, ∀ φ, all[j]? = some (.inr φ) → φ.1 (vs.getD j undef) ∧ φ.2 (vs.getD j undef) W) → phNd all vs W js
  | [], _ => trivial
  | j :: js, h => by
    have ih := phNd_of js fun k hk => h k (by simp [hk])
    unfold phNd
    split
    · rename_i φ hφ; exact ⟨h j (by simp) φ hφ, ih⟩
    · exact ih
def stepAt (P : Program) (ops : Array Oper) (w : World) (al : List Nat) (all : List Ph) (a : Act) (v : Nat → Value) (k : Nat) : Prop :=
  ∃ o ph, ops[k]? = some o ∧ all[k]? = some ph ∧ ∀ W, Below w.heap.size w W → phNd all ((List.range k).map v) W (needs o) →
    wpList P ops (hpost (tx ops v k a).defers (o.dst.getD 0) fun u W' => phi ph u W' ∧ Below W.heap.size W W' ∧ (ph.isRight = true → k ∈ al → u = .pointer (some ⟨W.heap.size, 0, none⟩) ∧ W.heap.size < W'.heap.size)) [o] (tx ops v k a) W
def finAt (P : Program) (ops : Array Oper) (Q : Exit → Act → World → Prop) (tail : List Oper) (w : World) (al : List Nat) (all : List Ph) (a : Act) (v : Nat → Value) (n : Nat) : Prop :=
  ∀ W, Below w.heap.size w W → phNd all ((List.range n).map v) W (List.range n) →
    (∀ i j, i ∈ al → j ∈ al → i ≠ j → ((List.range n).map v).getD i undef ≠ ((List.range n).map v).getD j undef) → wpList P ops Q tail (tx ops v n a) W
theorem one_iff {o : Oper} {Q' : Exit → Act → World → Prop} {a : Act} {W : World} : wpList P ops Q' [o] a W ↔
 (if Region.wanted o (yielded ops a.tmps) then o.wp P a W (fun a W => Q' .normal a W) Q' ∨ (o.asks P a W ∧ LetsOut Q') else Q' .normal (a.put o.dst undef) W) := by
 unfold wpList
 split <;> rfl
theorem one_mono {o : Oper} {df : List Deferred} {d : Tmp} {p q : Value → World → Prop} {a : Act} {W : World} (h : ∀ u W, p u W → q u W) (hp : wpList P ops (hpost df d p) [o] a W) : wpList P ops (hpost df d q) [o] a W := by
  rw [one_iff] at hp ⊢
  split
  · rename_i hw
    rw [if_pos hw] at hp
    rcases hp with hp | ⟨_, _, _, hp⟩
    · left
      unfold Oper.wp at hp ⊢
      generalize (execOp a.eval o).run P W = r at *
      cases r with
      | ok n w' =>
        cases n <;> simp only [Oper.upon] at hp ⊢ <;>
          first
            | exact ⟨h _ _ hp.1, hp.2⟩
            | exact Calls.mono hp (fun e w'' he => by
                cases e with
                | returned v => exact ⟨h _ _ he.1, he.2⟩
                | panicked c => exact he
                | outgrown => obtain ⟨_, _, he⟩ := he; exact (show False from he).elim)
            | exact Rows.mono hp (fun _ _ he => ⟨h _ _ he.1, he.2⟩)
      | halt x w' => cases x <;> simp only [Oper.upon] at hp ⊢ <;> exact hp
    · exact (show False from hp).elim
  · rename_i hw
    rw [if_neg hw] at hp
    exact ⟨h _ _ hp.1, hp.2⟩
theorem rg_flat (v : Nat → Value) (hv : ∀ j x, all[j]? = some (.inl x) → v j = x) (hv2 : ∀ (j : Nat) (φ : (Value → Prop) × (Value → World → Prop)), all[j]? = some (.inr φ) → φ.1 (v j)) : ∀ (l : List Oper) (Φs : List Ph) (i : Nat), (∀ j, j < l.length → l[j]? = ops[i + j]?) → (∀ j, Φs[j]? = all[i + j]?) →
    RG P ops Q tail w al all l Φs i ((List.range i).map v) (tx ops v i a) →
    (∀ k, i ≤ k → k < i + l.length → stepAt P ops w al all a v k) ∧ finAt P ops Q tail w al all a v (i + l.length)
  | [], Φs, i, hl, hΦ, h => ⟨fun k h1 h2 => by simp at h2; omega, by simpa [RG, finAt] using h⟩
  | o :: l, [], i, hl, hΦ, h => h.elim
  | o :: l, .inl x :: Φs, i, hl, hΦ, h => by
    have ho : ops[i]? = some o := by simpa using (hl 0 (by simp)).symm
    have hp : all[i]? = some (.inl x) := by simpa using (hΦ 0).symm
    have hvx := hv i x hp
    have hr := h.2
    rw [show (List.range i).map v ++ [x] = (List.range (i + 1)).map v by rw [List.range_succ, List.map_append]; simp [hvx],
      show (tx ops v i a).put o.dst x = tx ops v (i + 1) a by simp [tx, dstAt, ho, hvx]] at hr
    obtain ⟨h1, h2⟩ := rg_flat v hv hv2 l Φs (i + 1) (fun j hj => by have := hl (j + 1) (by simp; omega); simpa [Nat.add_assoc, Nat.add_comm 1 j] using this)
      (fun j => by have := hΦ (j + 1); simpa [Nat.add_assoc, Nat.add_comm 1 j] using this) hr
    refine ⟨fun k hk1 hk2 => ?_, by simpa [Nat.add_assoc, Nat.add_comm 1] using h2⟩
    by_cases e : k = i
    · subst e
      exact ⟨o, .inl x, ho, hp, fun W hb hn => one_mono (fun u W' hu => ⟨hu.1, hu.2, fun he => by simp at he⟩) (h.1 W hb hn)⟩
    · exact h1 k (by omega) (by simp at hk2; omega)
  | o :: l, .inr φ :: Φs, i, hl, hΦ, h => by
    have ho : ops[i]? = some o := by simpa using (hl 0 (by simp)).symm
    have hp : all[i]? = some (.inr φ) := by simpa using (hΦ 0).symm
    have hr := h.2 (v i) (hv2 i φ hp)
    rw [show (List.range i).map v ++ [v i] = (List.range (i + 1)).map v by rw [List.range_succ, List.map_append]; simp,
      show (tx ops v i a).put o.dst (v i) = tx ops v (i + 1) a by simp [tx, dstAt, ho]] at hr
    obtain ⟨h1, h2⟩ := rg_flat v hv hv2 l Φs (i + 1) (fun j hj => by have := hl (j + 1) (by simp; omega); simpa [Nat.add_assoc, Nat.add_comm 1 j] using this)
      (fun j => by have := hΦ (j + 1); simpa [Nat.add_assoc, Nat.add_comm 1 j] using this) hr
    refine ⟨fun k hk1 hk2 => ?_, by simpa [Nat.add_assoc, Nat.add_comm 1] using h2⟩
    by_cases e : k = i
    · subst e
      exact ⟨o, .inr φ, ho, hp, fun W hb hn => one_mono (fun u W' hu => ⟨hu.1, hu.2.1, fun _ => hu.2.2⟩) (h.1 W hb hn)⟩
    · exact h1 k (by omega) (by simp at hk2; omega)
theorem head_transfer {o : Oper} {d : Tmp} {post : Value → World → Prop} {a a' : Act} {W : World} {i : Nat} (ho : ops[i]? = some o) (hs : ∀ cs b, o.op ≠ .select cs b) (hd : o.dst = some d)
    (hda : d < a.tmps.size) (hdf : a'.defers = a.defers) (hops : ∀ x ∈ o.op.operands, a'.eval x = a.eval x)
    (hw : Region.wanted o (yielded ops a'.tmps) = Region.wanted o (yielded ops a.tmps)) (h : wpList P ops (hpost a.defers d post) [o] a W) {K : Act → World → Prop}
    (hK : ∀ u W', post u W' → K (a'.put (some d) u) W') : wpOp P ops Q i K a' W := by
  rw [one_iff] at h
  unfold wpOp
  simp only [ho]
  rw [hw]
  have hget : ∀ u, (a.put o.dst u).tmps.getD d undef = u := fun u => by
    rw [hd, Array.getD_eq_getD_getElem?, put_at _ _ _ hda]; rfl
  rw [← hd] at hK
  split
  · rename_i hwant
    rw [if_pos hwant] at h
    rcases h with h | ⟨_, _, _, h⟩
    case inr => exact (show False from h).elim
    left
    unfold Oper.wp at h ⊢
    rw [execOp_congr o hs hops]
    generalize (execOp a.eval o).run P W = r at *
    cases r with
    | ok n w' =>
      cases n <;> simp only [Oper.upon] at h ⊢
      case value u => have h1 := h.1; rw [hget] at h1; exact hK u _ h1
      case skip => have h1 := h.1; rw [hget] at h1; exact hK _ _ h1
      case defer df =>
        have h2 := h.2
        rw [put_defers'] at h2
        exact absurd h2 (by simp)
      case enter f args =>
        exact Calls.mono h (fun e w'' he => by
          cases e with
          | returned u => have h1 := he.1; rw [hget] at h1; exact hK u _ h1
          | panicked c => exact (show False from he).elim
          | outgrown => obtain ⟨_, _, he⟩ := he; exact (show False from he).elim)
      case row row args => exact Rows.mono h (fun u _ he => by have h1 := he.1; rw [hget] at h1; exact hK u _ h1)
    | halt x w' => cases x <;> simp only [Oper.upon] at h ⊢ <;> exact (show False from h).elim
  · rename_i hwant
    rw [if_neg hwant] at h
    have h1 := h.1
    rw [hget] at h1
    exact hK _ _ h1
structure RegOk (ops : Array Oper) (n size : Nat) : Prop where
 sel : Region.noSelect ops = true
 le : n ≤ ops.size
 seq : Region.seqB .any ops (ops.size - n) n (headDone ops.size n) = true
 head : ∀ i, i < n → ∃ o d, ops[i]? = some o ∧ o.dst = some d ∧ d < size ∧ (∀ j, j < n → j ≠ i → dstAt ops j ≠ some d) ∧ (∀ j ∈ needs o, j < i) ∧
  (∀ t ∈ o.looksAt ops, ∀ j, j < n → dstAt ops j = some t → j ∈ needs o) ∧ (if isFloat o then ∀ j o', ops[j]? = some o' → j ≠ i → j ∉ needs o → i ∉ needs o' → o.apart ops o' = true
   else n = ops.size ∨ ∃ m o', i < m ∧ m ≤ n ∧ ops[m]? = some o' ∧ i ∈ needs o' ∧ (m = n ∨ isFloat o' = false))
 tail : ∀ k o, n < k → ops[k]? = some o → k - 1 ∈ needs o
theorem regOk_spec {n size : Nat} (h : regOk ops n size = true) : RegOk ops n size := by
  simp only [regOk, Bool.and_eq_true, decide_eq_true_eq] at h
  obtain ⟨⟨⟨⟨h1, h2⟩, h3⟩, h4⟩, h5⟩ := h
  refine ⟨h1, h2, h3, fun i hi => ?_, fun k o hk ho => ?_⟩
  · have hh := List.all_eq_true.1 h4 i (List.mem_range.2 hi)
    cases ho : ops[i]? with
    | none => rw [ho] at hh; simp at hh
    | some o =>
      rw [ho] at hh
      simp only [Bool.and_eq_true] at hh
      obtain ⟨⟨⟨ha, hb⟩, hc⟩, hd⟩ := hh
      cases hdst : o.dst with
      | none => rw [hdst] at ha; simp at ha
      | some d =>
        rw [hdst] at ha
        simp only [Bool.and_eq_true, decide_eq_true_eq, List.all_eq_true, List.mem_range, Bool.or_eq_true, beq_iff_eq, bne_iff_ne] at ha
        refine ⟨o, d, rfl, hdst, ha.1, fun j hj hne => (ha.2 j hj).resolve_left hne, fun j hj => by simpa using List.all_eq_true.1 hb j hj, fun t ht j hj he => ?_, ?_⟩
        · have := List.all_eq_true.1 (List.all_eq_true.1 hc t ht) j (List.mem_range.2 hj)
          simpa [he] using this
        · by_cases hfl : isFloat o = true
          · rw [if_pos hfl] at hd ⊢
            intro j o' ho' hne hjn hin
            have hjs := (Array.getElem?_eq_some_iff.1 ho').1
            have := List.all_eq_true.1 hd j (List.mem_range.2 hjs)
            rw [ho'] at this
            simp only [Bool.or_eq_true, beq_iff_eq, List.contains_iff_mem] at this
            rcases this with (h | h) | h | h
            · exact absurd h hne
            · exact absurd h hjn
            · exact absurd h hin
            · exact h
          · rw [if_neg hfl] at hd ⊢
            simp only [Bool.or_eq_true, beq_iff_eq] at hd
            rcases hd with hd | hd
            · exact .inl hd
            · right
              obtain ⟨m, hm, hm'⟩ := List.any_eq_true.1 hd
              rw [List.mem_range'_1] at hm
              cases ho' : ops[m]? with
              | none => rw [ho'] at hm'; simp at hm'
              | some o' =>
                rw [ho'] at hm'
                simp only [Bool.and_eq_true, Bool.or_eq_true, beq_iff_eq, Bool.not_eq_true', List.contains_iff_mem] at hm'
                exact ⟨m, o', by omega, by omega, ho', hm'.1, hm'.2⟩
  · have hk' := (Array.getElem?_eq_some_iff.1 ho).1
    have := List.all_eq_true.1 h5 k (by rw [List.mem_range'_1]; omega)
    rw [ho] at this
    simpa using this
theorem mem_needs {o : Oper} {j : Nat} : j ∈ needs o ↔ ∃ e ∈ o.after, Region.binds .any e = true ∧ e.on = j := by
 unfold needs
 simp only [List.mem_filterMap, Array.mem_toList_iff]
 constructor
 · rintro ⟨e, he, h⟩
   split at h
   · rename_i hb; exact ⟨e, he, hb, by simpa using h⟩
   · cases h
 · rintro ⟨e, he, hb, rfl⟩
   exact ⟨e, he, by simp [hb]⟩
theorem ready_iff {listed : Array Bool} {j : Nat} : j ∈ Region.ready .any ops listed ↔ listed.getD j true = false ∧ ∃ o, ops[j]? = some o ∧ ∀ k ∈ needs o, listed.getD k false = true := by
 rw [mem_ready]
 refine and_congr_right fun _ => ⟨fun ⟨o, ho, h⟩ => ⟨o, ho, fun k hk => ?_⟩, fun ⟨o, ho, h⟩ => ⟨o, ho, fun e he hb => h e.on (mem_needs.2 ⟨e, he, hb, rfl⟩)⟩⟩
 obtain ⟨e, he, hb, rfl⟩ := mem_needs.1 hk
 exact h e he hb
structure HeadAt (ops : Array Oper) (n : Nat) (w : World) (al : List Nat) (all : List Ph) (a : Act) (rem : List Nat) (listed : Array Bool) (a' : Act) (W : World) (v : Nat → Value) : Prop where
 size : listed.size = ops.size
 rems : ∀ j, j < n → (listed.getD j false = false ↔ j ∈ rem)
 nodup : rem.Nodup
 lt : ∀ j ∈ rem, j < n
 tails : ∀ k, n ≤ k → listed.getD k false = false
 closed : ∀ j o, j < n → listed.getD j false = true → ops[j]? = some o → ∀ e ∈ needs o, listed.getD e false = true
 defers : a'.defers = a.defers
 tmps : a'.tmps.size = a.tmps.size
 put : ∀ t j, j < n → dstAt ops j = some t → listed.getD j false = true → a'.tmps[t]? = some (v j)
 old : ∀ t, (∀ j, j < n → dstAt ops j = some t → listed.getD j false = false) → a'.tmps[t]? = a.tmps[t]?
 below : Below w.heap.size w W
 says : ∀ j ph, j < n → listed.getD j false = true → all[j]? = some ph → phi ph (v j) W
 vals : ∀ j x, all[j]? = some (.inl x) → v j = x
 rng : ∀ (j : Nat) (φ : (Value → Prop) × (Value → World → Prop)), all[j]? = some (.inr φ) → φ.1 (v j)
 allocs : ∀ j, j ∈ al → j < n → listed.getD j false = true → ∃ b, v j = .pointer (some ⟨b, 0, none⟩) ∧ b < W.heap.size
 apart : ∀ i j, i ∈ al → j ∈ al → i ≠ j → i < n → j < n → listed.getD i false = true → listed.getD j false = true → v i ≠ v j
theorem getD_ft {listed : Array Bool} {j : Nat} (h : listed.getD j true = false) : listed.getD j false = false := by
 rw [Array.getD_eq_getD_getElem?] at h ⊢
 cases hj : listed[j]? with
 | none => rw [hj] at h; cases h
 | some b => rw [hj] at h; exact h
theorem getD_tf {listed : Array Bool} {j : Nat} (hj : j < listed.size) (h : listed.getD j false = false) : listed.getD j true = false := by
 rw [Array.getD_eq_getD_getElem?] at h ⊢
 rw [Array.getElem?_eq_getElem hj] at h ⊢
 exact h
theorem getD_setT {listed : Array Bool} {i : Nat} (hi : i < listed.size) : (listed.setIfInBounds i true).getD i false = true := by
 rw [Array.getD_eq_getD_getElem?, Array.getElem?_setIfInBounds_self_of_lt hi]; rfl
theorem getD_setN {listed : Array Bool} {i j : Nat} (d : Bool) (h : i ≠ j) : (listed.setIfInBounds i true).getD j d = listed.getD j d := getD_set_ne d h
theorem range_map_getD (v : Nat → Value) (k j : Nat) (h : j < k) : ((List.range k).map v).getD j undef = v j := by
 rw [List.getD_eq_getElem?_getD, List.getElem?_map, List.getElem?_range h]; rfl
theorem tx_agrees {n : Nat} (hr : RegOk ops n a.tmps.size) {rem : List Nat} {listed : Array Bool} {a' : Act} {W : World} {v : Nat → Value} (inv : HeadAt ops n w al all a rem listed a' W v)
    {i : Nat} {o : Oper} (hi : i < n) (ho : ops[i]? = some o) (hl : ∀ k ∈ needs o, listed.getD k false = true) : ∀ t ∈ o.looksAt ops, a'.tmps[t]? = (tx ops v i a).tmps[t]? := by
  intro t ht
  obtain ⟨o', d, ho', hd, _, hu, hlt, hlook, _⟩ := hr.head i hi
  rw [ho] at ho'; cases ho'
  by_cases hex : ∃ j, j < n ∧ dstAt ops j = some t
  · obtain ⟨j, hj, hjt⟩ := hex
    have hjn := hlook t ht j hj hjt
    have hji := hlt j hjn
    obtain ⟨oj, dj, hoj, hdj, hdl, huj, _⟩ := hr.head j hj
    have e : dj = t := by have : dstAt ops j = some dj := by simp [dstAt, hoj, hdj]
                          rw [hjt] at this; exact (Option.some.inj this).symm
    subst e
    rw [inv.put dj j hj hjt (hl j hjn)]
    exact (tx_some v dj j hdl hjt i hji (fun k hk hne => huj k (by omega) hne)).symm
  · have hno : ∀ j, j < n → dstAt ops j ≠ some t := fun j hj e => hex ⟨j, hj, e⟩
    rw [inv.old t (fun j hj e => absurd e (hno j hj))]
    exact (tx_none v t i fun j hj => hno j (by omega)).symm
theorem exists_least : ∀ l : List Nat, l ≠ [] → ∃ j ∈ l, ∀ k ∈ l, j ≤ k
  | [], h => absurd rfl h
  | [x], _ => ⟨x, by simp, fun k hk => by simp at hk; omega⟩
  | x :: y :: l, _ => by
    obtain ⟨j, hj, hm⟩ := exists_least (y :: l) (by simp)
    by_cases h : x ≤ j
    · exact ⟨x, by simp, fun k hk => by
        rcases List.mem_cons.1 hk with rfl | hk
        · exact Nat.le_refl _
        · have := hm k hk; omega⟩
    · exact ⟨j, List.mem_cons_of_mem _ hj, fun k hk => by
        rcases List.mem_cons.1 hk with rfl | hk
        · omega
        · exact hm k hk⟩
theorem exists_most : ∀ l : List Nat, l ≠ [] → ∃ j ∈ l, ∀ k ∈ l, k ≤ j
  | [], h => absurd rfl h
  | [x], _ => ⟨x, by simp, fun k hk => by simp at hk; omega⟩
  | x :: y :: l, _ => by
    obtain ⟨j, hj, hm⟩ := exists_most (y :: l) (by simp)
    by_cases h : j ≤ x
    · exact ⟨x, by simp, fun k hk => by
        rcases List.mem_cons.1 hk with rfl | hk
        · exact Nat.le_refl _
        · have := hm k hk; omega⟩
    · exact ⟨j, List.mem_cons_of_mem _ hj, fun k hk => by
        rcases List.mem_cons.1 hk with rfl | hk
        · omega
        · exact hm k hk⟩
theorem act_ext {a b : Act} (h1 : a.tmps = b.tmps) (h2 : a.defers = b.defers) : a = b := by
 cases a; cases b; cases h1; cases h2; rfl
theorem wanted_slots {a b : Act} {o : Oper} (h : ∀ t ∈ o.looksAt ops, a.tmps[t]? = b.tmps[t]?) : Region.wanted o (yielded ops a.tmps) = Region.wanted o (yielded ops b.tmps) := by
  unfold Region.wanted
  cases hg : o.guard with
  | none => rfl
  | some gw =>
    obtain ⟨g, want⟩ := gw
    have hy : yielded ops a.tmps g = yielded ops b.tmps g := by
      unfold yielded
      cases ht : (ops[g]?).bind (·.dst) with
      | none => rfl
      | some t =>
        have := h t (by simp [Oper.looksAt, hg, ht])
        simp only [Option.bind_some, this]
    simp only [hy]
theorem eval_slots {a b : Act} {o : Oper} (h : ∀ t ∈ o.looksAt ops, a.tmps[t]? = b.tmps[t]?) : ∀ x ∈ o.op.operands, a.eval x = b.eval x := by
  intro x hx
  cases x with
  | tmp t =>
    have := h t (List.mem_append_left _ (List.mem_filterMap.2 ⟨.tmp t, by simpa using hx, rfl⟩))
    simp only [Act.eval, Array.getD_eq_getD_getElem?, this]
  | _ => rfl
theorem HeadAt.step {n : Nat} (hr : RegOk ops n a.tmps.size)
 (hmono : ∀ (j : Nat) (φ : (Value → Prop) × (Value → World → Prop)), all[j]? = some (.inr φ) → ∀ u W W', φ.2 u W → Below W.heap.size W W' → φ.2 u W')
 (hal : ∀ j ∈ al, ∃ φ : (Value → Prop) × (Value → World → Prop), all[j]? = some (.inr φ))
 {rem : List Nat} {listed : Array Bool} {a' : Act} {W : World} {v : Nat → Value} (inv : HeadAt ops n w al all a rem listed a' W v)
 {i : Nat} {o : Oper} {d : Tmp} {ph : Ph} (hin : i < n) (ho : ops[i]? = some o) (hd : o.dst = some d) (hun' : listed.getD i false = false) (hl : ∀ k ∈ needs o, listed.getD k false = true)
 (hph : all[i]? = some ph) {u : Value} {W' : World} (hu1 : phi ph u W') (hu2 : Below W.heap.size W W')
 (hu3 : ph.isRight = true → i ∈ al → u = .pointer (some ⟨W.heap.size, 0, none⟩) ∧ W.heap.size < W'.heap.size) :
 ∃ v', HeadAt ops n w al all a (rem.erase i) (listed.setIfInBounds i true) (a'.put (some d) u) W' v' := by
 have his : i < ops.size := (Array.getElem?_eq_some_iff.1 ho).1
 have hisl : i < listed.size := by rw [inv.size]; exact his
 obtain ⟨o', d', ho', hd', hds, hu, hlt, hlook, _⟩ := hr.head i hin
 rw [ho] at ho'; cases ho'
 rw [hd] at hd'; cases hd'
 have hir : i ∈ rem := (inv.rems i hin).1 hun'
 obtain ⟨v', hv'⟩ : ∃ v' : Nat → Value, v' = fun j => if j = i then u else v j := ⟨_, rfl⟩
 have hvi : v' i = u := by rw [hv']; simp
 have hvj : ∀ j, j ≠ i → v' j = v j := fun j hj => by rw [hv']; simp [hj]
 refine ⟨v', ?_⟩
 have hset : ∀ j, j ≠ i → (listed.setIfInBounds i true).getD j false = listed.getD j false := fun j hj => getD_setN false (Ne.symm hj)
 have hseti : (listed.setIfInBounds i true).getD i false = true := getD_setT hisl
 have hdi : dstAt ops i = some d := by simp [dstAt, ho, hd]
 refine ⟨by simp [inv.size], ?_, inv.nodup.erase _, fun j hj => inv.lt j (List.mem_of_mem_erase hj), ?_, ?_, ?_, ?_, ?_, ?_, inv.below.trans (hu2.mono inv.below.size), ?_, ?_, ?_, ?_, ?_⟩
 · intro j hj
   by_cases e : j = i
   · subst e
     rw [hseti]
     simp [inv.nodup.mem_erase_iff]
   · rw [hset j e, inv.rems j hj, inv.nodup.mem_erase_iff]
     simp [e]
 · intro k hk
   rw [hset k (by omega)]
   exact inv.tails k hk
 · intro j oj hj hlj hoj e he
   by_cases ej : j = i
   · subst ej
     rw [ho] at hoj; cases hoj
     have := hlt e he
     rw [hset e (by omega)]
     exact hl e he
   · rw [hset j ej] at hlj
     by_cases ee : e = i
     · subst ee; exact hseti
     · rw [hset e ee]; exact inv.closed j oj hj hlj hoj e he
 · rw [put_defers']; exact inv.defers
 · rw [put_size]; exact inv.tmps
 · intro t j hj hjt hlj
   by_cases e : j = i
   · subst e
     rw [hdi] at hjt; cases hjt
     rw [hvi]
     exact put_at _ _ _ (by rw [inv.tmps]; exact hds)
   · rw [hset j e] at hlj
     rw [hvj j e, put_ne _ _ _ _ (fun he => hu j hj e (by rw [hjt, ← he]))]
     exact inv.put t j hj hjt hlj
 · intro t ht
   have hdt : (some d : Option Tmp) ≠ some t := fun he => by
    have := ht i hin (by rw [hdi, he])
    rw [hseti] at this; cases this
   rw [put_ne _ _ _ _ hdt]
   refine inv.old t fun j hj hjt => ?_
   have := ht j hj hjt
   by_cases e : j = i
   · subst e; exact hun'
   · rwa [hset j e] at this
 · intro j phj hj hlj hphj
   by_cases e : j = i
   · subst e
     rw [hph] at hphj; cases hphj
     rw [hvi]; exact hu1
   · rw [hset j e] at hlj
     rw [hvj j e]
     have := inv.says j phj hj hlj hphj
     cases phj with
     | inl x => exact this
     | inr φ => exact ⟨this.1, hmono j φ hphj _ _ _ this.2 hu2⟩
 · intro j x hx
   by_cases e : j = i
   · subst e
     rw [hph] at hx; cases hx
     rw [hvi]; exact hu1
   · rw [hvj j e]; exact inv.vals j x hx
 · intro j φ hφ
   by_cases e : j = i
   · subst e
     rw [hph] at hφ; cases hφ
     rw [hvi]; exact hu1.1
   · rw [hvj j e]; exact inv.rng j φ hφ
 · intro j hj hjn hlj
   by_cases e : j = i
   · subst e
     obtain ⟨φ, hφ⟩ := hal j hj
     rw [hph] at hφ; cases hφ
     obtain ⟨h1, h2⟩ := hu3 rfl hj
     exact ⟨W.heap.size, by rw [hvi]; exact h1, h2⟩
   · rw [hset j e] at hlj
     obtain ⟨b, h1, h2⟩ := inv.allocs j hj hjn hlj
     exact ⟨b, by rw [hvj j e]; exact h1, Nat.lt_of_lt_of_le h2 hu2.size⟩
 · have key : ∀ j, j ∈ al → i ∈ al → j ≠ i → j < n → listed.getD j false = true → v j ≠ u := fun j hj hi' hne hjn hlj e => by
    obtain ⟨φ, hφ⟩ := hal i hi'
    rw [hph] at hφ; cases hφ
    obtain ⟨h1, h2⟩ := hu3 rfl hi'
    obtain ⟨b, h3, h4⟩ := inv.allocs j hj hjn hlj
    rw [e, h1] at h3
    injection h3 with h3
    injection h3 with h3
    injection h3 with h3
    omega
   intro x y hx hy hxy hxn hyn hlx hly
   by_cases ex : x = i
   · by_cases ey : y = i
     · exact absurd (ex.trans ey.symm) hxy
     · rw [hset y ey] at hly
       rw [hvj y ey, ex, hvi]
       exact fun e => key y hy (ex ▸ hx) ey hyn hly e.symm
   · rw [hset x ex] at hlx
     by_cases ey : y = i
     · rw [hvj x ex, ey, hvi]
       exact key x hx (ey ▸ hy) ex hxn hlx
     · rw [hset y ey] at hly
       rw [hvj x ex, hvj y ey]
       exact inv.apart x y hx hy hxy hxn hyn hlx hly
theorem float_yields {o : Oper} {d : Tmp} {df : List Deferred} {post : Value → World → Prop} {a : Act} {W : World} (hf : isFloat o = true) (h : wpList P ops (hpost df d post) [o] a W) :
    o.guard = none ∧ ∃ y, (∀ w', (execOp a.eval o).run P w' = .ok (.value y) w') ∧ hpost df d post .normal (a.put o.dst y) W := by
  obtain ⟨dst, op, type, pos, after, guard⟩ := o
  simp only [isFloat, Bool.and_eq_true, Option.isNone_iff_eq_none] at hf
  obtain ⟨hg, hop⟩ := hf
  subst hg
  refine ⟨rfl, ?_⟩
  rw [one_iff, if_pos (by rfl)] at h
  rcases h with h | ⟨_, _, _, h⟩
  case inr => exact (show False from h).elim
  cases op <;> simp at hop
  rename_i x ix
  unfold Oper.wp at h
  cases hx : a.eval x with
  | tuple vs =>
    cases hk : vs[ix]? with
    | some y =>
      have hrun : ∀ w', (execOp a.eval ⟨dst, .extract x ix, type, pos, after, none⟩).run P w' = .ok (.value y) w' := fun w' => by
        simp only [execOp, hx]; simp [Instr.extract, hk]
      rw [hrun] at h
      exact ⟨y, hrun, h⟩
    | none =>
      have hrun : (execOp a.eval ⟨dst, .extract x ix, type, pos, after, none⟩).run P W = .halt (.stuck "Extract: no such component") W := by
        simp only [execOp, hx]; simp [Instr.extract, hk]
      rw [hrun] at h
      exact (show False from h).elim
  | _ =>
    have hrun : (execOp a.eval ⟨dst, .extract x ix, type, pos, after, none⟩).run P W = .halt (.stuck "Extract: tuple expected") W := by
      simp only [execOp, hx]; simp [Instr.extract]
    rw [hrun] at h
    exact (show False from h).elim
theorem head_sound {n : Nat} (hr : RegOk ops n a.tmps.size) (hlen : all.length = n)
    (hmono : ∀ (j : Nat) (φ : (Value → Prop) × (Value → World → Prop)), all[j]? = some (.inr φ) → ∀ u W W', φ.2 u W → Below W.heap.size W W' → φ.2 u W')
    (hal : ∀ j ∈ al, ∃ φ : (Value → Prop) × (Value → World → Prop), all[j]? = some (.inr φ))
    (hQ : (∃ i o, i < n ∧ ops[i]? = some o ∧ isFloat o = true) → ∀ c a d v w, Q (.panic c) (a.put d v) w → Q (.panic c) a w)
    (H : ∀ v : Nat → Value, (∀ j x, all[j]? = some (.inl x) → v j = x) → (∀ (j : Nat) (φ : (Value → Prop) × (Value → World → Prop)), all[j]? = some (.inr φ) → φ.1 (v j)) → (∀ k, k < n → stepAt P ops w al all a v k) ∧ finAt P ops Q (ops.toList.drop n) w al all a v n) :
    ∀ (m : Nat) (rem : List Nat) (listed : Array Bool) (a' : Act) (W : World) (v : Nat → Value), rem.length = m → HeadAt ops n w al all a rem listed a' W v →
      wpAny P .any ops Q ((ops.size - n) + m) listed a' W := by
  intro m
  induction m with
  | zero =>
    intro rem listed a' W v hrem inv
    have hnil : rem = [] := List.eq_nil_of_length_eq_zero hrem
    subst hnil
    have hall : ∀ j, j < n → listed.getD j false = true := fun j hj => by
      have := (inv.rems j hj)
      cases h : listed.getD j false
      · exact absurd (this.1 h) (by simp)
      · rfl
    have hL : listed = headDone ops.size n := by
      apply Array.ext (by rw [inv.size]; simp [headDone])
      intro j h1 h2
      have hj : listed.getD j false = listed[j] := by rw [Array.getD_eq_getD_getElem?, Array.getElem?_eq_getElem h1]; rfl
      rw [← hj]
      simp only [headDone, Array.getElem_ofFn]
      by_cases hjn : j < n
      · rw [hall j hjn]; simp [hjn]
      · rw [inv.tails j (by omega)]; simp [hjn]
    have ha : a' = tx ops v n a := by
      have hs : a'.tmps = (tx ops v n a).tmps := by
        apply Array.ext (by rw [inv.tmps, tx_size])
        intro t h1 h2
        have key : a'.tmps[t]? = (tx ops v n a).tmps[t]? := by
          by_cases hex : ∃ j, j < n ∧ dstAt ops j = some t
          · obtain ⟨j, hj, hjt⟩ := hex
            obtain ⟨oj, dj, hoj, hdj, hdl, huj, _⟩ := hr.head j hj
            have e : dj = t := by have : dstAt ops j = some dj := by simp [dstAt, hoj, hdj]
                                  rw [hjt] at this; exact (Option.some.inj this).symm
            subst e
            rw [inv.put dj j hj hjt (hall j hj)]
            exact (tx_some v dj j hdl hjt n hj (fun k hk hne => huj k hk hne)).symm
          · have hno : ∀ j, j < n → dstAt ops j ≠ some t := fun j hj e => hex ⟨j, hj, e⟩
            rw [inv.old t (fun j hj e => absurd e (hno j hj))]
            exact (tx_none v t n hno).symm
        rw [Array.getElem?_eq_getElem h1, Array.getElem?_eq_getElem h2] at key
        exact Option.some.inj key
      exact act_ext hs (by rw [inv.defers, tx_defers])
    have hin : ∀ j ∈ al, j < n := fun j hj => by
      obtain ⟨φ, hφ⟩ := hal j hj
      have := (List.getElem?_eq_some_iff.1 hφ).1
      omega
    have hf := (H v inv.vals inv.rng).2 W inv.below (phNd_of _ fun j hj φ hφ => by
      have hj' := List.mem_range.1 hj
      rw [range_map_getD v n j hj']
      exact inv.says j _ hj' (hall j hj') hφ) (fun i j hi hj hne => by
      rw [range_map_getD v n i (hin i hi), range_map_getD v n j (hin j hj)]
      exact inv.apart i j hi hj hne (hin i hi) (hin j hj) (hall i (hin i hi)) (hall j (hin j hj)))
    have hd : (ops.toList.drop n).length = ops.size - n := by simp
    have := wpAny_of_seq (md := .any) (ops := ops) (P := P) (Q' := Q) (ops.toList.drop n) n listed a' W (fun j => by simp [List.getElem?_drop]) (by rw [hd, hL]; exact hr.seq) (by rw [ha]; exact hf)
    rw [hd] at this
    exact this
  | succ m ih =>
    intro rem listed a' W v hrem inv
    have hne : rem ≠ [] := fun e => by rw [e] at hrem; simp at hrem
    by_cases hflo : ∃ i o, i < n ∧ ops[i]? = some o ∧ isFloat o = true ∧ i ∈ Region.ready .any ops listed
    · -- an operation that floats is taken first
      obtain ⟨i, o, hin, ho, hfl, hi⟩ := hflo
      obtain ⟨hun, o', ho', hl⟩ := ready_iff.1 hi
      rw [ho] at ho'; cases ho'
      have hun' := getD_ft hun
      obtain ⟨o', d, ho', hd, hds, hu, hlt, hlook, hfree⟩ := hr.head i hin
      rw [ho] at ho'; cases ho'
      rw [if_pos hfl] at hfree
      obtain ⟨o', ph, ho', hph, hst⟩ := (H v inv.vals inv.rng).1 i hin
      rw [ho] at ho'; cases ho'
      have hag := tx_agrees hr inv hin ho hl
      have hstep := hst W inv.below (phNd_of _ fun j hj φ hφ => by
        have hj' := hlt j hj
        rw [range_map_getD v i j hj']
        exact inv.says j _ (by omega) (hl j hj) hφ)
      obtain ⟨hg, y, hrun, hpo⟩ := float_yields hfl hstep
      have hrun' : ∀ w', (execOp a'.eval o).run P w' = .ok (.value y) w' := fun w' => by
        rw [execOp_congr o (Region.noSelect_spec hr.sel i o · · ho) (eval_slots hag)]; exact hrun w'
      obtain ⟨⟨hu1, hu2, hu3⟩, _⟩ := hpo
      rw [hd] at hu1 hu3
      simp only [Option.getD_some, Array.getD_eq_getD_getElem?, put_at _ _ _ (show d < (tx ops v i a).tmps.size by rw [tx_size]; exact hds)] at hu1 hu3
      have hir : i ∈ rem := (inv.rems i hin).1 hun'
      obtain ⟨v', inv'⟩ := inv.step hr hmono hal hin ho hd hun' hl hph hu1 hu2 hu3
      refine wpAny_first (md := .any) (v := y) ho (Region.noSelect_spec hr.sel) (fun c a w h => hQ ⟨i, o, hin, ho, hfl⟩ c a o.dst y w h) ((ops.size - n) + m) listed a' W ?_ hi (.inl ⟨by simp [Region.wanted, hg], hrun'⟩) ?_
      · intro j oj hoj hji hunj hnot
        refine hfree j oj hoj hji (fun h => ?_) (fun h => ?_)
        · have := hl j h; rw [getD_ft hunj] at this; cases this
        · obtain ⟨e, he, hb, hon⟩ := mem_needs.1 h
          exact hnot e he hb hon
      · rw [hd]
        exact ih (rem.erase i) _ _ W v' (by rw [List.length_erase_of_mem hir, hrem]; rfl) inv'
    refine ⟨fun hnil => ?_, fun i hi => ?_⟩
    · exfalso
      obtain ⟨j, hj, hmin⟩ := exists_least rem hne
      have hjn := inv.lt j hj
      obtain ⟨o, d, ho, hd, _, _, hlt, _⟩ := hr.head j hjn
      have hjs : j < listed.size := by rw [inv.size]; exact (Array.getElem?_eq_some_iff.1 ho).1
      have : j ∈ Region.ready .any ops listed := ready_iff.2 ⟨getD_tf hjs ((inv.rems j hjn).2 hj), o, ho, fun k hk => by
        have hkj := hlt k hk
        cases h : listed.getD k false
        · exact absurd (hmin k ((inv.rems k (by omega)).1 h)) (by omega)
        · rfl⟩
      rw [hnil] at this
      cases this
    · obtain ⟨hun, o, ho, hl⟩ := ready_iff.1 hi
      have hun' := getD_ft hun
      have his : i < ops.size := (Array.getElem?_eq_some_iff.1 ho).1
      have hisl : i < listed.size := by rw [inv.size]; exact his
      by_cases hin : i < n
      · -- a head operation
        obtain ⟨o', d, ho', hd, hds, hu, hlt, hlook, _⟩ := hr.head i hin
        rw [ho] at ho'; cases ho'
        obtain ⟨o', ph, ho', hph, hst⟩ := (H v inv.vals inv.rng).1 i hin
        rw [ho] at ho'; cases ho'
        have hag := tx_agrees hr inv hin ho hl
        have hstep := hst W inv.below (phNd_of _ fun j hj φ hφ => by
          have hj' := hlt j hj
          rw [range_map_getD v i j hj']
          exact inv.says j _ (by omega) (hl j hj) hφ)
        rw [hd] at hstep
        simp only [Option.getD_some] at hstep
        refine head_transfer ho (Region.noSelect_spec hr.sel i o · · ho) hd (by rw [tx_size]; exact hds) (by rw [inv.defers, tx_defers]) (eval_slots hag) (wanted_slots hag) hstep ?_
        rintro u W' ⟨hu1, hu2, hu3⟩
        have hir : i ∈ rem := (inv.rems i hin).1 hun'
        obtain ⟨v', inv'⟩ := inv.step hr hmono hal hin ho hd hun' hl hph hu1 hu2 hu3
        exact ih (rem.erase i) _ _ W' v' (by rw [List.length_erase_of_mem hir, hrem]; rfl) inv'
      · -- a tail operation does not stand next
        exfalso
        obtain ⟨fl, hfl⟩ : ∃ fl : Nat → Bool, fl = fun j => match ops[j]? with | some o => isFloat o | none => false := ⟨_, rfl⟩
        have hrd : ∀ j, j ∈ rem → (∀ k, k < j → k ∈ rem → False) → j ∈ Region.ready .any ops listed := fun j hj hmin => by
          have hjn := inv.lt j hj
          obtain ⟨o, d, ho, hd, _, _, hlt, _⟩ := hr.head j hjn
          have hjs : j < listed.size := by rw [inv.size]; exact (Array.getElem?_eq_some_iff.1 ho).1
          exact ready_iff.2 ⟨getD_tf hjs ((inv.rems j hjn).2 hj), o, ho, fun k hk => by
            have hkj := hlt k hk
            cases h : listed.getD k false
            · exact absurd ((inv.rems k (by omega)).1 h) (hmin k hkj)
            · rfl⟩
        have hsolid : rem.filter (fun j => !fl j) ≠ [] := fun hnil => by
          obtain ⟨j, hj, hmin⟩ := exists_least rem hne
          have hjn := inv.lt j hj
          obtain ⟨o, d, ho, _⟩ := hr.head j hjn
          have hjf : fl j = true := by
            have := List.filter_eq_nil_iff.1 hnil j hj
            simpa using this
          rw [hfl] at hjf
          simp only [ho] at hjf
          exact hflo ⟨j, o, hjn, ho, hjf, hrd j hj fun k hk hkr => by have := hmin k hkr; omega⟩
        obtain ⟨j, hj', hmax⟩ := exists_most _ hsolid
        obtain ⟨hj, hjf⟩ := List.mem_filter.1 hj'
        have hjn := inv.lt j hj
        have hjl := (inv.rems j hjn).2 hj
        obtain ⟨oj, dj, hoj, _, _, _, _, _, hsucc⟩ := hr.head j hjn
        have hjf' : isFloat oj = false := by rw [hfl] at hjf; simpa [hoj] using hjf
        rw [if_neg (by simp [hjf'])] at hsucc
        rcases hsucc with h | ⟨k, o', h1, h2, h3, h4, h5⟩
        · omega
        · by_cases hkn : k < n
          · have hkl : listed.getD k false = false := by
              cases h : listed.getD k false
              · rfl
              · have := inv.closed k o' hkn h h3 j h4
                rw [hjl] at this; cases this
            have hkf : fl k = false := by
              rw [hfl]; simp only [h3]
              rcases h5 with h5 | h5
              · omega
              · exact h5
            have := hmax k (List.mem_filter.2 ⟨(inv.rems k hkn).1 hkl, by simp [hkf]⟩)
            omega
          · have hk : k = n := by omega
            by_cases hi' : i = n
            · rw [hi', ← hk] at ho
              rw [ho] at h3; cases h3
              have := hl j h4
              rw [hjl] at this; cases this
            · have := hr.tail i o (by omega) ho
              have h5 := hl _ this
              rw [inv.tails (i - 1) (by omega)] at h5
              cases h5
end
theorem wp_region_rg {P : Program} {id : Nat} {l : List Oper} {Q : Exit → Act → World → Prop} {a : Act} {w : World} (n : Nat) (al : List Nat) (Φs : List Ph)
    (hm : P.follows .mixedOrders = true) (hok : regOk l.toArray n a.tmps.size = true) (hlen : Φs.length = n)
    (hal : al.all (fun j => match Φs[j]? with | some (.inr _) => true | _ => false) = true)
    (hmono : ∀ (j : Nat) (φ : (Value → Prop) × (Value → World → Prop)), Φs[j]? = some (.inr φ) → ∀ u W W', φ.2 u W → Below W.heap.size W W' → φ.2 u W')
    (hne : ∀ (j : Nat) (φ : (Value → Prop) × (Value → World → Prop)), Φs[j]? = some (.inr φ) → ∃ u, φ.1 u)
    (h : RG P l.toArray Q (l.drop n) w.drew al Φs (l.take n) Φs 0 [] a)
    (hQ : ((l.take n).any isFloat = true) → ∀ c a d v w, Q (.panic c) (a.put d v) w → Q (.panic c) a w := by exact fun h => by cases h) : (Code.region id l.toArray true).wp P Q a w := by
  have hr := regOk_spec hok
  have hnl : n ≤ l.length := by simpa using hr.le
  refine wp_region_any hm ?_
  have hw : ({ w with drawn := w.drawn + 1 } : World) = w.drew := rfl
  have hex : ∀ j : Nat, ∃ u : Value, (∀ x : Value, Φs[j]? = some (.inl x) → u = x) ∧ (∀ φ : (Value → Prop) × (Value → World → Prop), Φs[j]? = some (.inr φ) → φ.1 u) := fun j => by
    cases hj : Φs[j]? with
    | none => exact ⟨undef, fun x h => (by cases h), fun φ h => (by cases h)⟩
    | some p =>
      cases p with
      | inl x => exact ⟨x, fun y h => (by cases h; rfl), fun φ h => (by cases h)⟩
      | inr φ => obtain ⟨u, hu⟩ := hne j φ hj; exact ⟨u, fun y h => (by cases h), fun ψ h => (by cases h; exact hu)⟩
  obtain ⟨v0, hv0⟩ := Classical.axiomOfChoice hex
  rw [hw]
  have := head_sound (P := P) (ops := l.toArray) (Q := Q) (w := w.drew) (al := al) (all := Φs) (a := a) hr hlen hmono (fun j hj => by
    have := List.all_eq_true.1 hal j hj
    split at this
    · rename_i φ hφ; exact ⟨φ, hφ⟩
    · cases this) (fun ⟨i, o, hi, ho, hf⟩ => hQ (List.any_eq_true.2 ⟨o, List.mem_of_getElem? (i := i) (by simpa [List.getElem?_take, hi] using ho), hf⟩)) (fun v hv hv2 => by
      have := rg_flat (P := P) (ops := l.toArray) (Q := Q) (tail := l.drop n) (w := w.drew) (al := al) (all := Φs) (a := a) v hv hv2 (l.take n) Φs 0
        (fun j hj => by rw [List.length_take] at hj; simp [List.getElem?_take, show j < n by omega]) (fun j => by simp) (by simpa [tx] using h)
      have hl : (l.take n).length = n := by simp; omega
      rw [hl] at this
      exact ⟨fun k hk => this.1 k (Nat.zero_le _) (by omega), by simpa using this.2⟩)
    n (List.range n) (Array.replicate l.toArray.size false) a w.drew v0 (by simp) ?_
  · have e : l.toArray.size - n + n = l.toArray.size := by simp; omega
    rw [e] at this
    exact this
  · have hf : ∀ j, (Array.replicate l.toArray.size false).getD j false = false := fun j => getD_replicate_false _ _
    refine ⟨by simp, fun j hj => ?_, List.nodup_range, fun j hj => List.mem_range.1 hj, fun k _ => hf k, fun j o _ hl => ?_, rfl, rfl, fun t j _ _ hl => ?_, fun t _ => rfl, Below.refl _ _, fun j ph _ hl => ?_, fun j x hx => ?_, fun j φ hφ => ?_, fun j _ _ hl => ?_, fun i j _ _ _ _ _ hl => ?_⟩
    · rw [hf]; simp [hj]
    · rw [hf] at hl; cases hl
    · rw [hf] at hl; cases hl
    · rw [hf] at hl; cases hl
    · exact (hv0 j).1 x hx
    · exact (hv0 j).2 φ hφ
    · rw [hf] at hl; cases hl
    · rw [hf] at hl; cases hl
section
variable {P : Program} {ops : Array Oper} {Q : Exit → Act → World → Prop} {tail : List Oper} {w : World} {al : List Nat} {all : List Ph}
theorem RG_det {o : Oper} {rest : List Oper} {x : Value} {Φs : List Ph} {i : Nat} {vs : List Value} {a : Act}
 (h : ∀ W, Below w.heap.size w W → phNd all vs W (needs o) → wpList P ops (hpost a.defers (o.dst.getD 0) (detP x W)) [o] a W)
 (k : RG P ops Q tail w al all rest Φs (i + 1) (vs ++ [x]) (a.put o.dst x)) : RG P ops Q tail w al all (o :: rest) (.inl x :: Φs) i vs a := ⟨h, k⟩
theorem RG_nd {o : Oper} {rest : List Oper} {φ : (Value → Prop) × (Value → World → Prop)} {Φs : List Ph} {i : Nat} {vs : List Value} {a : Act}
 (h : ∀ W, Below w.heap.size w W → phNd all vs W (needs o) →
  wpList P ops (hpost a.defers (o.dst.getD 0) (ndP (fun u W' => φ.1 u ∧ φ.2 u W') al i W)) [o] a W)
 (k : ∀ u, φ.1 u → RG P ops Q tail w al all rest Φs (i + 1) (vs ++ [u]) (a.put o.dst u)) : RG P ops Q tail w al all (o :: rest) (.inr φ :: Φs) i vs a := ⟨h, k⟩
theorem RG_end {i : Nat} {vs : List Value} {a : Act} (h : ∀ W, Below w.heap.size w W → phNd all vs W (List.range i) →
 (∀ i j, i ∈ al → j ∈ al → i ≠ j → vs.getD i undef ≠ vs.getD j undef) → wpList P ops Q tail a W) : RG P ops Q tail w al all [] [] i vs a := h
end
end Go.Proofs.YtakbgccddokbbaaGreatDoor.Dr
