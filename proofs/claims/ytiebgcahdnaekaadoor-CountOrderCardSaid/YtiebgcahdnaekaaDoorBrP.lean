/-
Brains, plainly.
-/
import Derived.Test.YtiebgcahdnaekaaDoorCfP
namespace Go.Proofs.YtiebgcahdnaekaaDoor
set_option linter.unusedVariables false
open Go.RowKit
/-- A launch that is meant. -/
structure It1 where
  tok : Int
  ver : Int
  zon : Int
  warm : Bool
def It1.cs (x : It1) : List Value := [.int .i64 x.tok, .int .i64 x.ver, .int .i64 x.zon, .bool x.warm]
def It1.v (x : It1) : Value := .agg x.cs.toArray
/-- An instance that is kept. -/
structure Kp where
  id : Int
  tok : Int
  ver : Int
  zon : Int
  ph : UInt8
  si : Int
  gu : Bool
  co : Bool
def Kp.cs (k : Kp) : List Value := [.int .i64 k.id, .int .i64 k.tok, .int .i64 k.ver, .int .i64 k.zon, .int .u8 k.ph.toNat, .int .i64 k.si, .bool k.gu, .bool k.co]
def Kp.v (k : Kp) : Value := .agg k.cs.toArray
/-- A refresh. -/
structure Rf where
  st : UInt8
  fr : Int
  ta : Int
  sp : Int
  pa : Bool
  si : Int
  fa : Int
def Rf.cs (r : Rf) : List Value := [.int .u8 r.st.toNat, .int .i64 r.fr, .int .i64 r.ta, .int .i64 r.sp, .bool r.pa, .int .i64 r.si, .int .i64 r.fa]
def Rf.v (r : Rf) : Value := .agg r.cs.toArray
def itsV (l : List It1) : List Value := l.flatMap It1.cs
def kpsV (l : List Kp) : List Value := l.flatMap Kp.cs
theorem flat_len {α : Type} (f : α → List Value) (n : Nat) (hf : ∀ a, (f a).length = n) (l : List α) : (l.flatMap f).length = l.length * n := by
  induction l with
  | nil => simp
  | cons b l ih => rw [List.flatMap_cons, List.length_append, ih, hf, List.length_cons, Nat.add_mul, Nat.one_mul, Nat.add_comm]
theorem takeL_app {n : Nat} {a b : List Value} (h : a.length = n) : takeL (a ++ b) 0 n = some a := by
  induction a generalizing n with
  | nil => subst h; cases b <;> rfl
  | cons x a ih =>
    subst h
    have := ih (n := a.length) rfl
    simp only [List.cons_append, List.length_cons, takeL, this]
theorem takeL_skip {a b : List Value} {k n : Nat} : takeL (a ++ b) (a.length + k) n = takeL b k n := by
  induction a with
  | nil => simp
  | cons x a ih => rw [List.cons_append, List.length_cons, show a.length + 1 + k = a.length + k + 1 by omega, takeL, ih]
theorem flat_at {α : Type} (f : α → List Value) (n : Nat) (hf : ∀ a, (f a).length = n) {l : List α} {k : Nat} (h : k < l.length) : takeL (l.flatMap f) (k * n) n = some (f l[k]) := by
  induction l generalizing k with
  | nil => simp at h
  | cons b l ih =>
    rw [List.flatMap_cons]
    cases k with
    | zero => rw [Nat.zero_mul]; exact takeL_app (hf b)
    | succ k => rw [show (k + 1) * n = (f b).length + k * n by rw [hf, Nat.add_mul, Nat.one_mul, Nat.add_comm], takeL_skip, ih (by simpa using h)]; rfl
theorem itsV_len (l : List It1) : (itsV l).length = l.length * 4 := flat_len _ 4 (fun _ => rfl) l
theorem kpsV_len (l : List Kp) : (kpsV l).length = l.length * 8 := flat_len _ 8 (fun _ => rfl) l
theorem its_at {l : List It1} {k : Nat} (h : k < l.length) : takeL (itsV l) (k * 4) 4 = some l[k].cs := flat_at _ 4 (fun _ => rfl) h
theorem kps_at {l : List Kp} {k : Nat} (h : k < l.length) : takeL (kpsV l) (k * 8) 8 = some l[k].cs := flat_at _ 8 (fun _ => rfl) h
theorem its_f {l : List It1} {k : Nat} (h : k < l.length) (f : Nat) {v : Value} (hv : l[k].cs[f]? = some v) : (itsV l)[k * 4 + f]? = some v := (takeL_spec (its_at h)).2 f v hv
theorem kps_f {l : List Kp} {k : Nat} (h : k < l.length) (f : Nat) {v : Value} (hv : l[k].cs[f]? = some v) : (kpsV l)[k * 8 + f]? = some v := (takeL_spec (kps_at h)).2 f v hv
theorem its_one (l : List It1) : ∀ u ∈ itsV l, u.oneCell' = true := by
  intro u hu
  obtain ⟨b, _, hb⟩ := List.mem_flatMap.1 hu
  simp only [It1.cs, List.mem_cons, List.not_mem_nil, or_false] at hb
  rcases hb with rfl | rfl | rfl | rfl <;> rfl
theorem kps_one (l : List Kp) : ∀ u ∈ kpsV l, u.oneCell' = true := by
  intro u hu
  obtain ⟨b, _, hb⟩ := List.mem_flatMap.1 hu
  simp only [Kp.cs, List.mem_cons, List.not_mem_nil, or_false] at hb
  rcases hb with rfl | rfl | rfl | rfl | rfl | rfl | rfl | rfl <;> rfl
theorem itsV_app (l m : List It1) : itsV (l ++ m) = itsV l ++ itsV m := List.flatMap_append
theorem kpsV_app (l m : List Kp) : kpsV (l ++ m) = kpsV l ++ kpsV m := List.flatMap_append
/-- Where a brain's rows lie: marks, launches, instances. -/
abbrev BrA := AdC × AdC × AdC
structure Br where
  ep : Int
  sq : Int
  set : Bool
  cf : Cf
  its : List It1
  kps : List Kp
  rf : Rf
def Br.cs (b : Br) (z : BrA) : List Value := [.int .i64 b.ep, .int .i64 b.sq, .bool b.set,
  .int .i64 b.cf.d, .int .i64 b.cf.mn, .int .i64 b.cf.su, .int .i64 b.cf.po, .int .i64 b.cf.hi, .int .i64 b.cf.ho, .int .i64 b.cf.wu, .int .i64 b.cf.dr, .int .i64 b.cf.re, .int .i64 b.cf.ti, .int .i64 b.cf.fa, .int .i64 b.cf.de, .int .i64 b.cf.ve, .bool b.cf.sk, .slice z.1.1 b.cf.ms.length z.1.2,
  .slice z.2.1.1 b.its.length z.2.1.2, .slice z.2.2.1 b.kps.length z.2.2.2,
  .int .u8 b.rf.st.toNat, .int .i64 b.rf.fr, .int .i64 b.rf.ta, .int .i64 b.rf.sp, .bool b.rf.pa, .int .i64 b.rf.si, .int .i64 b.rf.fa]
def Br.v (b : Br) (z : BrA) : Value := .agg (b.cs z).toArray
theorem Br.cs_one (b : Br) (z : BrA) : ∀ u ∈ b.cs z, u.oneCell' = true := by simp [Br.cs, Value.oneCell']
/-- What may be read of a brain. -/
abbrev Br.rd (b : Br) (z : BrA) : List Fact := [.rd z.1.1 (i64s b.cf.ms), .rd z.2.1.1 (itsV b.its), .rd z.2.2.1 (kpsV b.kps)]
def Br.rows (b : Br) (z : BrA) : List Res := [.row 3 1 (.slice z.1.1 b.cf.ms.length z.1.2) b.cf.ms.length (i64s b.cf.ms), .row 43 4 (.slice z.2.1.1 b.its.length z.2.1.2) b.its.length (itsV b.its), .row 38 8 (.slice z.2.2.1 b.kps.length z.2.2.2) b.kps.length (kpsV b.kps)]
def goes (p : UInt8) : Bool := decide (5 ≤ p.toNat ∧ p.toNat ≤ 8)
def stands (p : UInt8) : Bool := decide (p.toNat = 1 ∨ p.toNat = 2 ∨ p.toNat = 3 ∨ p.toNat = 4 ∨ p.toNat = 10)
def Br.act (b : Br) : Bool := decide (b.rf.st.toNat = 1)
def Br.ver (b : Br) : Int := if b.act = true then b.rf.ta else b.cf.ve
def Br.old (b : Br) (k : Kp) : Bool := decide (k.ver ≠ b.ver) && (!goes k.ph && !(k.gu && b.cf.sk))
/-- One that there is. -/
structure On where
  zon : Int
  old : Bool
  sta : Bool
  warm : Bool
  ser : Bool
def On.cs (o : On) : List Value := [.int .i64 o.zon, .bool o.old, .bool o.sta, .bool o.warm, .bool o.ser]
def On.v (o : On) : Value := .agg o.cs.toArray
def Br.onI (b : Br) (x : It1) : On := ⟨x.zon, !decide (x.ver = b.ver), !x.warm, x.warm, false⟩
def Br.onK (b : Br) (k : Kp) : On := ⟨k.zon, b.old k, stands k.ph, decide (k.ph.toNat = 9), decide (k.ph.toNat = 4)⟩
def Br.ones (b : Br) : List On := b.its.map b.onI ++ b.kps.map b.onK
theorem Br.ones_len (b : Br) : b.ones.length = b.its.length + b.kps.length := by simp [Br.ones]
def onY (l : List On) (k : Nat) : List Value := [(match l[k]? with
  | some s => s.v
  | none => On.v ⟨0, false, false, false, false⟩)]
theorem onY_at {l : List On} {k : Nat} (h : k < l.length) : onY l k = [l[k].v] := by rw [onY, List.getElem?_eq_getElem h]
theorem onY_I (b : Br) {k : Nat} (h : k < b.its.length) : onY b.ones k = [(b.onI b.its[k]).v] := by
  rw [onY_at (by rw [Br.ones_len]; omega)]
  simp [Br.ones, List.getElem_append_left, h]
theorem onY_K (b : Br) {k : Nat} (h : k < b.kps.length) : onY b.ones (b.its.length + k) = [(b.onK b.kps[k]).v] := by
  rw [onY_at (by rw [Br.ones_len]; omega)]
  simp [Br.ones, List.getElem_append_right]
/-- What is counted: all, the old ones, those that stand, the warm ones, those that serve. -/
def On.is (o : On) : Nat → Bool
  | 0 => true | 1 => o.old | 2 => o.sta | 3 => o.warm | _ => o.ser
def Br.cnt (b : Br) (j : Nat) : Nat := b.ones.countP fun o => o.is j
theorem Br.cnt_all (b : Br) : b.cnt 0 = b.its.length + b.kps.length := by rw [← Br.ones_len]; simp [Br.cnt, On.is]
theorem Br.cnt_le (b : Br) (j : Nat) : b.cnt j ≤ b.its.length + b.kps.length := by rw [← Br.ones_len]; exact List.countP_le_length
theorem Br.cnt_eq (b : Br) (j : Nat) : b.cnt j = b.its.countP (fun x => (b.onI x).is j) + b.kps.countP (fun k => (b.onK k).is j) := by
  rw [Br.cnt, Br.ones, List.countP_append, List.countP_map, List.countP_map]; rfl
def Br.more (b : Br) : Bool := b.act && (!b.rf.pa && decide (0 < b.cnt 1))
def Br.want (b : Br) : Int := if b.more = true then IntKind.i64.wrap (b.cf.d + b.cf.su) else b.cf.d
def Br.counts (b : Br) : List Value := [.int .i64 b.ver, .int .i64 (b.cnt 1 : Nat), .int .i64 (b.cnt 2 : Nat), .int .i64 (b.cnt 3 : Nat), .int .i64 (b.cnt 0 : Nat), .int .i64 (b.cnt 4 : Nat), .int .i64 b.want, .int .i64 b.cf.flr, .int .i64 b.cf.bnd]
def Br.zones (b : Br) : List Int := (b.ones.filter (·.sta)).map (·.zon)
theorem Br.zones_len (b : Br) : b.zones.length = b.cnt 2 := by rw [Br.zones, List.length_map, ← List.countP_eq_length_filter]; rfl
def Br.zonesK (b : Br) (k : Nat) : List Int := ((b.ones.take k).filter (·.sta)).map (·.zon)
theorem zonesK_yes {b : Br} {k : Nat} (h : k < b.ones.length) (hi : b.ones[k].sta = true) : b.zonesK (k + 1) = b.zonesK k ++ [b.ones[k].zon] := by
  rw [Br.zonesK, List.take_succ_eq_append_getElem h, List.filter_append, List.map_append, List.filter_cons_of_pos hi]; rfl
theorem zonesK_no {b : Br} {k : Nat} (h : k < b.ones.length) (hi : b.ones[k].sta = false) : b.zonesK (k + 1) = b.zonesK k := by
  rw [Br.zonesK, List.take_succ_eq_append_getElem h, List.filter_append, List.map_append, List.filter_cons_of_neg (by simp [hi])]; simp [Br.zonesK]
theorem zonesK_end (b : Br) : b.zonesK b.ones.length = b.zones := by rw [Br.zonesK, List.take_length]; rfl
theorem zonesK_len (b : Br) (k : Nat) : (b.zonesK k).length ≤ b.ones.length := by
  rw [Br.zonesK, List.length_map]
  refine Nat.le_trans (List.length_filter_le _ _) ?_
  rw [List.length_take]; omega
/-- A count's cells, while they are counted. -/
def ctG (v w f o : Int) (g : Nat → Nat) : List Value := [.int .i64 v, .int .i64 (g 1 : Nat), .int .i64 (g 2 : Nat), .int .i64 (g 3 : Nat), .int .i64 (g 0 : Nat), .int .i64 (g 4 : Nat), .int .i64 w, .int .i64 f, .int .i64 o]
/-- Which cell of counts one counts. -/
def ctOff : Nat → Nat
  | 0 => 4 | 1 => 1 | 2 => 2 | 3 => 3 | _ => 5
def upd (g : Nat → Nat) (j n : Nat) : Nat → Nat := fun i => if i = j then n else g i
theorem ctG_at (v w f o : Int) (g : Nat → Nat) : ∀ {j : Nat}, j < 5 → (ctG v w f o g)[ctOff j]? = some (.int .i64 (g j : Nat))
  | 0, _ => rfl | 1, _ => rfl | 2, _ => rfl | 3, _ => rfl | 4, _ => rfl
  | j + 5, h => by omega
theorem ctG_put (v w f o : Int) (g : Nat → Nat) (n : Nat) : ∀ {j : Nat}, j < 5 → putL (ctG v w f o g) (ctOff j) [.int .i64 (n : Nat)] = some (ctG v w f o (upd g j n))
  | 0, _ => rfl | 1, _ => rfl | 2, _ => rfl | 3, _ => rfl | 4, _ => rfl
  | j + 5, h => by omega
theorem upd_same (g : Nat → Nat) (j : Nat) : upd g j (g j) = g := by
  funext i; unfold upd; split
  · rename_i e; rw [e]
  · rfl
theorem upd_upd (g : Nat → Nat) (j n m : Nat) : upd (upd g j n) j m = upd g j m := by
  funext i; unfold upd; split <;> rfl
/-- The counts that are done while the j-th is counted, and of it those of the first k. -/
def cntG (b : Br) (j k : Nat) : Nat → Nat := fun i => if i < j then b.cnt i else if i = j then (b.ones.take k).countP (fun o => o.is j) else 0
theorem cntG_self (b : Br) (j k : Nat) : cntG b j k j = (b.ones.take k).countP (fun o => o.is j) := by simp [cntG]
theorem cntG_yes {b : Br} {j k : Nat} (h : k < b.ones.length) (hi : b.ones[k].is j = true) : upd (cntG b j k) j (cntG b j k j + 1) = cntG b j (k + 1) := by
  funext i
  unfold upd cntG
  by_cases e : i = j
  · subst e
    rw [if_pos rfl, if_neg (Nat.lt_irrefl _), if_pos rfl, if_neg (Nat.lt_irrefl _), if_pos rfl, List.take_succ_eq_append_getElem h, List.countP_append, List.countP_singleton, if_pos hi]
  · rw [if_neg e, if_neg e, if_neg e]
theorem cntG_no {b : Br} {j k : Nat} (h : k < b.ones.length) (hi : b.ones[k].is j = false) : cntG b j (k + 1) = cntG b j k := by
  funext i
  unfold cntG
  split
  · rfl
  · split
    · rename_i e; subst e
      rw [List.take_succ_eq_append_getElem h, List.countP_append, List.countP_singleton, hi]; rfl
    · rfl
theorem cntG_end (b : Br) (j : Nat) : cntG b j b.ones.length = cntG b (j + 1) 0 := by
  funext i
  unfold cntG
  rw [List.take_length]
  by_cases h1 : i < j
  · rw [if_pos h1, if_pos (by omega)]
  · rw [if_neg h1]
    by_cases h2 : i = j
    · subst h2; rw [if_pos rfl, if_pos (by omega)]; rfl
    · rw [if_neg h2, if_neg (by omega)]
      split <;> simp
theorem cntG_done (b : Br) (v w f o : Int) : ctG v w f o (cntG b 5 0) = [.int .i64 v, .int .i64 (b.cnt 1 : Nat), .int .i64 (b.cnt 2 : Nat), .int .i64 (b.cnt 3 : Nat), .int .i64 (b.cnt 0 : Nat), .int .i64 (b.cnt 4 : Nat), .int .i64 w, .int .i64 f, .int .i64 o] := rfl
end Go.Proofs.YtiebgcahdnaekaaDoor
