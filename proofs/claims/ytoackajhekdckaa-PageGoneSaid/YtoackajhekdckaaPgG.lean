/-
The laws of pages: PageBehind, PageGone.
-/
import Derived.Test.YtoackajhekdckaaPgF
namespace Go.Proofs.Ytoackajhekdckaa
set_option linter.unusedVariables false
open Go.RowKit
attribute [local irreducible] Res.blk Res.row Fact.rd Res.mapI
theorem at_idx (a : Int) (L : Nat) (h : 0 < L) : ∃ k : Nat, k < L ∧ (a.tmod L + L).tmod L = k ∧ -(L : Int) < a.tmod L ∧ a.tmod L < L := by
  have h1 := Int.tmod_lt_of_pos a (show (0 : Int) < L by omega)
  have h2 := Int.lt_tmod_of_pos a (show (0 : Int) < L by omega)
  have h3 : 0 ≤ (a.tmod L + L).tmod L := Int.tmod_nonneg _ (by omega)
  have h4 := Int.tmod_lt_of_pos (a.tmod L + L) (show (0 : Int) < L by omega)
  exact ⟨((a.tmod L + L).tmod L).toNat, by omega, by omega, h2, h1⟩
theorem bxs_set2 {l : List Bx} {k : Nat} (h : k < l.length) (b : Bx) (f : Nat) (hf : f < 11) (v : Value) (b' : Bx) (hb : b.cs.set f v = b'.cs) : (bxsV (l.set k b)).set (k * 11 + f) v = bxsV (l.set k b') := by
  rw [bxs_set (l := l.set k b) (by simpa using h) f hf v b' (by simpa using hb), List.set_set]
def Bx.rip (b : Bx) : Bx := { b with gone := true, on := false, lb := 0 }
theorem rip_ok {l : List Bx} (h : okB l) {i : Nat} (hi : i < l.length) : okB (l.set i l[i].rip) := by
  have hi0 := h i hi
  obtain ⟨⟨a1, a2, a3, a4, a5, a6, a7⟩, a8⟩ := hi0
  have htok : ∀ j, (hj : j < l.length) → (l.set i l[i].rip)[j]'(by simpa using hj) = if i = j then l[i].rip else l[j] := fun j hj => by rw [List.getElem_set]
  have ht : ∀ j, (hj : j < l.length) → ((l.set i l[i].rip)[j]'(by simpa using hj)).tok = l[j].tok := fun j hj => by
    rw [htok j hj]; split
    · rename_i e; subst e; rfl
    · rfl
  intro j hj
  have hj' : j < l.length := by simpa using hj
  refine ⟨?_, fun q hq hp => ?_⟩
  · rw [htok j hj']
    split
    · rename_i e; subst e
      exact ⟨a1, a2, a3, a4, by show (0 : UInt8).toNat ≤ 2; decide, fun h => absurd rfl h, fun _ => rfl⟩
    · exact (h j hj').1
  · rw [ht j hj'] at hp ⊢
    rw [ht q (by omega)]
    exact (h j hj').2 q hq hp
theorem rip_sh (b : Bx) (be : Int) : Bx.sh be b.rip = false := by simp [Bx.sh, Bx.rip]
theorem fil_set {q : Bx → Bool} {b : Bx} (hb : q b = false) {l : List Bx} {i : Nat} (hi : i < l.length) (hq : q l[i] = false) : (l.set i b).filter q = l.filter q := by
  induction l generalizing i with
  | nil => simp at hi
  | cons c l ih =>
    cases i with
    | zero =>
      have hc : q c = false := hq
      rw [List.set_cons_zero, List.filter_cons, List.filter_cons, hb, hc]; rfl
    | succ i =>
      rw [List.set_cons_succ, List.filter_cons, List.filter_cons, ih (by simpa using hi) (by simpa using hq)]
theorem fil_not {q : Bx → Bool} {b : Bx} (hb : q b = false) {l : List Bx} {i : Nat} (hi : i < l.length) (v : Int) (hv : ∀ k, (h : k < l.length) → (l[k].id = v ↔ k = i)) : (l.set i b).filter q = (l.filter q).filter fun x => decide (x.id ≠ v) := by
  induction l generalizing i with
  | nil => simp at hi
  | cons c l ih =>
    cases i with
    | zero =>
      have hc : c.id = v := (hv 0 (by simp)).2 rfl
      have hl : ∀ x ∈ l, x.id ≠ v := fun x hx => by
        obtain ⟨k, hk, rfl⟩ := List.mem_iff_getElem.1 hx
        intro e
        have := (hv (k + 1) (by simpa using hk)).1 e
        omega
      have e : (l.filter q).filter (fun x => decide (x.id ≠ v)) = l.filter q := List.filter_eq_self.2 fun x hx => by simpa using hl x (List.mem_filter.1 hx).1
      rw [List.set_cons_zero, List.filter_cons_of_neg (by simp [hb])]
      by_cases hqc : q c = true
      · rw [List.filter_cons_of_pos hqc, List.filter_cons_of_neg (by simp [hc]), e]
      · rw [List.filter_cons_of_neg hqc, e]
    | succ i =>
      have hc : c.id ≠ v := fun e => by have := (hv 0 (by simp)).1 e; omega
      have h2 := ih (i := i) (by simpa using hi) fun k hk => by
        have := hv (k + 1) (by simpa using hk)
        simpa using this
      rw [List.set_cons_succ, List.filter_cons, List.filter_cons, h2]
      split
      · rw [List.filter_cons]; simp [hc]
      · rfl
theorem behind_shw {c d : Cl} (h : c.Ok) (hd : d.Ok) {i : Nat} (hi : i < c.bs.length) {be : Int} (hb : c.bs[i].id ≤ be) (e : d.bs = c.bs.set i c.bs[i].rip) : shw d be = shw c be := by
  rw [shw_ok (Cl.ok_iff.2 h), shw_ok (Cl.ok_iff.2 hd), e, fil_set (rip_sh _ _) hi (by simp [Bx.sh]; omega)]
theorem same_shw {c d : Cl} (h : c.Ok) (hd : d.Ok) {be : Int} (e : d.bs = c.bs) : shw d be = shw c be := by
  rw [shw_ok (Cl.ok_iff.2 h), shw_ok (Cl.ok_iff.2 hd), e]
theorem half {a : Int} (h : okN a = true) : okN (a.tdiv 2) = true ∧ 0 ≤ a.tdiv 2 ∧ a.tdiv 2 ≤ 1099511627776 := by
  have h1 := okN_iff.1 h
  rw [Int.tdiv_eq_ediv_of_nonneg h1.1]
  exact ⟨okN_iff.2 (by omega), by omega, by omega⟩
theorem pageBehind_ct (c : Cl) (x : AdC) (be a : Int) (hw : c.Wf) : Ct Try.prog 4 [c.v x, .int .i64 be, .int .i64 a] [] [.rd x.1 (bxsV c.bs)] (fun _ : Unit => .bool true) (fun _ => []) (fun _ => []) := by
  obtain ⟨s, hs⟩ : ∃ s, shw c be = s := ⟨_, rfl⟩
  have hgt := shw_gt c be
  rw [hs] at hgt
  refine Ct.of _ Try.func4 Try.ntmps4 rfl rfl (fun X W => ?_)
  refine Jc.seq ?_
  refine Jc.region ?_
  refine Jl.box rfl (by rfl) ?_
  intro b3
  refine Jl.pv (PR.assign rfl) ?_
  refine Jl.nil ?_
  refine Jq.thenN ?_
  refine Jc.seq ?_
  refine Jc.seq ?_
  refine Jc.region ?_
  refine Jl.pv (PR.loadW rfl tsh24 (by repeat (first | exact Has.here | apply Has.there)) (by rfl)) ?_
  refine Jl.call (great_ct c x) en7 (by rfl) (by repeat (first | exact Take.nil | apply Take.cons (by repeat (first | exact Del.here | apply Del.there)))) (by repeat (first | exact trivial | refine And.intro (by repeat (first | exact Mem.here | apply Mem.there)) ?_)) ?_
  rintro ⟨⟩
  refine Jl.pv (PR.move rfl) ?_
  refine Jl.bsplit (fun g15 => ?_) (fun g15 => ?_)
  · try replace g15 := of_decide_eq_true g15
    refine Jl.offS rfl rfl rfl ?_
    refine Jl.offS rfl rfl rfl ?_
    refine Jl.offS rfl rfl rfl ?_
    refine Jl.pv (PR.pickT rfl rfl) ?_
    refine Jl.pv (PR.move rfl) ?_
    refine Jl.offS rfl rfl rfl ?_
    refine Jl.offS rfl rfl rfl ?_
    refine Jl.offS rfl rfl rfl ?_
    refine Jl.offS rfl rfl rfl ?_
    refine Jl.pv (PR.pickT rfl rfl) ?_
    refine Jl.nil ?_
    refine Jq.thenN ?_
    refine Jc.condT rfl ?_
    refine Jc.seq ?_
    refine Jc.region ?_
    refine Jl.call pgwakes_ct en9 (by rfl) (by repeat (first | exact Take.nil | apply Take.cons (by repeat (first | exact Del.here | apply Del.there)))) (by repeat (first | exact trivial | refine And.intro (by repeat (first | exact Mem.here | apply Mem.there)) ?_)) ?_
    rintro ⟨⟩
    refine Jl.pv (PR.assign rfl) ?_
    refine Jl.nil ?_
    refine Jq.thenN ?_
    refine Jc.ret ?_
    refine Jq.thenR ?_
    exact Jq.fin () (.inl rfl) rfl (RetVs.tmp rfl RetVs.nil) rfl (by repeat (first | exact Take.nil | apply Take.cons (by repeat (first | exact Del.here | apply Del.there)))) (by repeat (first | exact trivial | refine And.intro (by repeat (first | exact Mem.here | apply Mem.there)) ?_))
  · try replace g15 := of_decide_eq_false g15
    refine Jl.on rfl rfl ?_
    refine Jl.pv (PR.loadW rfl tsh24 (by repeat (first | exact Has.here | apply Has.there)) (by rfl)) ?_
    refine Jl.on rfl rfl ?_
    refine Jl.call (rright'_ct c x) en8 (by rfl) (by repeat (first | exact Take.nil | apply Take.cons (by repeat (first | exact Del.here | apply Del.there)))) (by repeat (first | exact trivial | refine And.intro (by repeat (first | exact Mem.here | apply Mem.there)) ?_)) ?_
    rintro ⟨⟩
    refine Jl.on rfl rfl ?_
    refine Jl.pv (PR.not rfl) ?_
    refine Jl.pv (PR.pickF rfl rfl) ?_
    refine Jl.pv (PR.move rfl) ?_
    refine Jl.bsplit (fun g20 => ?_) (fun g20 => ?_)
    · try replace g20 := of_decide_eq_true g20
      refine Jl.offS rfl rfl rfl ?_
      refine Jl.offS rfl rfl rfl ?_
      refine Jl.offS rfl rfl rfl ?_
      refine Jl.offS rfl rfl rfl ?_
      refine Jl.pv (PR.pickT rfl rfl) ?_
      refine Jl.nil ?_
      refine Jq.thenN ?_
      refine Jc.condT rfl ?_
      refine Jc.seq ?_
      refine Jc.region ?_
      refine Jl.call pgwakes_ct en9 (by rfl) (by repeat (first | exact Take.nil | apply Take.cons (by repeat (first | exact Del.here | apply Del.there)))) (by repeat (first | exact trivial | refine And.intro (by repeat (first | exact Mem.here | apply Mem.there)) ?_)) ?_
      rintro ⟨⟩
      refine Jl.pv (PR.assign rfl) ?_
      refine Jl.nil ?_
      refine Jq.thenN ?_
      refine Jc.ret ?_
      refine Jq.thenR ?_
      exact Jq.fin () (.inl rfl) rfl (RetVs.tmp rfl RetVs.nil) rfl (by repeat (first | exact Take.nil | apply Take.cons (by repeat (first | exact Del.here | apply Del.there)))) (by repeat (first | exact trivial | refine And.intro (by repeat (first | exact Mem.here | apply Mem.there)) ?_))
    · try replace g20 := of_decide_eq_false g20
      refine Jl.on rfl rfl ?_
      refine Jl.pv (PR.fieldAddr rfl tfl24_0) ?_
      refine Jl.on rfl rfl ?_
      refine Jl.pv (PR.load1 rfl tsh22 (by repeat (first | exact Has.here | apply Has.there)) (by rfl)) ?_
      refine Jl.on rfl rfl ?_
      refine Jl.pv (PR.len rfl tsl22) ?_
      refine Jl.on rfl rfl ?_
      refine Jl.pv (PR.eql _ rfl rfl rfl) ?_
      refine Jl.pv (PR.pickF rfl rfl) ?_
      refine Jl.nil ?_
      refine Jq.thenN ?_
      refine Jc.cond rfl (fun h0 => ?_) (fun h0 => ?_)
      · try replace h0 := of_decide_eq_true h0
        refine Jc.seq ?_
        refine Jc.region ?_
        refine Jl.call pgwakes_ct en9 (by rfl) (by repeat (first | exact Take.nil | apply Take.cons (by repeat (first | exact Del.here | apply Del.there)))) (by repeat (first | exact trivial | refine And.intro (by repeat (first | exact Mem.here | apply Mem.there)) ?_)) ?_
        rintro ⟨⟩
        refine Jl.pv (PR.assign rfl) ?_
        refine Jl.nil ?_
        refine Jq.thenN ?_
        refine Jc.ret ?_
        refine Jq.thenR ?_
        exact Jq.fin () (.inl rfl) rfl (RetVs.tmp rfl RetVs.nil) rfl (by repeat (first | exact Take.nil | apply Take.cons (by repeat (first | exact Del.here | apply Del.there)))) (by repeat (first | exact trivial | refine And.intro (by repeat (first | exact Mem.here | apply Mem.there)) ?_))
      · try replace h0 := of_decide_eq_false h0
        have hok : c.Ok := Cl.ok_iff.1 (not_false g20)
        have hlen := hok.len
        have hf2 := half hok.fl
        have hn2 := half hok.now
        obtain ⟨i, hi, hke, hk1, hk2⟩ := at_idx a c.bs.length (by omega)
        refine Jc.skip ?_
        refine Jq.thenN ?_
        refine Jc.seq ?_
        refine Jc.region ?_
        refine Jl.pv (PR.loadW rfl tsh24 (by repeat (first | exact Has.here | apply Has.there)) (by rfl)) ?_
        refine Jl.pv (PR.move rfl) ?_
        refine Jl.call (of_at (be := be) hw hs rfl rfl rfl) en10 (by rfl) (by repeat (first | exact Take.nil | apply Take.cons (by repeat (first | exact Del.here | apply Del.there)))) (by repeat (first | exact trivial | refine And.intro (by repeat (first | exact Mem.here | apply Mem.there)) ?_)) ?_
        rintro ⟨A30, c30⟩
        refine Jl.sealR (by repeat (first | exact Del.here | apply Del.there)) ?_
        refine Jl.pv (PR.move rfl) ?_
        refine Jl.pv (PR.extract rfl (by rfl)) ?_
        refine Jl.pv (PR.extract rfl (by rfl)) ?_
        refine Jl.pv (PR.assign rfl) ?_
        refine Jl.pv (PR.assign rfl) ?_
        refine Jl.nil ?_
        refine Jq.thenN ?_
        refine Jc.seq ?_
        refine Jc.drawn [0, 0, 2, 6, 15, 0, 32, 96, 255, 0, 512, 1536, 4095, 8191] ([(0, false), (1, false), (2, false), (3, false), (4, false), (5, false), (6, false), (7, false), (8, false), (9, false), (10, false), (11, false), (12, false), (13, false)], []) [] tmx (by kernel_rfl) ?_
        refine Dh.JH.nil ?_
        refine Dh.JB.pv rfl trivial (fun _ => PR.move rfl) ?_
        refine Dh.JB.pv rfl trivial (fun _ => PR.fieldAddr rfl tfl24_0) ?_
        refine Dh.JB.rd [.blk _ _ _] rfl trivial (by repeat (first | exact Take.nil | apply Take.cons (by repeat (first | exact Del.here | apply Del.there)))) (fun _ => PR.load1 rfl tsh22 Has.here (by rfl)) ?_
        refine Dh.JB.pv rfl trivial (fun _ => PR.len rfl tsl22) ?_
        refine Dh.JB.pv rfl trivial (fun _ => PR.rem (a.tmod c.bs.length) rfl rfl (by omega) rfl) ?_
        refine Dh.JB.pv rfl trivial (fun _ => PR.fieldAddr rfl tfl24_0) ?_
        refine Dh.JB.rd [.blk _ _ _] rfl trivial (by repeat (first | exact Take.nil | apply Take.cons (by repeat (first | exact Del.here | apply Del.there)))) (fun _ => PR.load1 rfl tsh22 Has.here (by rfl)) ?_
        refine Dh.JB.pv rfl trivial (fun _ => PR.len rfl tsl22) ?_
        refine Dh.JB.pv rfl trivial (fun _ => PR.add (a.tmod c.bs.length + c.bs.length) rfl rfl (w64 (by omega) (by omega))) ?_
        refine Dh.JB.pv rfl trivial (fun _ => PR.fieldAddr rfl tfl24_0) ?_
        refine Dh.JB.rd [.blk _ _ _] rfl trivial (by repeat (first | exact Take.nil | apply Take.cons (by repeat (first | exact Del.here | apply Del.there)))) (fun _ => PR.load1 rfl tsh22 Has.here (by rfl)) ?_
        refine Dh.JB.pv rfl trivial (fun _ => PR.len rfl tsl22) ?_
        refine Dh.JB.pv rfl trivial (fun _ => PR.rem ((i : Nat) : Int) rfl rfl (by omega) hke) ?_
        refine Dh.JB.pv rfl trivial (fun _ => PR.assign rfl) ?_
        refine Dh.JB.nil ?_
        refine Dh.JL.nil ?_
        refine Jq.thenN ?_
        refine Jc.seq ?_
        refine Jc.region ?_
        refine Jl.pv (PR.loadW rfl tsh24 (by repeat (first | exact Has.here | apply Has.there)) (by rfl)) ?_
        refine Jl.call (rown_ct c x (by omega)) en15 (by rfl) (by repeat (first | exact Take.nil | apply Take.cons (by repeat (first | exact Del.here | apply Del.there)))) (by repeat (first | exact trivial | refine And.intro (by repeat (first | exact Mem.here | apply Mem.there)) ?_)) ?_
        rintro ⟨A47, c47⟩
        refine Jl.alloc tze24 ?_
        intro b9
        refine Jl.storeW rfl tsh24 rfl (by rfl) (by first | exact Cl.cs_one _ _ | simp [Value.oneCell', Bx.cs]) (by repeat (first | exact Swap.here | apply Swap.there)) (by rfl) ?_
        refine Jl.nil ?_
        refine Jq.thenN ?_
        refine Jc.seq ?_
        refine Jc.drawn [0, 1, 3, 0, 8, 24, 0, 64, 192, 7, 519, 1599, 3647, 8191, 16383] ([], []) [⟨[(0, false), (1, false), (2, false), (3, false), (4, false), (5, false), (6, false), (7, false), (8, false), (9, false)], [], 10⟩, ⟨[(11, false)], [], 12⟩, ⟨[(13, false)], [], 14⟩] tmx (by kernel_rfl) ?_
        refine Dh.JH.cons ?_
        refine Dh.JB.pv rfl trivial (fun _ => PR.fieldAddr rfl tfl24_1) ?_
        refine Dh.JB.rd [.blk _ _ _] rfl trivial (by repeat (first | exact Take.nil | apply Take.cons (by repeat (first | exact Del.here | apply Del.there)))) (fun _ => PR.load1 rfl tsh3 Has.here (by rfl)) ?_
        refine Dh.JB.pv rfl trivial (fun _ => PR.quo (c.fl.tdiv 2) rfl rfl (by decide) (w64 (by omega) (by omega))) ?_
        refine Dh.JB.pv rfl trivial (fun _ => PR.fieldAddr rfl tfl24_3) ?_
        refine Dh.JB.rd [.blk _ _ _] rfl trivial (by repeat (first | exact Take.nil | apply Take.cons (by repeat (first | exact Del.here | apply Del.there)))) (fun _ => PR.load1 rfl tsh3 Has.here (by rfl)) ?_
        refine Dh.JB.pv rfl trivial (fun _ => PR.quo (c.now.tdiv 2) rfl rfl (by decide) (w64 (by omega) (by omega))) ?_
        refine Dh.JB.pv rfl trivial (fun _ => PR.fieldAddr rfl tfl24_4) ?_
        refine Dh.JB.rd [.blk _ _ _] rfl trivial (by repeat (first | exact Take.nil | apply Take.cons (by repeat (first | exact Del.here | apply Del.there)))) (fun _ => PR.load1 rfl tsh4 Has.here (by rfl)) ?_
        refine Dh.JB.pv rfl trivial (fun _ => PR.not rfl) ?_
        refine Dh.JB.pv rfl trivial (fun _ => PR.fieldAddr rfl tfl24_1) ?_
        refine Dh.JB.nil ?_
        refine Dh.JL.nil ?_
        refine Dh.JE.mk rfl (fun _ h => by cases h) (fun C6_10 => ?_)
        refine Jl.store1 rfl tsh3 rfl (by rfl) (by repeat (first | exact Swap.here | apply Swap.there)) (by rfl) ?_
        refine Jl.nil ?_
        refine Dh.Jq.segN (by repeat (first | exact Dh.FExt.refl | apply Dh.FExt.cons | apply Dh.FExt.app)) ?_ (by repeat (first | exact Dh.KeepL.nil | apply Dh.KeepL.anc (by rfl) | apply Dh.KeepL.keep (by repeat (first | exact Take.nil | apply Take.cons (by repeat (first | exact Del.here | apply Del.there))))))
        refine Dh.JH.cons ?_
        refine Dh.JB.pv rfl trivial (fun _ => PR.fieldAddr rfl tfl24_3) ?_
        refine Dh.JB.nil ?_
        refine Dh.JL.nil ?_
        refine Dh.JE.mk rfl (fun _ h => by cases h) (fun C6_12 => ?_)
        refine Jl.store1 rfl tsh3 rfl (by rfl) (by repeat (first | exact Swap.here | apply Swap.there)) (by rfl) ?_
        refine Jl.nil ?_
        refine Dh.Jq.segN (by repeat (first | exact Dh.FExt.refl | apply Dh.FExt.cons | apply Dh.FExt.app)) ?_ (by repeat (first | exact Dh.KeepL.nil | apply Dh.KeepL.anc (by rfl) | apply Dh.KeepL.keep (by repeat (first | exact Take.nil | apply Take.cons (by repeat (first | exact Del.here | apply Del.there))))))
        refine Dh.JH.cons ?_
        refine Dh.JB.pv rfl trivial (fun _ => PR.fieldAddr rfl tfl24_4) ?_
        refine Dh.JB.nil ?_
        refine Dh.JL.nil ?_
        refine Dh.JE.mk rfl (fun _ h => by cases h) (fun C6_14 => ?_)
        refine Jl.store1 rfl tsh4 rfl (by rfl) (by repeat (first | exact Swap.here | apply Swap.there)) (by rfl) ?_
        refine Jl.nil ?_
        refine Dh.Jq.segN (by repeat (first | exact Dh.FExt.refl | apply Dh.FExt.cons | apply Dh.FExt.app)) ?_ (by repeat (first | exact Dh.KeepL.nil | apply Dh.KeepL.anc (by rfl) | apply Dh.KeepL.keep (by repeat (first | exact Take.nil | apply Take.cons (by repeat (first | exact Del.here | apply Del.there))))))
        refine Dh.JH.nil ?_
        refine Dh.JB.nil ?_
        refine Dh.JL.nil ?_
        refine Jq.thenN ?_
        refine Jc.mid (σ := { d : Cl // d.Ok ∧ shw d be = s }) (fun d => [(9, .pointer (some ⟨b9, 0, none⟩)), (8, .bool (decide (3 < s.length))), (7, .slice A30 (s.take 3).length c30), (1, .int .i64 be), (3, .pointer (some ⟨b3, 0, none⟩))]) (fun d => [d.1.row (A47, c47), .blk b9 24 (d.1.cs (A47, c47)), .blk b3 24 (c.cs x)]) (fun _ => [.rd A30 (snsV (s.take 3)), .rd x.1 (bxsV c.bs)]) ?_ ?_
        · refine Jc.seq ?_
          refine Jc.region ?_
          refine Jl.pv (PR.fieldAddr rfl tfl24_0) ?_
          refine Jl.pv (PR.load1 rfl tsh22 (by repeat (first | exact Has.here | apply Has.there)) (by rfl)) ?_
          refine Jl.pv (PR.move rfl) ?_
          refine Jl.pv (PR.idxO i rfl rfl tsl22 (by repeat (first | exact Del.here | apply Del.there)) (by decide) rfl hi) ?_
          refine Jl.pv (PR.fieldAddrO rfl tfl33_0 (by repeat (first | exact Del.here | apply Del.there)) (by rw [bxsV_len]; omega)) ?_
          refine Jl.pv (PR.loadO rfl tsh3 (by repeat (first | exact Del.here | apply Del.there)) (bxs_f hi 0 rfl)) ?_
          refine Jl.pv (PR.move rfl) ?_
          refine Jl.pv (PR.leq _ rfl rfl rfl) ?_
          refine Jl.nil ?_
          refine Jq.thenN ?_
          refine Jc.cond rfl (fun h1 => ?_) (fun h1 => ?_)
          · try replace h1 := of_decide_eq_true h1
            have hdo1 : (⟨c.bs.set i c.bs[i].rip, c.fl.tdiv 2, c.dr, c.now.tdiv 2, !c.ti⟩ : Cl).Ok := ⟨by simpa using hlen, hf2.1, hok.dr, hn2.1, rip_ok hok.bs hi⟩
            refine Jc.drawn [0, 1, 0, 0, 8, 0, 0, 64, 0, 7, 519, 1543, 3647, 7743, 15935, 32767, 65535, 131071] ([], []) [⟨[(0, false), (1, false), (2, false), (3, false), (4, false), (5, false), (6, false), (7, false), (8, false), (9, false), (10, false)], [], 11⟩, ⟨[(12, false), (13, false)], [], 14⟩, ⟨[(15, false), (16, false)], [], 17⟩] tmx (by kernel_rfl) ?_
            refine Dh.JH.cons ?_
            refine Dh.JB.pv rfl trivial (fun _ => PR.fieldAddr rfl tfl24_0) ?_
            refine Dh.JB.rd [.blk _ _ _] rfl trivial (by repeat (first | exact Take.nil | apply Take.cons (by repeat (first | exact Del.here | apply Del.there)))) (fun _ => PR.load1 rfl tsh22 Has.here (by rfl)) ?_
            refine Dh.JB.pv rfl trivial (fun _ => PR.move rfl) ?_
            refine Dh.JB.pv rfl trivial (fun _ => PR.fieldAddr rfl tfl24_0) ?_
            refine Dh.JB.rd [.blk _ _ _] rfl trivial (by repeat (first | exact Take.nil | apply Take.cons (by repeat (first | exact Del.here | apply Del.there)))) (fun _ => PR.load1 rfl tsh22 Has.here (by rfl)) ?_
            refine Dh.JB.pv rfl trivial (fun _ => PR.move rfl) ?_
            refine Dh.JB.pv rfl trivial (fun _ => PR.fieldAddr rfl tfl24_0) ?_
            refine Dh.JB.rd [.blk _ _ _] rfl trivial (by repeat (first | exact Take.nil | apply Take.cons (by repeat (first | exact Del.here | apply Del.there)))) (fun _ => PR.load1 rfl tsh22 Has.here (by rfl)) ?_
            refine Dh.JB.pv rfl trivial (fun _ => PR.move rfl) ?_
            refine Dh.JB.rd [.row _ _ _ _ _] rfl trivial (by repeat (first | exact Take.nil | apply Take.cons (by repeat (first | exact Del.here | apply Del.there)))) (fun _ => PR.idxO i rfl rfl tsl22 Del.here (by decide) rfl hi) ?_
            refine Dh.JB.rd [.row _ _ _ _ _] rfl trivial (by repeat (first | exact Take.nil | apply Take.cons (by repeat (first | exact Del.here | apply Del.there)))) (fun _ => PR.fieldAddrO rfl tfl33_6 Del.here (by rw [bxsV_len]; omega)) ?_
            refine Dh.JB.nil ?_
            refine Dh.JL.nil ?_
            refine Dh.JE.mk rfl (fun _ h => by cases h) (fun C8_11 => ?_)
            refine Jl.storeO rfl tsh4 rfl (by rfl) (by repeat (first | exact Swap.here | apply Swap.there)) (by rw [bxsV_len]; omega) (bxs_set hi 6 (by omega) _ { c.bs[i] with gone := true } rfl) ?_
            refine Jl.nil ?_
            refine Dh.Jq.segN (by repeat (first | exact Dh.FExt.refl | apply Dh.FExt.cons | apply Dh.FExt.app)) ?_ (by repeat (first | exact Dh.KeepL.nil | apply Dh.KeepL.anc (by rfl) | apply Dh.KeepL.keep (by repeat (first | exact Take.nil | apply Take.cons (by repeat (first | exact Del.here | apply Del.there))))))
            refine Dh.JH.cons ?_
            refine Dh.JB.rd [.row _ _ _ _ _] rfl trivial (by repeat (first | exact Take.nil | apply Take.cons (by repeat (first | exact Del.here | apply Del.there)))) (fun _ => PR.idxO i rfl rfl tsl22 Del.here (by decide) rfl hi) ?_
            refine Dh.JB.rd [.row _ _ _ _ _] rfl trivial (by repeat (first | exact Take.nil | apply Take.cons (by repeat (first | exact Del.here | apply Del.there)))) (fun _ => PR.fieldAddrO rfl tfl33_5 Del.here (by rw [bxsV_len, List.length_set]; omega)) ?_
            refine Dh.JB.nil ?_
            refine Dh.JL.nil ?_
            refine Dh.JE.mk rfl (fun _ h => by cases h) (fun C8_14 => ?_)
            refine Jl.storeO rfl tsh4 rfl (by rfl) (by repeat (first | exact Swap.here | apply Swap.there)) (by rw [bxsV_len, List.length_set]; omega) (bxs_set2 hi { c.bs[i] with gone := true } 5 (by omega) _ { c.bs[i] with gone := true, on := false } rfl) ?_
            refine Jl.nil ?_
            refine Dh.Jq.segN (by repeat (first | exact Dh.FExt.refl | apply Dh.FExt.cons | apply Dh.FExt.app)) ?_ (by repeat (first | exact Dh.KeepL.nil | apply Dh.KeepL.anc (by rfl) | apply Dh.KeepL.keep (by repeat (first | exact Take.nil | apply Take.cons (by repeat (first | exact Del.here | apply Del.there))))))
            refine Dh.JH.cons ?_
            refine Dh.JB.rd [.row _ _ _ _ _] rfl trivial (by repeat (first | exact Take.nil | apply Take.cons (by repeat (first | exact Del.here | apply Del.there)))) (fun _ => PR.idxO i rfl rfl tsl22 Del.here (by decide) rfl hi) ?_
            refine Dh.JB.rd [.row _ _ _ _ _] rfl trivial (by repeat (first | exact Take.nil | apply Take.cons (by repeat (first | exact Del.here | apply Del.there)))) (fun _ => PR.fieldAddrO rfl tfl33_8 Del.here (by rw [bxsV_len, List.length_set]; omega)) ?_
            refine Dh.JB.nil ?_
            refine Dh.JL.nil ?_
            refine Dh.JE.mk rfl (fun _ h => by cases h) (fun C8_17 => ?_)
            refine Jl.storeO rfl tsh5 rfl (by rfl) (by repeat (first | exact Swap.here | apply Swap.there)) (by rw [bxsV_len, List.length_set]; omega) (bxs_set2 hi { c.bs[i] with gone := true, on := false } 8 (by omega) _ c.bs[i].rip rfl) ?_
            refine Jl.nil ?_
            refine Dh.Jq.segN (by repeat (first | exact Dh.FExt.refl | apply Dh.FExt.cons | apply Dh.FExt.app)) ?_ (by repeat (first | exact Dh.KeepL.nil | apply Dh.KeepL.anc (by rfl) | apply Dh.KeepL.keep (by repeat (first | exact Take.nil | apply Take.cons (by repeat (first | exact Del.here | apply Del.there))))))
            refine Dh.JH.nil ?_
            refine Dh.JB.nil ?_
            refine Dh.JL.nil ?_
            exact Jq.midT ⟨⟨c.bs.set i c.bs[i].rip, c.fl.tdiv 2, c.dr, c.now.tdiv 2, !c.ti⟩, hdo1, (behind_shw hok hdo1 hi h1 rfl).trans hs⟩ (by repeat (first | exact trivial | refine And.intro rfl ?_)) (by simp only [Cl.row, Cl.cs, List.length_set]; exact (by repeat (first | exact Take.nil | apply Take.cons (by repeat (first | exact Del.here | apply Del.there))))) (by repeat (first | exact trivial | refine And.intro (by repeat (first | exact Mem.here | apply Mem.there)) ?_))
          · try replace h1 := of_decide_eq_false h1
            have hdo1 : (⟨c.bs, c.fl.tdiv 2, c.dr, c.now.tdiv 2, !c.ti⟩ : Cl).Ok := ⟨hlen, hf2.1, hok.dr, hn2.1, hok.bs⟩
            refine Jc.skip ?_
            exact Jq.midT ⟨⟨c.bs, c.fl.tdiv 2, c.dr, c.now.tdiv 2, !c.ti⟩, hdo1, (same_shw hok hdo1 rfl).trans hs⟩ (by repeat (first | exact trivial | refine And.intro rfl ?_)) (by repeat (first | exact Take.nil | apply Take.cons (by repeat (first | exact Del.here | apply Del.there)))) (by repeat (first | exact trivial | refine And.intro (by repeat (first | exact Mem.here | apply Mem.there)) ?_))
        · rintro ⟨d, hdo, hds⟩
          show Jc _ _ _ _ _ _ [(9, Value.pointer (some ⟨b9, 0, none⟩)), (8, .bool (decide (3 < s.length))), (7, .slice A30 (s.take 3).length c30), (1, .int .i64 be), (3, .pointer (some ⟨b3, 0, none⟩))] [d.row (A47, c47), .blk b9 24 (d.cs (A47, c47)), .blk b3 24 (c.cs x)] [.rd A30 (snsV (s.take 3)), .rd x.1 (bxsV c.bs)]
          refine Jc.sealR (by repeat (first | exact Del.here | apply Del.there)) ?_
          refine Jc.seq ?_
          refine Jc.region ?_
          refine Jl.pv (PR.loadW rfl tsh24 (by repeat (first | exact Has.here | apply Has.there)) (by rfl)) ?_
          refine Jl.pv (PR.move rfl) ?_
          refine Jl.call (of_at (be := be) (x := (A47, c47)) hdo.wf hds rfl rfl rfl) en10 (by rfl) (by repeat (first | exact Take.nil | apply Take.cons (by repeat (first | exact Del.here | apply Del.there)))) (by repeat (first | exact trivial | refine And.intro (by repeat (first | exact Mem.here | apply Mem.there)) ?_)) ?_
          rintro ⟨A86, c86⟩
          refine Jl.sealR (by repeat (first | exact Del.here | apply Del.there)) ?_
          refine Jl.pv (PR.move rfl) ?_
          refine Jl.pv (PR.extract rfl (by rfl)) ?_
          refine Jl.pv (PR.extract rfl (by rfl)) ?_
          refine Jl.pv (PR.assign rfl) ?_
          refine Jl.pv (PR.assign rfl) ?_
          refine Jl.nil ?_
          refine Jq.thenN ?_
          refine Jc.seq ?_
          refine Jc.seq ?_
          refine Jc.region ?_
          refine Jl.pv (PR.assign rfl) ?_
          refine Jl.nil ?_
          refine Jq.thenN ?_
          refine Jc.block ?_
          refine Jc.lessR (rs := []) (by repeat (first | exact Take.nil | apply Take.cons (by repeat (first | exact Del.here | apply Del.there)))) ?_
          refine Jc.loop (σ := { k : Nat // k ≤ (s.take 3).length }) (fun z => [(12, .int .i64 (z.1 : Int)), (11, .bool (decide (3 < s.length))), (10, .slice A86 (s.take 3).length c86), (8, .bool (decide (3 < s.length))), (7, .slice A30 (s.take 3).length c30), (1, .int .i64 be)]) (fun _ => []) (fun _ => [.rd A86 (snsV (s.take 3)), .rd A30 (snsV (s.take 3))]) (fun z => (s.take 3).length - z.1) ⟨0, Nat.zero_le _⟩ (by repeat (first | exact trivial | refine And.intro rfl ?_)) rfl (by repeat (first | exact trivial | refine And.intro (by repeat (first | exact Mem.here | apply Mem.there)) ?_)) ?_
          rintro ⟨k, hk⟩
          show Jc _ _ _ _ _ _ [(12, Value.int .i64 (k : Int)), (11, .bool (decide (3 < s.length))), (10, .slice A86 (s.take 3).length c86), (8, .bool (decide (3 < s.length))), (7, .slice A30 (s.take 3).length c30), (1, .int .i64 be)] [] [.rd A86 (snsV (s.take 3)), .rd A30 (snsV (s.take 3))]
          refine Jc.seq ?_
          refine Jc.seq ?_
          refine Jc.region ?_
          refine Jl.pv (PR.move rfl) ?_
          refine Jl.pv (PR.move rfl) ?_
          refine Jl.pv (PR.len rfl tsl28) ?_
          refine Jl.pv (PR.lss _ rfl rfl rfl) ?_
          refine Jl.nil ?_
          refine Jq.thenN ?_
          refine Jc.cond rfl (fun h2 => ?_) (fun h2 => ?_)
          · try replace h2 := of_decide_eq_true h2
            have hlt : k < (s.take 3).length := by omega
            have hb := hgt _ (List.mem_of_mem_take (List.getElem_mem hlt))
            have h3l : (s.take 3).length ≤ 3 := by rw [List.length_take]; omega
            refine Jc.skip ?_
            refine Jq.thenN ?_
            refine Jc.seq ?_
            refine Jc.block ?_
            refine Jc.seq ?_
            refine Jc.region ?_
            refine Jl.pv (PR.move rfl) ?_
            refine Jl.pv (PR.move rfl) ?_
            refine Jl.pv (PR.idx k rfl rfl tsl28 (by repeat (first | exact Mem.here | apply Mem.there)) (snsV_len _) (by omega) rfl hlt) ?_
            refine Jl.pv (PR.fieldAddrR rfl tfl35_0 (by repeat (first | exact Mem.here | apply Mem.there)) (by rw [snsV_len]; omega)) ?_
            refine Jl.pv (PR.loadR rfl tsh3 (by repeat (first | exact Mem.here | apply Mem.there)) (sns_f hlt 0 rfl)) ?_
            refine Jl.pv (PR.move rfl) ?_
            refine Jl.pv (PR.leq false rfl rfl (by simp only [decide_eq_false_iff_not, Int.not_le]; omega)) ?_
            refine Jl.nil ?_
            refine Jq.thenN ?_
            refine Jc.condF rfl ?_
            refine Jc.skip ?_
            refine Jq.blkN ?_
            refine Jq.thenN ?_
            refine Jc.region ?_
            refine Jl.pv (PR.move rfl) ?_
            refine Jl.pv (PR.add ((k + 1 : Nat) : Int) rfl rfl (by rw [w64 (by omega) (by omega)]; rfl)) ?_
            refine Jl.pv (PR.assign rfl) ?_
            refine Jl.nil ?_
            exact Jq.againT ⟨k + 1, hlt⟩ (by simp only; omega) (by repeat (first | exact trivial | refine And.intro rfl ?_)) (by repeat (first | exact Take.nil | apply Take.cons (by repeat (first | exact Del.here | apply Del.there)))) (by repeat (first | exact trivial | refine And.intro (by repeat (first | exact Mem.here | apply Mem.there)) ?_))
          · try replace h2 := of_decide_eq_false h2
            refine Jc.exit ?_
            refine Jq.thenX ?_
            refine Jq.thenX ?_
            refine Jq.blkX ?_
            refine Jq.thenN ?_
            refine Jc.seq ?_
            refine Jc.region ?_
            refine Jl.pv (PR.move rfl) ?_
            refine Jl.pv (PR.move rfl) ?_
            refine Jl.call (psame_eq (a := s.take 3) (b := s.take 3) (x := (A86, c86)) (y := (A30, c30)) rfl rfl rfl (by rw [List.length_take]; omega)) en13 (by rfl) (by repeat (first | exact Take.nil | apply Take.cons (by repeat (first | exact Del.here | apply Del.there)))) (by repeat (first | exact trivial | refine And.intro (by repeat (first | exact Mem.here | apply Mem.there)) ?_)) ?_
            rintro ⟨⟩
            refine Jl.as (.bool true) (congrArg Value.bool rfl) ?_
            refine Jl.pv (PR.move rfl) ?_
            refine Jl.on rfl rfl ?_
            refine Jl.pv (PR.move rfl) ?_
            refine Jl.on rfl rfl ?_
            refine Jl.pv (PR.move rfl) ?_
            refine Jl.on rfl rfl ?_
            refine Jl.pv (PR.beql true Try.underlying4 rfl rfl (by simp)) ?_
            refine Jl.pv (PR.pickT rfl rfl) ?_
            refine Jl.pv (PR.move rfl) ?_
            refine Jl.on rfl rfl ?_
            refine Jl.call pgwakes_ct en9 (by rfl) (by repeat (first | exact Take.nil | apply Take.cons (by repeat (first | exact Del.here | apply Del.there)))) (by repeat (first | exact trivial | refine And.intro (by repeat (first | exact Mem.here | apply Mem.there)) ?_)) ?_
            rintro ⟨⟩
            refine Jl.pv (PR.pickT rfl rfl) ?_
            refine Jl.pv (PR.assign rfl) ?_
            refine Jl.nil ?_
            refine Jq.thenN ?_
            refine Jc.ret ?_
            exact Jq.fin () (.inl rfl) rfl (RetVs.tmp rfl RetVs.nil) rfl (by repeat (first | exact Take.nil | apply Take.cons (by repeat (first | exact Del.here | apply Del.there)))) (by repeat (first | exact trivial | refine And.intro (by repeat (first | exact Mem.here | apply Mem.there)) ?_))
theorem pageGone_ct (c : Cl) (x : AdC) (a : Int) (hw : c.Wf) : Ct Try.prog 5 [c.v x, .int .i64 a] [] [.rd x.1 (bxsV c.bs)] (fun _ : Unit => .bool true) (fun _ => []) (fun _ => []) := by
  have hl60 := shw_len c 0
  obtain ⟨al, hal⟩ : ∃ al, shw c 0 = al := ⟨_, rfl⟩
  rw [hal] at hl60
  refine Ct.of _ Try.func5 Try.ntmps5 rfl rfl (fun X W => ?_)
  refine Jc.seq ?_
  refine Jc.region ?_
  refine Jl.box rfl (by rfl) ?_
  intro b2
  refine Jl.pv (PR.assign rfl) ?_
  refine Jl.nil ?_
  refine Jq.thenN ?_
  refine Jc.seq ?_
  refine Jc.seq ?_
  refine Jc.region ?_
  refine Jl.pv (PR.loadW rfl tsh24 (by repeat (first | exact Has.here | apply Has.there)) (by rfl)) ?_
  refine Jl.call (great_ct c x) en7 (by rfl) (by repeat (first | exact Take.nil | apply Take.cons (by repeat (first | exact Del.here | apply Del.there)))) (by repeat (first | exact trivial | refine And.intro (by repeat (first | exact Mem.here | apply Mem.there)) ?_)) ?_
  rintro ⟨⟩
  refine Jl.pv (PR.move rfl) ?_
  refine Jl.bsplit (fun g11 => ?_) (fun g11 => ?_)
  · try replace g11 := of_decide_eq_true g11
    refine Jl.offS rfl rfl rfl ?_
    refine Jl.offS rfl rfl rfl ?_
    refine Jl.offS rfl rfl rfl ?_
    refine Jl.pv (PR.pickT rfl rfl) ?_
    refine Jl.pv (PR.move rfl) ?_
    refine Jl.offS rfl rfl rfl ?_
    refine Jl.offS rfl rfl rfl ?_
    refine Jl.offS rfl rfl rfl ?_
    refine Jl.offS rfl rfl rfl ?_
    refine Jl.pv (PR.pickT rfl rfl) ?_
    refine Jl.nil ?_
    refine Jq.thenN ?_
    refine Jc.condT rfl ?_
    refine Jc.seq ?_
    refine Jc.region ?_
    refine Jl.call pgwakes_ct en9 (by rfl) (by repeat (first | exact Take.nil | apply Take.cons (by repeat (first | exact Del.here | apply Del.there)))) (by repeat (first | exact trivial | refine And.intro (by repeat (first | exact Mem.here | apply Mem.there)) ?_)) ?_
    rintro ⟨⟩
    refine Jl.pv (PR.assign rfl) ?_
    refine Jl.nil ?_
    refine Jq.thenN ?_
    refine Jc.ret ?_
    refine Jq.thenR ?_
    exact Jq.fin () (.inl rfl) rfl (RetVs.tmp rfl RetVs.nil) rfl (by repeat (first | exact Take.nil | apply Take.cons (by repeat (first | exact Del.here | apply Del.there)))) (by repeat (first | exact trivial | refine And.intro (by repeat (first | exact Mem.here | apply Mem.there)) ?_))
  · try replace g11 := of_decide_eq_false g11
    refine Jl.on rfl rfl ?_
    refine Jl.pv (PR.loadW rfl tsh24 (by repeat (first | exact Has.here | apply Has.there)) (by rfl)) ?_
    refine Jl.on rfl rfl ?_
    refine Jl.call (rright'_ct c x) en8 (by rfl) (by repeat (first | exact Take.nil | apply Take.cons (by repeat (first | exact Del.here | apply Del.there)))) (by repeat (first | exact trivial | refine And.intro (by repeat (first | exact Mem.here | apply Mem.there)) ?_)) ?_
    rintro ⟨⟩
    refine Jl.on rfl rfl ?_
    refine Jl.pv (PR.not rfl) ?_
    refine Jl.pv (PR.pickF rfl rfl) ?_
    refine Jl.pv (PR.move rfl) ?_
    refine Jl.bsplit (fun g16 => ?_) (fun g16 => ?_)
    · try replace g16 := of_decide_eq_true g16
      refine Jl.offS rfl rfl rfl ?_
      refine Jl.offS rfl rfl rfl ?_
      refine Jl.offS rfl rfl rfl ?_
      refine Jl.offS rfl rfl rfl ?_
      refine Jl.pv (PR.pickT rfl rfl) ?_
      refine Jl.nil ?_
      refine Jq.thenN ?_
      refine Jc.condT rfl ?_
      refine Jc.seq ?_
      refine Jc.region ?_
      refine Jl.call pgwakes_ct en9 (by rfl) (by repeat (first | exact Take.nil | apply Take.cons (by repeat (first | exact Del.here | apply Del.there)))) (by repeat (first | exact trivial | refine And.intro (by repeat (first | exact Mem.here | apply Mem.there)) ?_)) ?_
      rintro ⟨⟩
      refine Jl.pv (PR.assign rfl) ?_
      refine Jl.nil ?_
      refine Jq.thenN ?_
      refine Jc.ret ?_
      refine Jq.thenR ?_
      exact Jq.fin () (.inl rfl) rfl (RetVs.tmp rfl RetVs.nil) rfl (by repeat (first | exact Take.nil | apply Take.cons (by repeat (first | exact Del.here | apply Del.there)))) (by repeat (first | exact trivial | refine And.intro (by repeat (first | exact Mem.here | apply Mem.there)) ?_))
    · try replace g16 := of_decide_eq_false g16
      refine Jl.on rfl rfl ?_
      refine Jl.pv (PR.fieldAddr rfl tfl24_0) ?_
      refine Jl.on rfl rfl ?_
      refine Jl.pv (PR.load1 rfl tsh22 (by repeat (first | exact Has.here | apply Has.there)) (by rfl)) ?_
      refine Jl.on rfl rfl ?_
      refine Jl.pv (PR.len rfl tsl22) ?_
      refine Jl.on rfl rfl ?_
      refine Jl.pv (PR.eql _ rfl rfl rfl) ?_
      refine Jl.pv (PR.pickF rfl rfl) ?_
      refine Jl.nil ?_
      refine Jq.thenN ?_
      refine Jc.cond rfl (fun h0 => ?_) (fun h0 => ?_)
      · try replace h0 := of_decide_eq_true h0
        refine Jc.seq ?_
        refine Jc.region ?_
        refine Jl.call pgwakes_ct en9 (by rfl) (by repeat (first | exact Take.nil | apply Take.cons (by repeat (first | exact Del.here | apply Del.there)))) (by repeat (first | exact trivial | refine And.intro (by repeat (first | exact Mem.here | apply Mem.there)) ?_)) ?_
        rintro ⟨⟩
        refine Jl.pv (PR.assign rfl) ?_
        refine Jl.nil ?_
        refine Jq.thenN ?_
        refine Jc.ret ?_
        refine Jq.thenR ?_
        exact Jq.fin () (.inl rfl) rfl (RetVs.tmp rfl RetVs.nil) rfl (by repeat (first | exact Take.nil | apply Take.cons (by repeat (first | exact Del.here | apply Del.there)))) (by repeat (first | exact trivial | refine And.intro (by repeat (first | exact Mem.here | apply Mem.there)) ?_))
      · try replace h0 := of_decide_eq_false h0
        have hok : c.Ok := Cl.ok_iff.1 (not_false g16)
        have hlen := hok.len
        obtain ⟨i, hi, hke, hk1, hk2⟩ := at_idx a c.bs.length (by omega)
        obtain ⟨qb, hqb⟩ : ∃ q : Sn → Bool, q = fun x => decide (x.id ≠ c.bs[i].id) := ⟨_, rfl⟩
        obtain ⟨d, hd⟩ : ∃ d : Cl, d = { c with bs := c.bs.set i c.bs[i].rip } := ⟨_, rfl⟩
        have hdo : d.Ok := by rw [hd]; exact ⟨by simpa using hlen, hok.fl, hok.dr, hok.now, rip_ok hok.bs hi⟩
        have hds : shw d 0 = rst qb al al.length := by
          rw [shw_ok (Cl.ok_iff.2 hdo), ← hal, rst, List.take_length, hqb, shw_ok (Cl.ok_iff.2 hok), List.filter_map, hd]
          show List.map Bx.seen ((c.bs.set i c.bs[i].rip).filter (Bx.sh 0)) = _
          rw [fil_not (rip_sh _ _) hi c.bs[i].id (fun k hk => by have h1 := (hok.bs k hk).1.1; have h2 := (hok.bs i hi).1.1; omega)]
          rfl
        have hsl := rst_le qb al al.length
        refine Jc.skip ?_
        refine Jq.thenN ?_
        refine Jc.seq ?_
        refine Jc.drawn [0, 0, 2, 6, 15, 0, 32, 96, 255, 0, 512, 1536, 4095, 8191] ([(0, false), (1, false), (2, false), (3, false), (4, false), (5, false), (6, false), (7, false), (8, false), (9, false), (10, false), (11, false), (12, false), (13, false)], []) [] tmx (by kernel_rfl) ?_
        refine Dh.JH.nil ?_
        refine Dh.JB.pv rfl trivial (fun _ => PR.move rfl) ?_
        refine Dh.JB.pv rfl trivial (fun _ => PR.fieldAddr rfl tfl24_0) ?_
        refine Dh.JB.rd [.blk _ _ _] rfl trivial (by repeat (first | exact Take.nil | apply Take.cons (by repeat (first | exact Del.here | apply Del.there)))) (fun _ => PR.load1 rfl tsh22 Has.here (by rfl)) ?_
        refine Dh.JB.pv rfl trivial (fun _ => PR.len rfl tsl22) ?_
        refine Dh.JB.pv rfl trivial (fun _ => PR.rem (a.tmod c.bs.length) rfl rfl (by omega) rfl) ?_
        refine Dh.JB.pv rfl trivial (fun _ => PR.fieldAddr rfl tfl24_0) ?_
        refine Dh.JB.rd [.blk _ _ _] rfl trivial (by repeat (first | exact Take.nil | apply Take.cons (by repeat (first | exact Del.here | apply Del.there)))) (fun _ => PR.load1 rfl tsh22 Has.here (by rfl)) ?_
        refine Dh.JB.pv rfl trivial (fun _ => PR.len rfl tsl22) ?_
        refine Dh.JB.pv rfl trivial (fun _ => PR.add (a.tmod c.bs.length + c.bs.length) rfl rfl (w64 (by omega) (by omega))) ?_
        refine Dh.JB.pv rfl trivial (fun _ => PR.fieldAddr rfl tfl24_0) ?_
        refine Dh.JB.rd [.blk _ _ _] rfl trivial (by repeat (first | exact Take.nil | apply Take.cons (by repeat (first | exact Del.here | apply Del.there)))) (fun _ => PR.load1 rfl tsh22 Has.here (by rfl)) ?_
        refine Dh.JB.pv rfl trivial (fun _ => PR.len rfl tsl22) ?_
        refine Dh.JB.pv rfl trivial (fun _ => PR.rem ((i : Nat) : Int) rfl rfl (by omega) hke) ?_
        refine Dh.JB.pv rfl trivial (fun _ => PR.assign rfl) ?_
        refine Dh.JB.nil ?_
        refine Dh.JL.nil ?_
        refine Jq.thenN ?_
        refine Jc.seq ?_
        refine Jc.region ?_
        refine Jl.pv (PR.loadW rfl tsh24 (by repeat (first | exact Has.here | apply Has.there)) (by rfl)) ?_
        refine Jl.call (rown_ct c x (by omega)) en15 (by rfl) (by repeat (first | exact Take.nil | apply Take.cons (by repeat (first | exact Del.here | apply Del.there)))) (by repeat (first | exact trivial | refine And.intro (by repeat (first | exact Mem.here | apply Mem.there)) ?_)) ?_
        rintro ⟨A37, c37⟩
        refine Jl.alloc tze24 ?_
        intro b5
        refine Jl.storeW rfl tsh24 rfl (by rfl) (by first | exact Cl.cs_one _ _ | simp [Value.oneCell', Bx.cs, Sn.cs]) (by repeat (first | exact Swap.here | apply Swap.there)) (by rfl) ?_
        refine Jl.nil ?_
        refine Jq.thenN ?_
        refine Jc.seq ?_
        refine Jc.drawn [0, 1, 0, 0, 8, 0, 0, 64, 0, 7, 519, 1543, 3647, 7743, 15935, 32767, 65535, 131071] ([], []) [⟨[(0, false), (1, false), (2, false), (3, false), (4, false), (5, false), (6, false), (7, false), (8, false), (9, false), (10, false)], [], 11⟩, ⟨[(12, false), (13, false)], [], 14⟩, ⟨[(15, false), (16, false)], [], 17⟩] tmx (by kernel_rfl) ?_
        refine Dh.JH.cons ?_
        refine Dh.JB.pv rfl trivial (fun _ => PR.fieldAddr rfl tfl24_0) ?_
        refine Dh.JB.rd [.blk _ _ _] rfl trivial (by repeat (first | exact Take.nil | apply Take.cons (by repeat (first | exact Del.here | apply Del.there)))) (fun _ => PR.load1 rfl tsh22 Has.here (by rfl)) ?_
        refine Dh.JB.pv rfl trivial (fun _ => PR.move rfl) ?_
        refine Dh.JB.pv rfl trivial (fun _ => PR.fieldAddr rfl tfl24_0) ?_
        refine Dh.JB.rd [.blk _ _ _] rfl trivial (by repeat (first | exact Take.nil | apply Take.cons (by repeat (first | exact Del.here | apply Del.there)))) (fun _ => PR.load1 rfl tsh22 Has.here (by rfl)) ?_
        refine Dh.JB.pv rfl trivial (fun _ => PR.move rfl) ?_
        refine Dh.JB.pv rfl trivial (fun _ => PR.fieldAddr rfl tfl24_0) ?_
        refine Dh.JB.rd [.blk _ _ _] rfl trivial (by repeat (first | exact Take.nil | apply Take.cons (by repeat (first | exact Del.here | apply Del.there)))) (fun _ => PR.load1 rfl tsh22 Has.here (by rfl)) ?_
        refine Dh.JB.pv rfl trivial (fun _ => PR.move rfl) ?_
        refine Dh.JB.rd [.row _ _ _ _ _] rfl trivial (by repeat (first | exact Take.nil | apply Take.cons (by repeat (first | exact Del.here | apply Del.there)))) (fun _ => PR.idxO i rfl rfl tsl22 Del.here (by decide) rfl hi) ?_
        refine Dh.JB.rd [.row _ _ _ _ _] rfl trivial (by repeat (first | exact Take.nil | apply Take.cons (by repeat (first | exact Del.here | apply Del.there)))) (fun _ => PR.fieldAddrO rfl tfl33_6 Del.here (by rw [bxsV_len]; omega)) ?_
        refine Dh.JB.nil ?_
        refine Dh.JL.nil ?_
        refine Dh.JE.mk rfl (fun _ h => by cases h) (fun C5_11 => ?_)
        refine Jl.storeO rfl tsh4 rfl (by rfl) (by repeat (first | exact Swap.here | apply Swap.there)) (by rw [bxsV_len]; omega) (bxs_set hi 6 (by omega) _ { c.bs[i] with gone := true } rfl) ?_
        refine Jl.nil ?_
        refine Dh.Jq.segN (by repeat (first | exact Dh.FExt.refl | apply Dh.FExt.cons | apply Dh.FExt.app)) ?_ (by repeat (first | exact Dh.KeepL.nil | apply Dh.KeepL.anc (by rfl) | apply Dh.KeepL.keep (by repeat (first | exact Take.nil | apply Take.cons (by repeat (first | exact Del.here | apply Del.there))))))
        refine Dh.JH.cons ?_
        refine Dh.JB.rd [.row _ _ _ _ _] rfl trivial (by repeat (first | exact Take.nil | apply Take.cons (by repeat (first | exact Del.here | apply Del.there)))) (fun _ => PR.idxO i rfl rfl tsl22 Del.here (by decide) rfl hi) ?_
        refine Dh.JB.rd [.row _ _ _ _ _] rfl trivial (by repeat (first | exact Take.nil | apply Take.cons (by repeat (first | exact Del.here | apply Del.there)))) (fun _ => PR.fieldAddrO rfl tfl33_5 Del.here (by rw [bxsV_len, List.length_set]; omega)) ?_
        refine Dh.JB.nil ?_
        refine Dh.JL.nil ?_
        refine Dh.JE.mk rfl (fun _ h => by cases h) (fun C5_14 => ?_)
        refine Jl.storeO rfl tsh4 rfl (by rfl) (by repeat (first | exact Swap.here | apply Swap.there)) (by rw [bxsV_len, List.length_set]; omega) (bxs_set2 hi { c.bs[i] with gone := true } 5 (by omega) _ { c.bs[i] with gone := true, on := false } rfl) ?_
        refine Jl.nil ?_
        refine Dh.Jq.segN (by repeat (first | exact Dh.FExt.refl | apply Dh.FExt.cons | apply Dh.FExt.app)) ?_ (by repeat (first | exact Dh.KeepL.nil | apply Dh.KeepL.anc (by rfl) | apply Dh.KeepL.keep (by repeat (first | exact Take.nil | apply Take.cons (by repeat (first | exact Del.here | apply Del.there))))))
        refine Dh.JH.cons ?_
        refine Dh.JB.rd [.row _ _ _ _ _] rfl trivial (by repeat (first | exact Take.nil | apply Take.cons (by repeat (first | exact Del.here | apply Del.there)))) (fun _ => PR.idxO i rfl rfl tsl22 Del.here (by decide) rfl hi) ?_
        refine Dh.JB.rd [.row _ _ _ _ _] rfl trivial (by repeat (first | exact Take.nil | apply Take.cons (by repeat (first | exact Del.here | apply Del.there)))) (fun _ => PR.fieldAddrO rfl tfl33_8 Del.here (by rw [bxsV_len, List.length_set]; omega)) ?_
        refine Dh.JB.nil ?_
        refine Dh.JL.nil ?_
        refine Dh.JE.mk rfl (fun _ h => by cases h) (fun C5_17 => ?_)
        refine Jl.storeO rfl tsh5 rfl (by rfl) (by repeat (first | exact Swap.here | apply Swap.there)) (by rw [bxsV_len, List.length_set]; omega) (bxs_set2 hi { c.bs[i] with gone := true, on := false } 8 (by omega) _ c.bs[i].rip rfl) ?_
        refine Jl.nil ?_
        refine Dh.Jq.segN (by repeat (first | exact Dh.FExt.refl | apply Dh.FExt.cons | apply Dh.FExt.app)) ?_ (by repeat (first | exact Dh.KeepL.nil | apply Dh.KeepL.anc (by rfl) | apply Dh.KeepL.keep (by repeat (first | exact Take.nil | apply Take.cons (by repeat (first | exact Del.here | apply Del.there))))))
        refine Dh.JH.nil ?_
        refine Dh.JB.nil ?_
        refine Dh.JL.nil ?_
        refine Jq.thenN ?_
        refine Jc.seq ?_
        refine Jc.region ?_
        refine Jl.pv (PR.assign rfl) ?_
        refine Jl.nil ?_
        refine Jq.thenN ?_
        refine Jc.seq ?_
        refine Jc.region ?_
        refine Jl.pv (PR.loadW rfl tsh24 (by repeat (first | exact Has.here | apply Has.there)) (by rfl)) ?_
        refine Jl.call (all_at hw hal rfl) en14 (by rfl) (by repeat (first | exact Take.nil | apply Take.cons (by repeat (first | exact Del.here | apply Del.there)))) (by repeat (first | exact trivial | refine And.intro (by repeat (first | exact Mem.here | apply Mem.there)) ?_)) ?_
        rintro ⟨A54, c54⟩
        refine Jl.sealR (by repeat (first | exact Del.here | apply Del.there)) ?_
        refine Jl.pv (PR.assign rfl) ?_
        refine Jl.nil ?_
        refine Jq.thenN ?_
        refine Jc.seq ?_
        refine Jc.seq ?_
        refine Jc.region ?_
        refine Jl.pv (PR.assign rfl) ?_
        refine Jl.nil ?_
        refine Jq.thenN ?_
        refine Jc.block ?_
        refine Jc.nilRow 35 7 ?_
        refine Jc.lessR (rs := [.row 35 7 (.slice none 0 0) 0 (snsV []), d.row (A37, c37), .blk b5 24 (d.cs (A37, c37)), .blk b2 24 (c.cs x)]) (by rw [hd]; simp only [Cl.row, Cl.cs, List.length_set]; exact (by repeat (first | exact Take.nil | apply Take.cons (by repeat (first | exact Del.here | apply Del.there))))) ?_
        refine Jc.loop (σ := { k : Nat // k ≤ al.length } × AdC) (fun z => [(8, .int .i64 (z.1.1 : Int)), (7, .slice A54 al.length c54), (6, .slice z.2.1 (rst qb al z.1.1).length z.2.2), (5, .pointer (some ⟨b5, 0, none⟩)), (2, .pointer (some ⟨b2, 0, none⟩)), (1, .int .i64 (i : Int))]) (fun z => [.row 35 7 (.slice z.2.1 (rst qb al z.1.1).length z.2.2) (rst qb al z.1.1).length (snsV (rst qb al z.1.1)), d.row (A37, c37), .blk b5 24 (d.cs (A37, c37)), .blk b2 24 (c.cs x)]) (fun _ => [.rd A54 (snsV al), .rd x.1 (bxsV c.bs)]) (fun z => al.length - z.1.1) ⟨⟨0, Nat.zero_le _⟩, none, 0⟩ (by repeat (first | exact trivial | refine And.intro rfl ?_)) rfl (by repeat (first | exact trivial | refine And.intro (by repeat (first | exact Mem.here | apply Mem.there)) ?_)) ?_
        rintro ⟨⟨k, hk⟩, A', c'⟩
        show Jc _ _ _ _ _ _ [(8, Value.int .i64 (k : Int)), (7, .slice A54 al.length c54), (6, .slice A' (rst qb al k).length c'), (5, .pointer (some ⟨b5, 0, none⟩)), (2, .pointer (some ⟨b2, 0, none⟩)), (1, .int .i64 (i : Int))] [.row 35 7 (.slice A' (rst qb al k).length c') (rst qb al k).length (snsV (rst qb al k)), d.row (A37, c37), .blk b5 24 (d.cs (A37, c37)), .blk b2 24 (c.cs x)] [.rd A54 (snsV al), .rd x.1 (bxsV c.bs)]
        refine Jc.seq ?_
        refine Jc.seq ?_
        refine Jc.region ?_
        refine Jl.pv (PR.move rfl) ?_
        refine Jl.pv (PR.move rfl) ?_
        refine Jl.pv (PR.len rfl tsl28) ?_
        refine Jl.pv (PR.lss _ rfl rfl rfl) ?_
        refine Jl.nil ?_
        refine Jq.thenN ?_
        refine Jc.cond rfl (fun h1 => ?_) (fun h1 => ?_)
        · try replace h1 := of_decide_eq_true h1
          have hlt : k < al.length := by omega
          refine Jc.skip ?_
          refine Jq.thenN ?_
          refine Jc.seq ?_
          refine Jc.block ?_
          refine Jc.seq ?_
          refine Jc.drawn [0, 0, 3, 7, 15, 0, 32, 0, 224, 480, 992, 2047] ([(0, false), (1, false), (2, false), (3, false), (4, false), (5, false), (6, false), (7, false), (8, false), (9, false), (10, false), (11, false)], []) [] tmx (by kernel_rfl) ?_
          refine Dh.JH.nil ?_
          refine Dh.JB.pv rfl trivial (fun _ => PR.move rfl) ?_
          refine Dh.JB.pv rfl trivial (fun _ => PR.move rfl) ?_
          refine Dh.JB.pv rfl trivial (fun _ => PR.idx k rfl rfl tsl28 (by repeat (first | exact Mem.here | apply Mem.there)) (snsV_len _) (by omega) rfl hlt) ?_
          refine Dh.JB.pv rfl trivial (fun _ => PR.fieldAddrR rfl tfl35_0 (by repeat (first | exact Mem.here | apply Mem.there)) (by rw [snsV_len]; omega)) ?_
          refine Dh.JB.pv rfl trivial (fun _ => PR.loadR rfl tsh3 (by repeat (first | exact Mem.here | apply Mem.there)) (sns_f hlt 0 rfl)) ?_
          refine Dh.JB.pv rfl trivial (fun _ => PR.fieldAddr rfl tfl24_0) ?_
          refine Dh.JB.rd [.blk _ _ _] rfl trivial (by repeat (first | exact Take.nil | apply Take.cons (by repeat (first | exact Del.here | apply Del.there)))) (fun _ => PR.load1 rfl tsh22 Has.here (by rfl)) ?_
          refine Dh.JB.pv rfl trivial (fun _ => PR.move rfl) ?_
          refine Dh.JB.pv rfl trivial (fun _ => PR.idx i rfl rfl tsl22 (by repeat (first | exact Mem.here | apply Mem.there)) (bxsV_len _) (by omega) rfl hi) ?_
          refine Dh.JB.pv rfl trivial (fun _ => PR.fieldAddrR rfl tfl33_0 (by repeat (first | exact Mem.here | apply Mem.there)) (by rw [bxsV_len]; omega)) ?_
          refine Dh.JB.pv rfl trivial (fun _ => PR.loadR rfl tsh3 (by repeat (first | exact Mem.here | apply Mem.there)) (bxs_f hi 0 rfl)) ?_
          refine Dh.JB.pv rfl trivial (fun _ => PR.neq _ rfl rfl rfl) ?_
          refine Dh.JB.nil ?_
          refine Dh.JL.nil ?_
          refine Jq.thenN ?_
          refine Jc.cond rfl (fun h2 => ?_) (fun h2 => ?_)
          · try replace h2 := of_decide_eq_true h2
            have hst : snsV (rst qb al (k + 1)) = snsV (rst qb al k) ++ al[k].cs := by rw [rst_yes hlt (by rw [hqb]; exact decide_eq_true h2), snsV_app]; simp [snsV]
            have hsn : (rst qb al (k + 1)).length = (rst qb al k).length + 1 := by rw [rst_yes hlt (by rw [hqb]; exact decide_eq_true h2)]; simp
            have hsk := rst_le qb al (k + 1)
            refine Jc.region ?_
            refine Jl.pv (PR.move rfl) ?_
            refine Jl.pv (PR.move rfl) ?_
            refine Jl.pv (PR.move rfl) ?_
            refine Jl.pv (PR.idx k rfl rfl tsl28 (by repeat (first | exact Mem.here | apply Mem.there)) (snsV_len _) (by omega) rfl hlt) ?_
            refine Jl.pv (PR.loadRA rfl tsh35 (by repeat (first | exact Mem.here | apply Mem.there)) (by decide) (sns_at hlt)) ?_
            refine Jl.buildSlice (by rfl) tsl28 tzr28_1 (by rfl) (by rfl) ?_
            intro b78
            refine Jl.seal (by repeat (first | exact Del.here | apply Del.there)) ?_
            refine Jl.append (rst qb al (k + 1)).length (snsV (rst qb al (k + 1))) rfl rfl rfl tsl28 tze35 (by rfl) (by decide) tby35 (fun _ _ => (by repeat (first | exact Swap.here | apply Swap.there))) (by repeat (first | exact Mem.here | apply Mem.there)) hsn.symm hst.symm rfl (by simp [Value.oneCell', Sn.cs]) (by omega) (by decide) ?_
            intro A79 c79
            refine Jl.pv (PR.assign rfl) ?_
            refine Jl.nil ?_
            refine Jq.blkN ?_
            refine Jq.thenN ?_
            refine Jc.region ?_
            refine Jl.pv (PR.move rfl) ?_
            refine Jl.pv (PR.add ((k + 1 : Nat) : Int) rfl rfl (by rw [w64 (by omega) (by omega)]; rfl)) ?_
            refine Jl.pv (PR.assign rfl) ?_
            refine Jl.nil ?_
            exact Jq.againT ⟨⟨k + 1, hlt⟩, A79, c79⟩ (by simp only; omega) (by repeat (first | exact trivial | refine And.intro rfl ?_)) (by repeat (first | exact Take.nil | apply Take.cons (by repeat (first | exact Del.here | apply Del.there)))) (by repeat (first | exact trivial | refine And.intro (by repeat (first | exact Mem.here | apply Mem.there)) ?_))
          · try replace h2 := of_decide_eq_false h2
            refine Jc.skip ?_
            refine Jq.blkN ?_
            refine Jq.thenN ?_
            refine Jc.region ?_
            refine Jl.pv (PR.move rfl) ?_
            refine Jl.pv (PR.add ((k + 1 : Nat) : Int) rfl rfl (by rw [w64 (by omega) (by omega)]; rfl)) ?_
            refine Jl.pv (PR.assign rfl) ?_
            refine Jl.nil ?_
            have hsn := rst_no (q := qb) hlt (by rw [hqb]; exact decide_eq_false h2)
            rw [← hsn]
            exact Jq.againT ⟨⟨k + 1, hlt⟩, A', c'⟩ (by simp only; omega) (by repeat (first | exact trivial | refine And.intro rfl ?_)) (by repeat (first | exact Take.nil | apply Take.cons (by repeat (first | exact Del.here | apply Del.there)))) (by repeat (first | exact trivial | refine And.intro (by repeat (first | exact Mem.here | apply Mem.there)) ?_))
        · try replace h1 := of_decide_eq_false h1
          obtain rfl : k = al.length := by omega
          refine Jc.exit ?_
          refine Jq.thenX ?_
          refine Jq.thenX ?_
          refine Jq.blkX ?_
          refine Jq.thenN ?_
          refine Jc.seq ?_
          refine Jc.region ?_
          refine Jl.pv (PR.loadW rfl tsh24 (by repeat (first | exact Has.here | apply Has.there)) (by rfl)) ?_
          refine Jl.sealR (by repeat (first | exact Del.here | apply Del.there)) ?_
          refine Jl.sealR (e := 33) (s := 11) (xs := bxsV d.bs) (by repeat (first | exact Del.here | apply Del.there)) ?_
          refine Jl.call (all_at (x := (A37, c37)) hdo.wf hds rfl) en14 (by rfl) (by repeat (first | exact Take.nil | apply Take.cons (by repeat (first | exact Del.here | apply Del.there)))) (by repeat (first | exact trivial | refine And.intro (by repeat (first | exact Mem.here | apply Mem.there)) ?_)) ?_
          rintro ⟨A81, c81⟩
          refine Jl.sealR (by repeat (first | exact Del.here | apply Del.there)) ?_
          refine Jl.pv (PR.move rfl) ?_
          refine Jl.call (psame_eq (a := rst qb al al.length) (b := rst qb al al.length) (x := (A81, c81)) (y := (A', c')) rfl rfl rfl (by omega)) en13 (by rfl) (by repeat (first | exact Take.nil | apply Take.cons (by repeat (first | exact Del.here | apply Del.there)))) (by repeat (first | exact trivial | refine And.intro (by repeat (first | exact Mem.here | apply Mem.there)) ?_)) ?_
          rintro ⟨⟩
          refine Jl.as (.bool true) (congrArg Value.bool rfl) ?_
          refine Jl.pv (PR.move rfl) ?_
          refine Jl.on rfl rfl ?_
          refine Jl.call pgwakes_ct en9 (by rfl) (by repeat (first | exact Take.nil | apply Take.cons (by repeat (first | exact Del.here | apply Del.there)))) (by repeat (first | exact trivial | refine And.intro (by repeat (first | exact Mem.here | apply Mem.there)) ?_)) ?_
          rintro ⟨⟩
          refine Jl.pv (PR.pickT rfl rfl) ?_
          refine Jl.pv (PR.assign rfl) ?_
          refine Jl.nil ?_
          refine Jq.thenN ?_
          refine Jc.ret ?_
          exact Jq.fin () (.inl rfl) rfl (RetVs.tmp rfl RetVs.nil) rfl (by repeat (first | exact Take.nil | apply Take.cons (by repeat (first | exact Del.here | apply Del.there)))) (by repeat (first | exact trivial | refine And.intro (by repeat (first | exact Mem.here | apply Mem.there)) ?_))
end Go.Proofs.Ytoackajhekdckaa
