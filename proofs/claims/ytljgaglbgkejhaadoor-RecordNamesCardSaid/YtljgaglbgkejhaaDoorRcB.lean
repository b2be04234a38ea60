/-
Contracts of herd/record: Name, All.
-/
import Derived.Test.YtljgaglbgkejhaaDoorRcA
namespace Go.Proofs.YtljgaglbgkejhaaDoor
set_option linter.unusedVariables false
open Go.RowKit
attribute [local irreducible] Res.blk Res.row Fact.rd
abbrev strV (l : List UInt8) : Value := .string ⟨l.toArray⟩
/-- The table of names. -/
def Fact.names (b : Nat) : Fact := ⟨fun X W => (Fact.rd (some ⟨1, 0, none⟩) [.map (some b)]).p X W ∧ (b < W.heap.size ∧ ¬ X b) ∧ ∃ o, W.heap[b]? = some o ∧ ∀ W' : World, W'.heap[b]? = some o → ∀ k : UInt8, (Instr.lookup 53 (.map (some b)) (.int .u8 k.toNat) false).run Tryd.prog W' = .ok (strV (nameOf k.toNat)) W',
  fun X X' W W' h hf hx => ⟨(Fact.rd (some ⟨1, 0, none⟩) [.map (some b)]).fr X X' W W' h.1 hf hx, ⟨Nat.lt_of_lt_of_le h.2.1.1 hf.size, fun hb => (hx _ hb).elim h.2.1.2 fun h5 => by have := h.2.1.1; omega⟩, by
    obtain ⟨o, h1, h2⟩ := h.2.2
    exact ⟨o, (hf.block b h.2.1.1 h.2.1.2).trans h1, h2⟩⟩⟩
theorem name_ct (k : UInt8) (b : Nat) : Ct Tryd.prog 18 [.int .u8 k.toNat] [] [.names b] (fun _ : Unit => strV (nameOf k.toNat)) (fun _ => []) (fun _ => []) := by
  refine Ct.of _ Tryd.func18 Tryd.ntmps18 rfl rfl (fun X W => ?_)
  refine Jc.fact (.rd (some ⟨1, 0, none⟩) [.map (some b)]) (φ := .names b) (by repeat (first | exact Mem.here | apply Mem.there)) (fun X W h => h.1) ?_
  refine Jc.seq ?_
  refine Jc.region ?_
  refine Jl.pv (PR.assign rfl) ?_
  refine Jl.nil ?_
  refine Jq.thenN ?_
  refine Jc.seq ?_
  refine Jc.region ?_
  refine Jl.pv (PR.loadG rfl tsh53 (by repeat (first | exact Mem.here | apply Mem.there)) (by rfl)) ?_
  refine Jl.pv (PR.move rfl) ?_
  refine Jl.pv (PR.lookupF (φ := (.names b)) (by repeat (first | exact Mem.here | apply Mem.there)) rfl rfl (fun X W h => by obtain ⟨o, h1, h2⟩ := h.2.2; exact h2 W h1 k)) ?_
  refine Jl.pv (PR.assign rfl) ?_
  refine Jl.nil ?_
  refine Jq.thenN ?_
  refine Jc.ret ?_
  exact Jq.fin () (.inl rfl) rfl (RetVs.tmp rfl RetVs.nil) rfl (by repeat (first | exact Take.nil | apply Take.cons (by repeat (first | exact Del.here | apply Del.there)))) (by repeat (first | exact trivial | refine And.intro (by repeat (first | exact Mem.here | apply Mem.there)) ?_))
theorem rindex_ct (q : Rc → Bool) (L : Option Addr) (cL : Nat) (zs : Rcs) (m : Nat → AdC) (hn : zs.length ≤ 1000000) (g : FuncId) (hg : ∀ z ∈ zs, Ct Tryd.prog g [z.2.v z.1] [] [.rd z.1.1 (i64s z.2.l), .many m] (fun _ : Unit => .bool (q z.2)) (fun _ => []) (fun _ => [])) (hen : ∀ args w, (callFunc g args).run Tryd.prog w = .ok (.enter g args) w) :
    Ct Tryd.prog 45 [.slice L zs.length cL, .func (.func g) #[] #[]] [] [.rd L (rcsV zs), .rcs zs, .many m] (fun _ : Unit => .int .i64 (if zs.any (fun z => q z.2) then (zs.findIdx (fun z => q z.2) : Int) else -1)) (fun _ => []) (fun _ => []) := by
  refine Ct.of _ Tryd.func45 Tryd.ntmps45 rfl rfl (fun X W => ?_)
  refine Jc.seq ?_
  refine Jc.region ?_
  refine Jl.pv (PR.assign rfl) ?_
  refine Jl.nil ?_
  refine Jq.thenN ?_
  refine Jc.seq ?_
  refine Jc.seq ?_
  refine Jc.region ?_
  refine Jl.pv (PR.move rfl) ?_
  refine Jl.pv (PR.len rfl tsl25) ?_
  refine Jl.pv (PR.move rfl) ?_
  refine Jl.nil ?_
  refine Jq.thenN ?_
  refine Jc.block ?_
  refine Jc.loop (σ := { k : Nat // k ≤ zs.length ∧ ∀ j, (h : j < k) → (h' : j < zs.length) → q zs[j].2 = false }) (fun s => [(8, .int .i64 (s.1 : Int)), (7, .int .i64 (zs.length : Int)), (0, .slice L zs.length cL), (1, .func (.func g) #[] #[])]) (fun _ => []) (fun _ => [.rd L (rcsV zs), .rcs zs, .many m]) (fun s => zs.length - s.1) ⟨0, Nat.zero_le _, fun _ h _ => by omega⟩ (by repeat (first | exact trivial | refine And.intro rfl ?_)) rfl (by repeat (first | exact trivial | refine And.intro (by repeat (first | exact Mem.here | apply Mem.there)) ?_)) ?_
  rintro ⟨k, hk, hq⟩
  show Jc _ _ _ _ _ _ [(8, Value.int .i64 (k : Int)), (7, Value.int .i64 (zs.length : Int)), (0, .slice L zs.length cL), (1, .func (.func g) #[] #[])] [] [.rd L (rcsV zs), .rcs zs, .many m]
  refine Jc.seq ?_
  refine Jc.region ?_
  refine Jl.pv (PR.lss _ rfl rfl rfl) ?_
  refine Jl.nil ?_
  refine Jq.thenN ?_
  refine Jc.seq ?_
  refine Jc.cond rfl (fun hlt => ?_) (fun hlt => ?_)
  · try replace hlt := of_decide_eq_true hlt
    have hlt' : k < zs.length := by omega
    refine Jc.fact (.rd zs[k].1.1 (i64s zs[k].2.l)) (φ := .rcs zs) (by repeat (first | exact Mem.here | apply Mem.there)) (fun X W h => h _ (List.getElem_mem _)) ?_
    refine Jc.skip ?_
    refine Jq.thenN ?_
    refine Jc.seq ?_
    refine Jc.block ?_
    refine Jc.seq ?_
    refine Jc.region ?_
    refine Jl.pv (PR.move rfl) ?_
    refine Jl.pv (PR.assign rfl) ?_
    refine Jl.nil ?_
    refine Jq.thenN ?_
    refine Jc.seq ?_
    refine Jc.region ?_
    refine Jl.pv (PR.move rfl) ?_
    refine Jl.pv (PR.move rfl) ?_
    refine Jl.pv (PR.move rfl) ?_
    refine Jl.pv (PR.idx k rfl rfl tsl25 (by repeat (first | exact Mem.here | apply Mem.there)) (rcsV_len zs) (by omega) rfl hlt') ?_
    refine Jl.pv (PR.loadRA rfl tsh24 (by repeat (first | exact Mem.here | apply Mem.there)) (by decide) (rcs_at hlt')) ?_
    refine Jl.callv (hg zs[k] (List.getElem_mem _)) hen rfl (by rfl) (by rfl) (by repeat (first | exact Take.nil | apply Take.cons (by repeat (first | exact Del.here | apply Del.there)))) (by repeat (first | exact trivial | refine And.intro (by repeat (first | exact Mem.here | apply Mem.there)) ?_)) ?_
    rintro ⟨⟩
    refine Jl.nil ?_
    refine Jq.thenN ?_
    refine Jc.cond rfl (fun hqk => ?_) (fun hqk => ?_)
    · try replace hqk := of_decide_eq_true hqk
      refine Jc.seq ?_
      refine Jc.region ?_
      refine Jl.pv (PR.move rfl) ?_
      refine Jl.pv (PR.assign rfl) ?_
      refine Jl.nil ?_
      refine Jq.thenN ?_
      refine Jc.ret ?_
      refine Jq.blkR ?_
      refine Jq.thenR ?_
      refine Jq.thenR ?_
      refine Jq.blkR ?_
      refine Jq.thenR ?_
      have ha : zs.any (fun z => q z.2) = true := List.any_eq_true.2 ⟨zs[k], List.getElem_mem _, hqk⟩
      have hi : zs.findIdx (fun z => q z.2) = k := by rw [List.findIdx_eq hlt']; exact ⟨hqk, fun j hj => hq j hj (by omega)⟩
      exact Jq.fin () (.inl rfl) rfl (RetVs.tmp rfl RetVs.nil) (by rw [if_pos ha, hi]; rfl) (by repeat (first | exact Take.nil | apply Take.cons (by repeat (first | exact Del.here | apply Del.there)))) (by repeat (first | exact trivial | refine And.intro (by repeat (first | exact Mem.here | apply Mem.there)) ?_))
    · try replace hqk := of_decide_eq_false hqk
      refine Jc.skip ?_
      refine Jq.blkN ?_
      refine Jq.thenN ?_
      refine Jc.region ?_
      refine Jl.pv (PR.add ((k + 1 : Nat) : Int) rfl rfl (by rw [w64 (by omega) (by omega)]; rfl)) ?_
      refine Jl.pv (PR.move rfl) ?_
      refine Jl.nil ?_
      refine Jq.again ⟨k + 1, hlt', fun j h h' => ?_⟩ (by simp only; omega) (by repeat (first | exact trivial | refine And.intro rfl ?_)) rfl (by repeat (first | exact trivial | refine And.intro (by repeat (first | exact Mem.here | apply Mem.there)) ?_))
      rcases Nat.lt_or_ge j k with h1 | h1
      · exact hq j h1 h'
      · obtain rfl : j = k := by omega
        exact hqk
  · try replace hlt := of_decide_eq_false hlt
    refine Jc.exit ?_
    refine Jq.thenX ?_
    refine Jq.thenX ?_
    refine Jq.blkX ?_
    refine Jq.thenN ?_
    refine Jc.seq ?_
    refine Jc.region ?_
    refine Jl.pv (PR.assign rfl) ?_
    refine Jl.nil ?_
    refine Jq.thenN ?_
    refine Jc.ret ?_
    have ha : ¬ zs.any (fun z => q z.2) = true := fun h => by
      obtain ⟨x, hx, hxq⟩ := List.any_eq_true.1 h
      obtain ⟨j, hj, rfl⟩ := List.mem_iff_getElem.1 hx
      rw [hq j (by omega) hj] at hxq; cases hxq
    exact Jq.fin () (.inl rfl) rfl (RetVs.tmp rfl RetVs.nil) (by rw [if_neg ha]; rfl) (by repeat (first | exact Take.nil | apply Take.cons (by repeat (first | exact Del.here | apply Del.there)))) (by repeat (first | exact trivial | refine And.intro (by repeat (first | exact Mem.here | apply Mem.there)) ?_))
theorem rcontains_ct (q : Rc → Bool) (L : Option Addr) (cL : Nat) (zs : Rcs) (m : Nat → AdC) (hn : zs.length ≤ 1000000) (g : FuncId) (hg : ∀ z ∈ zs, Ct Tryd.prog g [z.2.v z.1] [] [.rd z.1.1 (i64s z.2.l), .many m] (fun _ : Unit => .bool (q z.2)) (fun _ => []) (fun _ => [])) (hen : ∀ args w, (callFunc g args).run Tryd.prog w = .ok (.enter g args) w) :
    Ct Tryd.prog 33 [.slice L zs.length cL, .func (.func g) #[] #[]] [] [.rd L (rcsV zs), .rcs zs, .many m] (fun _ : Unit => .bool (zs.any (fun z => q z.2))) (fun _ => []) (fun _ => []) := by
  refine Ct.of _ Tryd.func33 Tryd.ntmps33 rfl rfl (fun X W => ?_)
  refine Jc.seq ?_
  refine Jc.region ?_
  refine Jl.pv (PR.assign rfl) ?_
  refine Jl.nil ?_
  refine Jq.thenN ?_
  refine Jc.seq ?_
  refine Jc.region ?_
  refine Jl.pv (PR.move rfl) ?_
  refine Jl.pv (PR.move rfl) ?_
  refine Jl.call (rindex_ct q L cL zs m hn g hg hen) en45 (by rfl) (by repeat (first | exact Take.nil | apply Take.cons (by repeat (first | exact Del.here | apply Del.there)))) (by repeat (first | exact trivial | refine And.intro (by repeat (first | exact Mem.here | apply Mem.there)) ?_)) ?_
  rintro ⟨⟩
  refine Jl.pv (PR.geq (zs.any (fun z => q z.2)) rfl rfl (by split <;> rename_i h <;> simp [h])) ?_
  refine Jl.pv (PR.assign rfl) ?_
  refine Jl.nil ?_
  refine Jq.thenN ?_
  refine Jc.ret ?_
  exact Jq.fin () (.inl rfl) rfl (RetVs.tmp rfl RetVs.nil) rfl (by repeat (first | exact Take.nil | apply Take.cons (by repeat (first | exact Del.here | apply Del.there)))) (by repeat (first | exact trivial | refine And.intro (by repeat (first | exact Mem.here | apply Mem.there)) ?_))
theorem all1_ct (r : Rc) (x : AdC) (m : Nat → AdC) (hn : r.l.length ≤ 1000000) : Ct Tryd.prog 34 [r.v x] [] [.rd x.1 (i64s r.l), .many m] (fun _ : Unit => .bool (!r.ok)) (fun _ => []) (fun _ => []) := by
  refine Ct.of _ Tryd.func34 Tryd.ntmps34 rfl rfl (fun X W => ?_)
  refine Jc.seq ?_
  refine Jc.region ?_
  refine Jl.box rfl (by rfl) ?_
  intro b1
  refine Jl.pv (PR.assign rfl) ?_
  refine Jl.nil ?_
  refine Jq.thenN ?_
  refine Jc.seq ?_
  refine Jc.region ?_
  refine Jl.pv (PR.loadW rfl tsh24 (by repeat (first | exact Has.here | apply Has.there)) (by rfl)) ?_
  refine Jl.call (right_ct r x m hn) en16 (by rfl) (by repeat (first | exact Take.nil | apply Take.cons (by repeat (first | exact Del.here | apply Del.there)))) (by repeat (first | exact trivial | refine And.intro (by repeat (first | exact Mem.here | apply Mem.there)) ?_)) ?_
  rintro ⟨⟩
  refine Jl.pv (PR.not rfl) ?_
  refine Jl.pv (PR.assign rfl) ?_
  refine Jl.nil ?_
  refine Jq.thenN ?_
  refine Jc.ret ?_
  exact Jq.fin () (.inl rfl) rfl (RetVs.tmp rfl RetVs.nil) rfl (by repeat (first | exact Take.nil | apply Take.cons (by repeat (first | exact Del.here | apply Del.there)))) (by repeat (first | exact trivial | refine And.intro (by repeat (first | exact Mem.here | apply Mem.there)) ?_))
def okAll (zs : Rcs) : Bool := zs.all fun z => z.2.ok
theorem okAll_any (zs : Rcs) : (!zs.any fun z => !z.2.ok) = okAll zs := by
  induction zs with
  | nil => rfl
  | cons z zs ih => simp only [okAll, List.any_cons, List.all_cons, Bool.not_or, Bool.not_not] at ih ⊢; rw [ih]
theorem all_ct (L : Option Addr) (cL : Nat) (zs : Rcs) (m : Nat → AdC) (hn : zs.length ≤ 1000000) (hl : ∀ z ∈ zs, z.2.l.length ≤ 1000000) : Ct Tryd.prog 21 [.slice L zs.length cL] [] [.rd L (rcsV zs), .rcs zs, .many m] (fun _ : Unit => .bool (okAll zs)) (fun _ => []) (fun _ => []) := by
  refine Ct.of _ Tryd.func21 Tryd.ntmps21 rfl rfl (fun X W => ?_)
  refine Jc.seq ?_
  refine Jc.region ?_
  refine Jl.pv (PR.assign rfl) ?_
  refine Jl.nil ?_
  refine Jq.thenN ?_
  refine Jc.seq ?_
  refine Jc.region ?_
  refine Jl.pv (PR.move rfl) ?_
  refine Jl.call (rcontains_ct (fun r => !r.ok) L cL zs m hn 34 (fun z hz => all1_ct z.2 z.1 m (hl z hz)) en34) en33 (by rfl) (by repeat (first | exact Take.nil | apply Take.cons (by repeat (first | exact Del.here | apply Del.there)))) (by repeat (first | exact trivial | refine And.intro (by repeat (first | exact Mem.here | apply Mem.there)) ?_)) ?_
  rintro ⟨⟩
  refine Jl.pv (PR.not rfl) ?_
  refine Jl.pv (PR.assign rfl) ?_
  refine Jl.nil ?_
  refine Jq.thenN ?_
  refine Jc.ret ?_
  exact Jq.fin () (.inl rfl) rfl (RetVs.tmp rfl RetVs.nil) (congrArg Value.bool (okAll_any zs).symm) (by repeat (first | exact Take.nil | apply Take.cons (by repeat (first | exact Del.here | apply Del.there)))) (by repeat (first | exact trivial | refine And.intro (by repeat (first | exact Mem.here | apply Mem.there)) ?_))
end Go.Proofs.YtljgaglbgkejhaaDoor
