/-
Events that come in; what the package-level variable holds.
-/
import Derived.Test.YtakkoandmkomdaaDoorOpenY
import Derived.Test.YtakkoandmkomdaaDoorClO
import Derived.Test.YtakkoandmkomdaaDoorEvB
import Derived.Test.YtakkoandmkomdaaDoorRows
namespace Go.Proofs.YtakkoandmkomdaaDoor
set_option linter.unusedVariables false
open Go.RowKit Go.ChangeShapes
theorem opens_ev : Opens Tryd.prog 26 (fun e : Ev => e.cs) (fun _ => []) (fun _ => True) :=
  have i := Opens.int Tryd.underlying3
  (Opens.struct Tryd.underlying26 (by kernel_rfl) (OpensF.cons (s := 1) (by kernel_rfl) rfl (Opens.u8 Tryd.underlying5) (OpensF.cons (s := 1) (by kernel_rfl) rfl i (OpensF.cons (s := 1) (by kernel_rfl) rfl i OpensF.nil)))).map
    (fun (d : UInt8 × Int × Int × Unit) => (⟨d.1, d.2.1, d.2.2.1⟩ : Ev)) (fun _ _ => rfl) (fun _ _ _ _ ψ h => by simp at h) (fun _ _ => trivial)
theorem open_ev {H : Type} {enc : TypeId × Value → H} {w : World} {r : Reach} {b0 : Nat} {v : Value} {y : DataW H} {p : List MemPlace} (hv : Value.okWide Tryd.prog w r b0 26 v) (h : DataW.Trod enc Tryd.prog w 0 (fun _ => true) true 26 v y p) : ∃ e : Ev, v = e.v := by
  obtain ⟨e, h1, _⟩ := open_struct Tryd.underlying26 opens_ev hv h
  exact ⟨e, h1⟩
theorem open_evs {H : Type} {enc : TypeId × Value → H} {w : World} {r : Reach} {b0 : Nat} {v : Value} {y : DataW H} {p : List MemPlace} (hv : Value.okWide Tryd.prog w r b0 27 v) (h : DataW.Trod enc Tryd.prog w 0 (fun _ => true) true 27 v y p) :
    ∃ (x : AdC) (l : List Ev), v = .slice x.1 l.length x.2 ∧ (Fact.rd x.1 (evsV l)).p (fun _ => False) w ∧ l.length ≤ x.2 := by
  obtain ⟨⟨x, l⟩, h1, h2, h3⟩ := open_slice' Tryd.underlying27 (Opens.slice Tryd.underlying27 3 (by kernel_rfl) opens_ev (fun _ => rfl)) hv h
  exact ⟨x, l, (List.cons.inj h1).1, h2 _ (List.mem_cons_self ..), h3.2.1⟩
theorem hap_name {v : Value} {w : World} {n : Nat} {b : UInt8} {r : List UInt8} {q : List MemPlace} {f0 : FuncId} (hone : ((List.range Tryd.prog.funcs.size).filter fun f => (Tryd.prog.funcs[f]?).any (·.name.toUTF8.data.toList == b :: r)) = [f0])
    (h : Go.WideElems.elemAt (funcToken Tryd.prog) Tryd.prog w 0 (fun _ => true) true n 43 v = some (.held (b :: r), q)) : v = .func (.func f0) #[] #[] := by
  unfold Go.WideElems.elemAt at h
  split at h
  · have hc : v.cells.toList = [v] := by
      cases v with
      | agg cs =>
        exfalso
        rename_i hf
        simp [Value.formed, Tryd.underlying43] at hf
      | _ => rfl
    rw [hc] at h
    exact func_of_trod Tryd.underlying43 hone h
  · cases h
theorem hap_none_at (j : Nat) (l : List (Lit × DataW (List UInt8))) (zd : DataW (List UInt8)) (hl : (l.all fun p => match p.1 with | .int .u8 a => decide (1 ≤ a ∧ a ≤ 6) | _ => false) = true) (hj : j = 0 ∨ 7 ≤ j) : (DataW.map l).atKey (.int .u8 (j : Int)) zd = zd := by
  have hf : l.find? (fun p => p.1.sameKey (.int .u8 (j : Int))) = none := by
    rw [List.find?_eq_none]
    intro p hp
    have := List.all_eq_true.1 hl p hp
    obtain ⟨k, v⟩ := p
    split at this
    · rename_i a e
      have e' : k = .int .u8 a := e
      subst e'
      have := of_decide_eq_true this
      simp [Lit.sameKey]; omega
    · cases this
  simp only [DataW.atKey, hf]
theorem happens_laid {W : World} (h : laidMetH Tryd.prog [("herd/event.happens", Rows.laid_herd_event_happens)] W) : ∃ bm, (Fact.happens bm).p (fun _ => False) W := by
  obtain ⟨g, t, cs, fuel, p, hg, ht, hv, hd⟩ := h.funcs (List.mem_singleton.2 rfl)
  obtain rfl := Option.some.inj ((show Tryd.prog.globalNamed "herd/event.happens" = some 0 by kernel_rfl).symm.trans hg)
  obtain rfl := Option.some.inj ((show (Tryd.prog.globals[0]?).map (·.type) = some 45 by kernel_rfl).symm.trans ht)
  rcases Go.WideElems.open_map Tryd.underlying45 hd with ⟨_, h2⟩ | ⟨bm, es, clock, n, _, hcs, hb, _, F, hx⟩
  · exact absurd (congrArg Prod.fst h2) (by intro h; cases h)
  · refine ⟨bm, fun j u hu => ?_, ⟨(Array.getElem?_eq_some_iff.1 hb).1, id⟩, _, hb, fun W' hW k => ?_⟩
    · have hc := World.var?_cell hg hv j
      have hcell : W.cell? ⟨0, j, none⟩ = some u := by
        rw [hc, ← hu, ← hcs]; simp
      have e : (⟨0, 0, none⟩ : Addr).add j = ⟨0, j, none⟩ := by unfold Addr.add; split <;> simp_all
      exact ⟨_, rfl, by have := cell_lt hcell; exact this, id, by rw [e]; exact hcell⟩
    · have hkey : keyOf Tryd.prog 5 (.int .u8 k.toNat) = some (.int .u8 k.toNat) := Go.Maps.keyOf_int_mk Tryd.underlying5 (by have := k.toNat_lt; simp [Lit.wf, IntKind.min, IntKind.max, IntKind.signed, IntKind.bits]; omega)
      have hD : (DataW.map ((es.toList.map (Go.WideElems.rg Tryd.prog 5 (Go.WideElems.elemAt (funcToken Tryd.prog) Tryd.prog W 0 (fun _ => true) true n 43))).foldr DataW.insert []) : DataW (List UInt8)) = _ := (congrArg Prod.fst hx).symm
      have hlook := Go.Maps.fit_look true (Go.Maps.int_keyed Tryd.underlying5) Tryd.underlying45 (z := .nilFunc) (w := W') (by kernel_rfl) hW F hkey
      rw [hD] at hlook
      have yes : ∀ {b : UInt8} {r : List UInt8} {f0 : FuncId}, ((List.range Tryd.prog.funcs.size).filter fun f => (Tryd.prog.funcs[f]?).any (·.name.toUTF8.data.toList == b :: r)) = [f0] →
          (∀ zd, DataW.atKey (DataW.map ((es.toList.map (Go.WideElems.rg Tryd.prog 5 (Go.WideElems.elemAt (funcToken Tryd.prog) Tryd.prog W 0 (fun _ => true) true n 43))).foldr DataW.insert [])) (.int .u8 k.toNat) zd = .held (b :: r)) →
          (Instr.lookup 45 (.map (some bm)) (.int .u8 k.toNat) true).run Tryd.prog W' = .ok (.tuple #[.func (.func f0) #[] #[], .bool true]) W' := by
        intro b r f0 hone hat
        rcases hlook with ⟨_, _, h3⟩ | ⟨e0, y, _, _, hrun, hR, h3, _⟩
        · have := h3 .nil
          rw [← hD, hat] at this; cases this
        · obtain ⟨y1, y2⟩ := y
          have hy : .held (b :: r) = y1 := by rw [← hat .nil, hD]; exact h3 .nil
          subst hy
          rw [hap_name hone hR] at hrun; exact hrun
      have no : (∀ zd, DataW.atKey (DataW.map ((es.toList.map (Go.WideElems.rg Tryd.prog 5 (Go.WideElems.elemAt (funcToken Tryd.prog) Tryd.prog W 0 (fun _ => true) true n 43))).foldr DataW.insert [])) (.int .u8 k.toNat) zd = zd) →
          (Instr.lookup 45 (.map (some bm)) (.int .u8 k.toNat) true).run Tryd.prog W' = .ok (.tuple #[.nilFunc, .bool false]) W' := by
        intro hat
        rcases hlook with ⟨hrun, _, h3⟩ | ⟨e0, y, _, _, hrun, hR, h3, _⟩
        · exact hrun
        · have h4 := h3 .nil
          have h5 := h3 (.held [])
          rw [← hD, hat] at h4 h5
          rw [← h4] at h5; cases h5
      rw [hD] at yes no
      by_cases h1 : k = 1
      · subst h1; exact yes (by kernel_rfl) (fun zd => rfl)
      · by_cases h2 : k = 2
        · subst h2; exact yes (by kernel_rfl) (fun zd => rfl)
        · by_cases h3 : k = 3
          · subst h3; exact yes (by kernel_rfl) (fun zd => rfl)
          · by_cases h4 : k = 4
            · subst h4; exact yes (by kernel_rfl) (fun zd => rfl)
            · by_cases h5 : k = 5
              · subst h5; exact yes (by kernel_rfl) (fun zd => rfl)
              · by_cases h6 : k = 6
                · subst h6; exact yes (by kernel_rfl) (fun zd => rfl)
                · have hv : hapV k = .tuple #[.nilFunc, .bool false] := by rw [hapV, hapF, if_neg h1, if_neg h2, if_neg h3, if_neg h4, if_neg h5, if_neg h6]
                  rw [hv]
                  refine no fun zd => hap_none_at k.toNat _ zd rfl ?_
                  have ne : ∀ {a : UInt8}, k ≠ a → k.toNat ≠ a.toNat := fun h e => h (UInt8.toNat_inj.1 e)
                  have q1 := ne h1; have q2 := ne h2; have q3 := ne h3; have q4 := ne h4; have q5 := ne h5; have q6 := ne h6
                  simp at q1 q2 q3 q4 q5 q6
                  omega
end Go.Proofs.YtakkoandmkomdaaDoor
