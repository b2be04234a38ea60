/-
Contracts of events: All.
-/
import Derived.Test.YtakkoandmkomdaaDoorEvR
namespace Go.Proofs.YtakkoandmkomdaaDoor
set_option linter.unusedVariables false
open Go.RowKit
attribute [local irreducible] Res.blk Res.row Fact.rd Res.mapI
theorem happ_Wf {c : Cl} (h : c.Wf) (e : Ev) : (happ c e).Wf := by
  have hon : ∀ (f : Bx → Bx) id, (∀ b, (f b).tok = b.tok) → (onB c id f).Wf := fun f id hf => onB_ways (p := Cl.Wf) c id f (fun i hi _ _ _ => fun b hb => by
    rcases List.mem_or_eq_of_mem_set hb with hb | rfl
    · exact h b hb
    · rw [hf]; exact h _ (List.getElem_mem _)) fun _ => h
  refine happ_ways (p := Cl.Wf) c e (fun _ => hon _ _ fun _ => rfl) (fun _ => hon _ _ fun _ => rfl) (fun _ => ?_) (fun _ => h) (fun _ => ?_) (fun _ => ?_) (fun _ _ _ _ _ _ => h)
  · unfold strayC
    split
    · intro b hb
      rcases List.mem_append.1 hb with hb | hb
      · exact h b hb
      · obtain rfl : b = _ := by simpa using hb
        rfl
    · exact h
  · unfold tickC
    split
    · exact h
    · intro b hb
      obtain ⟨b', hb', rfl⟩ := List.mem_map.1 hb
      rw [(Bx.tick_same _ b').2.1]
      exact h b' hb'
  · unfold floorC; split <;> exact h
theorem doE_Wf {c : Cl} (h : c.Wf) (e : Ev) : (doE c e).Wf := by unfold doE; split; exact happ_Wf h e; exact h
theorem doE_len {c : Cl} (e : Ev) {n : Nat} (h : c.bs.length ≤ n) (hn : 60 ≤ n) : (doE c e).bs.length ≤ n := by
  unfold doE
  split
  · have := happ_len c e; omega
  · exact h
theorem allE_Wf {c : Cl} (h : c.Wf) (l : List Ev) : (allE c l).Wf := by
  induction l generalizing c with
  | nil => exact h
  | cons e l ih => exact ih (doE_Wf h e)
theorem allE_len {c : Cl} (l : List Ev) {n : Nat} (h : c.bs.length ≤ n) (hn : 60 ≤ n) : (allE c l).bs.length ≤ n := by
  induction l generalizing c with
  | nil => exact h
  | cons e l ih => exact ih (doE_len e h hn)
theorem evdrop1 (l : List Ev) : ((evsV l).drop (1 * 3)).take ((l.drop 1).length * 3) = evsV (l.drop 1) := by
  rw [evsV_drop, List.take_of_length_le (by rw [evsV_len]; omega)]
structure AllS (c : Cl) (l : List Ev) where
  d : Cl
  x : AdC
  L : AdC
  m : List Ev
  wf : d.Wf
  len : d.bs.length ≤ 1000000
  cap : m.length ≤ L.2
  same : allE d m = allE c l
theorem evall_ct (c : Cl) (x L : AdC) (l : List Ev) (bm : Nat) (hw : c.Wf) (hn : c.bs.length ≤ 1000000) (hL : l.length ≤ L.2) (hl : l.length ≤ 1000000) : Ct Tryd.prog 12 [c.v x, .slice L.1 l.length L.2] [] [.rd x.1 (bxsV c.bs), .rd L.1 (evsV l), .happens bm] (allE c l).v (fun y => [(allE c l).row y]) (fun _ => []) := by
  refine Ct.of _ Tryd.func12 Tryd.ntmps12 rfl rfl (fun X W => ?_)
  refine Jc.seq ?_
  refine Jc.region ?_
  refine Jl.box rfl (by rfl) ?_
  intro b2
  refine Jl.alloc tze24 ?_
  intro b4
  refine Jl.nil ?_
  refine Jq.thenN ?_
  refine Jc.scope (σ := AllS c l) (fun s => [(1, .slice s.L.1 s.m.length s.L.2), (2, .pointer (some ⟨b2, 0, none⟩)), (4, .pointer (some ⟨b4, 0, none⟩))]) (fun s => [.blk b4 24 [.slice none 0 0, .int .i64 0, .int .i64 0, .int .i64 0, .bool false], .blk b2 24 (s.d.cs s.x), s.d.row s.x]) (fun s => [.rd s.L.1 (evsV s.m), .happens bm]) (fun s => s.m.length) (l := 0) rfl ?_ ?_
  · rintro ⟨d, y, ⟨B, cB⟩, m, hdw, hdn, hcap, hsame⟩
    show Jc _ _ _ _ _ _ [(1, Value.slice B m.length cB), (2, .pointer (some ⟨b2, 0, none⟩)), (4, .pointer (some ⟨b4, 0, none⟩))] [.blk b4 24 [.slice none 0 0, .int .i64 0, .int .i64 0, .int .i64 0, .bool false], .blk b2 24 (d.cs y), d.row y] [.rd B (evsV m), .happens bm]
    refine Jc.seq ?_
    refine Jc.seq ?_
    refine Jc.region ?_
    refine Jl.pv (PR.move rfl) ?_
    refine Jl.pv (PR.len rfl tsl27) ?_
    refine Jl.pv (PR.gtr _ rfl rfl rfl) ?_
    refine Jl.nil ?_
    refine Jq.thenN ?_
    refine Jc.cond rfl (fun h0 => ?_) (fun h0 => ?_)
    · try replace h0 := of_decide_eq_true h0
      have hm0 : 0 < m.length := by omega
      obtain ⟨e, m', rfl⟩ : ∃ e m', m = e :: m' := by cases m with | nil => simp at hm0 | cons e m' => exact ⟨e, m', rfl⟩
      refine Jc.seq ?_
      refine Jc.drawn [0, 0, 2, 6, 15, 0, 32, 31, 255] ([(8, false)], []) [⟨[(0, false), (1, false), (2, false), (3, false), (5, false), (6, false)], [], 4⟩, ⟨[], [], 7⟩] tmx (by kernel_rfl) ?_
      refine Dh.JH.cons ?_
      refine Dh.JB.rd [.blk _ _ _] rfl trivial (by repeat (first | exact Take.nil | apply Take.cons (by repeat (first | exact Del.here | apply Del.there)))) (fun _ => PR.loadW rfl tsh24 Has.here (by rfl)) ?_
      refine Dh.JB.pv rfl trivial (fun _ => PR.move rfl) ?_
      refine Dh.JB.pv rfl trivial (fun _ => PR.idx 0 rfl rfl tsl27 (by repeat (first | exact Mem.here | apply Mem.there)) (evsV_len _) (by omega) rfl hm0) ?_
      refine Dh.JB.pv rfl trivial (fun _ => PR.loadRA rfl tsh26 (by repeat (first | exact Mem.here | apply Mem.there)) (by decide) (evs_at hm0)) ?_
      refine Dh.JB.pv rfl trivial (fun _ => PR.move rfl) ?_
      refine Dh.JB.slice 1 (e :: m').length m'.length (evsV m') rfl trivial rfl tsl27 rfl rfl (by repeat (first | exact Mem.here | apply Mem.there)) (by simp) (Nat.le_refl _) hcap (by simp) (evdrop1 (e :: m')) ?_
      intro A16 c16 hc16
      skip
      refine Dh.JB.nil ?_
      refine Dh.JL.nil ?_
      refine Dh.JE.mk rfl (fun _ h => by cases h) (fun C3_4 => ?_)
      refine Jl.calll (fs := []) (cs := []) (evdo_ct d y e bm hdw hdn) en10 rfl (by rfl) (by rfl) (by repeat (first | exact Take.nil | apply Take.cons (by repeat (first | exact Del.here | apply Del.there)))) (ls := [d.row y]) (by repeat (first | exact Take.nil | apply Take.cons (by repeat (first | exact Del.here | apply Del.there)))) (by repeat (first | exact Lends.nil | apply Lends.row | apply Lends.blk)) (by repeat (first | exact trivial | refine And.intro (by repeat (first | exact Mem.here | apply Mem.there)) ?_)) ?_
      rintro ⟨A14, c14⟩
      refine Jl.nil ?_
      refine Dh.Jq.segV (by repeat (first | exact Dh.FExt.refl | apply Dh.FExt.cons | apply Dh.FExt.app)) ?_ (by repeat (first | exact Dh.KeepL.nil | apply Dh.KeepL.anc (by rfl) | apply Dh.KeepL.keep (by repeat (first | exact Take.nil | apply Take.cons (by repeat (first | exact Del.here | apply Del.there))))))
      refine Dh.JH.cons ?_
      refine Dh.JB.nil ?_
      refine Dh.JL.nil ?_
      refine Dh.JE.mk rfl (fun _ h => by cases h) (fun C3_7 => ?_)
      refine Jl.storeW rfl tsh24 rfl (by rfl) (by first | exact Cl.cs_one _ _ | simp [Value.oneCell']) (by repeat (first | exact Swap.here | apply Swap.there)) (by rfl) ?_
      refine Jl.nil ?_
      refine Dh.Jq.segN (by repeat (first | exact Dh.FExt.refl | apply Dh.FExt.cons | apply Dh.FExt.app)) ?_ (by repeat (first | exact Dh.KeepL.nil | apply Dh.KeepL.anc (by rfl) | apply Dh.KeepL.keep (by repeat (first | exact Take.nil | apply Take.cons (by repeat (first | exact Del.here | apply Del.there))))))
      refine Dh.JH.nil ?_
      refine Dh.JB.pv rfl trivial (fun _ => PR.assign rfl) ?_
      refine Dh.JB.nil ?_
      refine Dh.JL.nil ?_
      refine Jq.thenN ?_
      refine Jc.goto ?_
      refine Jq.thenG ?_
      have hcap' : m'.length ≤ c16 := by simp at hcap hc16; omega
      refine Jq.lessR (rs := [.blk b4 24 [.slice none 0 0, .int .i64 0, .int .i64 0, .int .i64 0, .bool false], .blk b2 24 ((doE d e).cs (A14, c14)), (doE d e).row (A14, c14)]) (by repeat (first | exact Take.nil | apply Take.cons (by repeat (first | exact Del.here | apply Del.there)))) ?_
      exact Jq.jmpB ⟨doE d e, (A14, c14), (A16, c16), m', doE_Wf hdw e, doE_len e hdn (by omega), hcap', hsame⟩ (by simp) (by repeat (first | exact trivial | refine And.intro rfl ?_)) rfl (by repeat (first | exact trivial | refine And.intro (by repeat (first | exact Mem.here | apply Mem.there)) ?_))
    · try replace h0 := of_decide_eq_false h0
      refine Jc.skip ?_
      refine Jq.thenN ?_
      refine Jc.seq ?_
      refine Jc.region ?_
      refine Jl.pv (PR.loadW rfl tsh24 (by repeat (first | exact Has.here | apply Has.there)) (by rfl)) ?_
      refine Jl.storeW rfl tsh24 rfl (by rfl) (by first | exact Cl.cs_one _ _ | simp [Value.oneCell']) (by repeat (first | exact Swap.here | apply Swap.there)) (by rfl) ?_
      refine Jl.nil ?_
      refine Jq.thenN ?_
      refine Jc.ret ?_
      refine Jq.jmpR ?_
      have hm : m = [] := List.eq_nil_of_length_eq_zero (by omega)
      subst hm
      rw [show allE c l = d from hsame.symm]
      exact Jq.fin y (.inl rfl) rfl (RetVs.cellA rfl (by repeat (first | exact Has.here | apply Has.there)) tsh24 (by rfl) RetVs.nil) rfl (by repeat (first | exact Take.nil | apply Take.cons (by repeat (first | exact Del.here | apply Del.there)))) (by repeat (first | exact trivial | refine And.intro (by repeat (first | exact Mem.here | apply Mem.there)) ?_))
  · intro hfirst0
    refine Jc.seq ?_
    refine Jc.region ?_
    refine Jl.pv (PR.loadW rfl tsh24 (by repeat (first | exact Has.here | apply Has.there)) (by rfl)) ?_
    refine Jl.call (own_ct c x hn) en20 (by rfl) (by repeat (first | exact Take.nil | apply Take.cons (by repeat (first | exact Del.here | apply Del.there)))) (by repeat (first | exact trivial | refine And.intro (by repeat (first | exact Mem.here | apply Mem.there)) ?_)) ?_
    rintro ⟨A6, c6⟩
    refine Jl.storeW rfl tsh24 rfl (by rfl) (by first | exact Cl.cs_one _ _ | simp [Value.oneCell']) (by repeat (first | exact Swap.here | apply Swap.there)) (by rfl) ?_
    refine Jl.nil ?_
    refine Jq.thenN ?_
    refine Jc.seq ?_
    refine Jc.label ?_
    refine Jq.thenN ?_
    refine Jc.lessR (rs := [.blk b4 24 [.slice none 0 0, .int .i64 0, .int .i64 0, .int .i64 0, .bool false], .blk b2 24 (c.cs (A6, c6)), c.row (A6, c6)]) (by repeat (first | exact Take.nil | apply Take.cons (by repeat (first | exact Del.here | apply Del.there)))) ?_
    exact Jc.at_ hfirst0 ⟨c, (A6, c6), L, l, hw, hn, hL, rfl⟩ (by repeat (first | exact trivial | refine And.intro rfl ?_)) rfl (by repeat (first | exact trivial | refine And.intro (by repeat (first | exact Mem.here | apply Mem.there)) ?_))
theorem allE_take {c : Cl} {l : List Ev} {k : Nat} (h : k < l.length) : allE c (l.take (k + 1)) = doE (allE c (l.take k)) l[k] := by
  rw [List.take_succ_eq_append_getElem h, allE, List.foldl_append]; rfl
theorem revall_ct (c : Cl) (x L : AdC) (l : List Ev) (hn : c.bs.length ≤ 1000000) (hl : l.length ≤ 1000000) : Ct Tryd.prog 13 [c.v x, .slice L.1 l.length L.2] [] [.rd x.1 (bxsV c.bs), .rd L.1 (evsV l)] (allE c l).v (fun y => [(allE c l).row y]) (fun _ => []) := by
  obtain ⟨B, cB⟩ := L
  refine Ct.of _ Tryd.func13 Tryd.ntmps13 rfl rfl (fun X W => ?_)
  refine Jc.seq ?_
  refine Jc.region ?_
  refine Jl.box rfl (by rfl) ?_
  intro b2
  refine Jl.alloc tze24 ?_
  intro b4
  refine Jl.nil ?_
  refine Jq.thenN ?_
  refine Jc.seq ?_
  refine Jc.region ?_
  refine Jl.pv (PR.loadW rfl tsh24 (by repeat (first | exact Has.here | apply Has.there)) (by rfl)) ?_
  refine Jl.call (rown_ct c x hn) en18 (by rfl) (by repeat (first | exact Take.nil | apply Take.cons (by repeat (first | exact Del.here | apply Del.there)))) (by repeat (first | exact trivial | refine And.intro (by repeat (first | exact Mem.here | apply Mem.there)) ?_)) ?_
  rintro ⟨A7, c7⟩
  refine Jl.storeW rfl tsh24 rfl (by rfl) (by first | exact Cl.cs_one _ _ | simp [Value.oneCell']) (by repeat (first | exact Swap.here | apply Swap.there)) (by rfl) ?_
  refine Jl.nil ?_
  refine Jq.thenN ?_
  refine Jc.seq ?_
  refine Jc.seq ?_
  refine Jc.region ?_
  refine Jl.pv (PR.assign rfl) ?_
  refine Jl.nil ?_
  refine Jq.thenN ?_
  refine Jc.block ?_
  refine Jc.loop (σ := { k : Nat // k ≤ l.length } × AdC) (fun s => [(5, .int .i64 (s.1.1 : Int)), (1, .slice B l.length cB), (2, .pointer (some ⟨b2, 0, none⟩)), (4, .pointer (some ⟨b4, 0, none⟩))]) (fun s => [(allE c (l.take s.1.1)).row s.2, .blk b4 24 [.slice none 0 0, .int .i64 0, .int .i64 0, .int .i64 0, .bool false], .blk b2 24 ((allE c (l.take s.1.1)).cs s.2)]) (fun _ => [.rd B (evsV l)]) (fun s => l.length - s.1.1) ⟨⟨0, Nat.zero_le _⟩, A7, c7⟩ (by repeat (first | exact trivial | refine And.intro rfl ?_)) rfl (by repeat (first | exact trivial | refine And.intro (by repeat (first | exact Mem.here | apply Mem.there)) ?_)) ?_
  rintro ⟨⟨k, hk⟩, y⟩
  obtain ⟨d, hd⟩ : ∃ d, allE c (l.take k) = d := ⟨_, rfl⟩
  have hdn : d.bs.length ≤ 1000000 := by rw [← hd]; exact allE_len _ hn (by omega)
  show Jc _ _ _ _ _ _ [(5, Value.int .i64 (k : Int)), (1, .slice B l.length cB), (2, .pointer (some ⟨b2, 0, none⟩)), (4, .pointer (some ⟨b4, 0, none⟩))] [(allE c (l.take k)).row y, .blk b4 24 [.slice none 0 0, .int .i64 0, .int .i64 0, .int .i64 0, .bool false], .blk b2 24 ((allE c (l.take k)).cs y)] [.rd B (evsV l)]
  rw [hd]
  refine Jc.seq ?_
  refine Jc.seq ?_
  refine Jc.region ?_
  refine Jl.pv (PR.move rfl) ?_
  refine Jl.pv (PR.move rfl) ?_
  refine Jl.pv (PR.len rfl tsl27) ?_
  refine Jl.pv (PR.lss _ rfl rfl rfl) ?_
  refine Jl.nil ?_
  refine Jq.thenN ?_
  refine Jc.cond rfl (fun h0 => ?_) (fun h0 => ?_)
  · try replace h0 := of_decide_eq_true h0
    have hlt : k < l.length := by omega
    have hnx := allE_take (c := c) hlt
    rw [hd] at hnx
    refine Jc.skip ?_
    refine Jq.thenN ?_
    refine Jc.seq ?_
    refine Jc.block ?_
    refine Jc.drawn [0, 0, 0, 6, 14, 31, 63] ([], []) [⟨[(0, false), (1, false), (2, false), (3, false), (4, false)], [], 5⟩, ⟨[], [], 6⟩] tmx (by kernel_rfl) ?_
    refine Dh.JH.cons ?_
    refine Dh.JB.rd [.blk _ _ _] rfl trivial (by repeat (first | exact Take.nil | apply Take.cons (by repeat (first | exact Del.here | apply Del.there)))) (fun _ => PR.loadW rfl tsh24 Has.here (by rfl)) ?_
    refine Dh.JB.pv rfl trivial (fun _ => PR.move rfl) ?_
    refine Dh.JB.pv rfl trivial (fun _ => PR.move rfl) ?_
    refine Dh.JB.pv rfl trivial (fun _ => PR.idx k rfl rfl tsl27 (by repeat (first | exact Mem.here | apply Mem.there)) (evsV_len _) (by omega) rfl hlt) ?_
    refine Dh.JB.pv rfl trivial (fun _ => PR.loadRA rfl tsh26 (by repeat (first | exact Mem.here | apply Mem.there)) (by decide) (evs_at hlt)) ?_
    refine Dh.JB.nil ?_
    refine Dh.JL.nil ?_
    refine Dh.JE.mk rfl (fun _ h => by cases h) (fun C5_5 => ?_)
    refine Jl.calll (fs := []) (cs := []) (revdo_ct d y l[k] hdn) en11 rfl (by rfl) (by rfl) (by repeat (first | exact Take.nil | apply Take.cons (by repeat (first | exact Del.here | apply Del.there)))) (ls := [d.row y]) (by repeat (first | exact Take.nil | apply Take.cons (by repeat (first | exact Del.here | apply Del.there)))) (by repeat (first | exact Lends.nil | apply Lends.row | apply Lends.blk)) (by repeat (first | exact trivial | refine And.intro (by repeat (first | exact Mem.here | apply Mem.there)) ?_)) ?_
    rintro ⟨A19, c19⟩
    refine Jl.nil ?_
    refine Dh.Jq.segV (by repeat (first | exact Dh.FExt.refl | apply Dh.FExt.cons | apply Dh.FExt.app)) ?_ (by repeat (first | exact Dh.KeepL.nil | apply Dh.KeepL.anc (by rfl) | apply Dh.KeepL.keep (by repeat (first | exact Take.nil | apply Take.cons (by repeat (first | exact Del.here | apply Del.there))))))
    refine Dh.JH.cons ?_
    refine Dh.JB.nil ?_
    refine Dh.JL.nil ?_
    refine Dh.JE.mk rfl (fun _ h => by cases h) (fun C5_6 => ?_)
    refine Jl.storeW rfl tsh24 rfl (by rfl) (by first | exact Cl.cs_one _ _ | simp [Value.oneCell']) (by repeat (first | exact Swap.here | apply Swap.there)) (by rfl) ?_
    refine Jl.nil ?_
    refine Dh.Jq.segN (by repeat (first | exact Dh.FExt.refl | apply Dh.FExt.cons | apply Dh.FExt.app)) ?_ (by repeat (first | exact Dh.KeepL.nil | apply Dh.KeepL.anc (by rfl) | apply Dh.KeepL.keep (by repeat (first | exact Take.nil | apply Take.cons (by repeat (first | exact Del.here | apply Del.there))))))
    refine Dh.JH.nil ?_
    refine Dh.JB.nil ?_
    refine Dh.JL.nil ?_
    refine Jq.blkN ?_
    refine Jq.thenN ?_
    refine Jc.region ?_
    refine Jl.pv (PR.move rfl) ?_
    refine Jl.pv (PR.add ((k + 1 : Nat) : Int) rfl rfl (by rw [w64 (by omega) (by omega)]; rfl)) ?_
    refine Jl.pv (PR.assign rfl) ?_
    refine Jl.nil ?_
    rw [← hnx]
    exact Jq.againT ⟨⟨k + 1, hlt⟩, A19, c19⟩ (by simp only; omega) (by repeat (first | exact trivial | refine And.intro rfl ?_)) (by repeat (first | exact Take.nil | apply Take.cons (by repeat (first | exact Del.here | apply Del.there)))) (by repeat (first | exact trivial | refine And.intro (by repeat (first | exact Mem.here | apply Mem.there)) ?_))
  · try replace h0 := of_decide_eq_false h0
    refine Jc.exit ?_
    refine Jq.thenX ?_
    refine Jq.thenX ?_
    refine Jq.blkX ?_
    refine Jq.thenN ?_
    refine Jc.seq ?_
    refine Jc.region ?_
    refine Jl.pv (PR.loadW rfl tsh24 (by repeat (first | exact Has.here | apply Has.there)) (by rfl)) ?_
    refine Jl.storeW rfl tsh24 rfl (by rfl) (by first | exact Cl.cs_one _ _ | simp [Value.oneCell']) (by repeat (first | exact Swap.here | apply Swap.there)) (by rfl) ?_
    refine Jl.nil ?_
    refine Jq.thenN ?_
    refine Jc.ret ?_
    rw [List.take_of_length_le (by omega)] at hd
    rw [hd]
    exact Jq.fin y (.inl rfl) rfl (RetVs.cellA rfl (by repeat (first | exact Has.here | apply Has.there)) tsh24 (by rfl) RetVs.nil) rfl (by repeat (first | exact Take.nil | apply Take.cons (by repeat (first | exact Del.here | apply Del.there)))) (by repeat (first | exact trivial | refine And.intro (by repeat (first | exact Mem.here | apply Mem.there)) ?_))
end Go.Proofs.YtakkoandmkomdaaDoor
