/-
Contracts of the frame laws' helpers: same, rows, wakes.
-/
import Derived.Test.YtnkekjhijkfckaaFrameC
namespace Go.Proofs.Ytnkekjhijkfckaa
set_option linter.unusedVariables false
open Go.RowKit
attribute [local irreducible] Res.blk Res.row Fact.rd
theorem fsame_ct (A B : Option Addr) (c d : Nat) (l l' : List UInt8) : Ct Try.prog 15 [.slice A l.length c, .slice B l'.length d] [] [.rd A (u8s l), .rd B (u8s l')] (fun _ : Unit => .bool (decide (l = l'))) (fun _ => []) (fun _ => []) := by
  refine Ct.of _ Try.func15 Try.ntmps15 rfl rfl (fun X W => ?_)
  refine Jc.seq ?_
  refine Jc.region ?_
  refine Jl.pv (PR.assign rfl) ?_
  refine Jl.nil ?_
  refine Jq.thenN ?_
  refine Jc.seq ?_
  refine Jc.region ?_
  refine Jl.pv (PR.move rfl) ?_
  refine Jl.pv (PR.str rfl Try.underlying22 Try.underlying5 Try.underlying9 (by repeat (first | exact Mem.here | apply Mem.there)) rfl) ?_
  refine Jl.pv (PR.move rfl) ?_
  refine Jl.pv (PR.str rfl Try.underlying22 Try.underlying5 Try.underlying9 (by repeat (first | exact Mem.here | apply Mem.there)) rfl) ?_
  refine Jl.pv (PR.seql _ rfl rfl rfl) ?_
  refine Jl.pv (PR.assign rfl) ?_
  refine Jl.nil ?_
  refine Jq.thenN ?_
  refine Jc.ret ?_
  exact Jq.fin () (.inl rfl) rfl (RetVs.tmp rfl RetVs.nil) rfl (by repeat (first | exact Take.nil | apply Take.cons (by repeat (first | exact Del.here | apply Del.there)))) (by repeat (first | exact trivial | refine And.intro (by repeat (first | exact Mem.here | apply Mem.there)) ?_))
theorem fsame_at {A B : Option Addr} {c d n m : Nat} (l l' : List UInt8) (h : l.length = n) (h' : l'.length = m) : Ct Try.prog 15 [.slice A n c, .slice B m d] [] [.rd A (u8s l), .rd B (u8s l')] (fun _ : Unit => .bool (decide (l = l'))) (fun _ => []) (fun _ => []) := by
  subst h h'; exact fsame_ct A B c d l l'
def pays (zs : Zs) : List (List UInt8) := zs.map (·.2)
theorem getz {zs : Zs} {k : Nat} (h : k < zs.length) : (slv zs)[k]? = some (.slice zs[k].1.1 zs[k].2.length zs[k].1.2) := by simp [slv, h]
theorem Jc.rds1 {P : Program} {r : Option Nat} {C : Cx} {n : Nat × List Nat} {Q : Exit → Act → World → Prop} {c : Code} {env : List (Nat × Value)} {R : List Res} {Φ : List Fact} {zs : Zs} (k : Nat) (hk : k < zs.length) (hm : Mem (.rds zs) Φ)
    (j : Jc P r C n Q c env R (.rd zs[k].1.1 (u8s zs[k].2) :: Φ)) : Jc P r C n Q c env R Φ := Jc.fact _ hm (fun X W h => h _ (List.getElem_mem hk)) j
theorem rows_ct (A B : Option Addr) (c d : Nat) (zs ws : Zs) (hn : zs.length ≤ 1000000) : Ct Try.prog 16 [.slice A zs.length c, .slice B ws.length d] [] [.rd A (slv zs), .rd B (slv ws), .rds zs, .rds ws] (fun _ : Unit => .bool (decide (pays zs = pays ws))) (fun _ => []) (fun _ => []) := by
  refine Ct.of _ Try.func16 Try.ntmps16 rfl rfl (fun X W => ?_)
  refine Jc.seq ?_
  refine Jc.region ?_
  refine Jl.pv (PR.assign rfl) ?_
  refine Jl.nil ?_
  refine Jq.thenN ?_
  refine Jc.seq ?_
  refine Jc.seq ?_
  refine Jc.region ?_
  refine Jl.pv (PR.move rfl) ?_
  refine Jl.pv (PR.len rfl tsl29) ?_
  refine Jl.pv (PR.move rfl) ?_
  refine Jl.pv (PR.len rfl tsl29) ?_
  refine Jl.pv (PR.neq _ rfl rfl rfl) ?_
  refine Jl.nil ?_
  refine Jq.thenN ?_
  refine Jc.cond rfl (fun h0 => ?_) (fun h0 => ?_)
  · try replace h0 := of_decide_eq_true h0
    refine Jc.seq ?_
    refine Jc.region ?_
    refine Jl.pv (PR.assign rfl) ?_
    refine Jl.nil ?_
    refine Jq.thenN ?_
    refine Jc.ret ?_
    refine Jq.thenR ?_
    have hne : pays zs ≠ pays ws := fun h => h0 (by have := congrArg List.length h; simp [pays] at this; omega)
    exact Jq.fin () (.inl rfl) rfl (RetVs.tmp rfl RetVs.nil) (by rw [decide_eq_false hne]; rfl) (by repeat (first | exact Take.nil | apply Take.cons (by repeat (first | exact Del.here | apply Del.there)))) (by repeat (first | exact trivial | refine And.intro (by repeat (first | exact Mem.here | apply Mem.there)) ?_))
  · try replace h0 := of_decide_eq_false h0
    have hll : zs.length = ws.length := by omega
    refine Jc.skip ?_
    refine Jq.thenN ?_
    refine Jc.seq ?_
    refine Jc.seq ?_
    refine Jc.region ?_
    refine Jl.pv (PR.assign rfl) ?_
    refine Jl.nil ?_
    refine Jq.thenN ?_
    refine Jc.block ?_
    refine Jc.loop (σ := { k : Nat // k ≤ zs.length ∧ ∀ j, j < k → (pays zs)[j]? = (pays ws)[j]? }) (fun s => [(5, .int .i64 (s.1 : Int)), (0, .slice A zs.length c), (1, .slice B ws.length d)]) (fun _ => []) (fun _ => [.rd A (slv zs), .rd B (slv ws), .rds zs, .rds ws]) (fun s => zs.length - s.1) ⟨0, Nat.zero_le _, fun _ h => by omega⟩ (by exact ⟨rfl, rfl, rfl, trivial⟩) rfl (by exact ⟨(by repeat (first | exact Mem.here | apply Mem.there)), (by repeat (first | exact Mem.here | apply Mem.there)), (by repeat (first | exact Mem.here | apply Mem.there)), (by repeat (first | exact Mem.here | apply Mem.there)), trivial⟩) ?_
    rintro ⟨k, hk, hkj⟩
    show Jc _ _ _ _ _ _ [(5, Value.int .i64 (k : Int)), (0, .slice A zs.length c), (1, .slice B ws.length d)] [] [.rd A (slv zs), .rd B (slv ws), .rds zs, .rds ws]
    refine Jc.seq ?_
    refine Jc.seq ?_
    refine Jc.region ?_
    refine Jl.pv (PR.move rfl) ?_
    refine Jl.pv (PR.move rfl) ?_
    refine Jl.pv (PR.len rfl tsl29) ?_
    refine Jl.pv (PR.lss _ rfl rfl rfl) ?_
    refine Jl.nil ?_
    refine Jq.thenN ?_
    refine Jc.cond rfl (fun hlt => ?_) (fun hlt => ?_)
    · try replace hlt := of_decide_eq_true hlt
      have hlt' : k < zs.length := by omega
      have hlw : k < ws.length := by omega
      refine Jc.skip ?_
      refine Jq.thenN ?_
      refine Jc.seq ?_
      refine Jc.block ?_
      refine Jc.seq ?_
      refine Jc.rds1 (zs := zs) k hlt' (by repeat (first | exact Mem.here | apply Mem.there)) ?_
      refine Jc.rds1 (zs := ws) k hlw (by repeat (first | exact Mem.here | apply Mem.there)) ?_
      refine Jc.drawn [0, 0, 3, 7, 0, 0, 48, 112, 255, 511] ([(9, false)], []) [⟨[(0, false), (1, false), (2, false), (3, false), (4, false), (5, false), (6, false), (7, false)], [], 8⟩] tmx (by kernel_rfl) ?_
      refine Dh.JH.cons ?_
      refine Dh.JB.pv rfl trivial (fun _ => PR.move rfl) ?_
      refine Dh.JB.pv rfl trivial (fun _ => PR.move rfl) ?_
      refine Dh.JB.pv rfl trivial (fun _ => PR.idx1 k rfl rfl tsl29 (by repeat (first | exact Mem.here | apply Mem.there)) (by simp [slv]) rfl hlt') ?_
      refine Dh.JB.pv rfl trivial (fun _ => PR.loadR rfl tsh22 (by repeat (first | exact Mem.here | apply Mem.there)) (getz hlt')) ?_
      refine Dh.JB.pv rfl trivial (fun _ => PR.move rfl) ?_
      refine Dh.JB.pv rfl trivial (fun _ => PR.move rfl) ?_
      refine Dh.JB.pv rfl trivial (fun _ => PR.idx1 k rfl rfl tsl29 (by repeat (first | exact Mem.here | apply Mem.there)) (by simp [slv]) rfl hlw) ?_
      refine Dh.JB.pv rfl trivial (fun _ => PR.loadR rfl tsh22 (by repeat (first | exact Mem.here | apply Mem.there)) (getz hlw)) ?_
      refine Dh.JB.nil ?_
      refine Dh.JL.nil ?_
      refine Dh.JE.mk rfl (fun _ h => by cases h) (fun C6_8 => ?_)
      refine Jl.call (fsame_ct _ _ _ _ zs[k].2 ws[k].2) en15 (by rfl) (by repeat (first | exact Take.nil | apply Take.cons (by repeat (first | exact Del.here | apply Del.there)))) (by repeat (first | exact trivial | refine And.intro (by repeat (first | exact Mem.here | apply Mem.there)) ?_)) ?_
      rintro ⟨⟩
      refine Jl.nil ?_
      refine Dh.Jq.segV (by repeat (first | exact Dh.FExt.refl | apply Dh.FExt.cons | apply Dh.FExt.app)) ?_ (by repeat (first | exact Dh.KeepL.nil | apply Dh.KeepL.anc (by rfl) | apply Dh.KeepL.keep (by repeat (first | exact Take.nil | apply Take.cons (by repeat (first | exact Del.here | apply Del.there))))))
      refine Dh.JH.nil ?_
      refine Dh.JB.pv rfl trivial (fun _ => PR.not rfl) ?_
      refine Dh.JB.nil ?_
      refine Dh.JL.nil ?_
      refine Jq.thenN ?_
      refine Jc.cond rfl (fun hne => ?_) (fun hne => ?_)
      · try replace hne := of_decide_eq_true hne
        refine Jc.seq ?_
        refine Jc.region ?_
        refine Jl.pv (PR.assign rfl) ?_
        refine Jl.nil ?_
        refine Jq.thenN ?_
        refine Jc.ret ?_
        refine Jq.blkR ?_
        refine Jq.thenR ?_
        refine Jq.thenR ?_
        refine Jq.blkR ?_
        refine Jq.thenR ?_
        have hne' : pays zs ≠ pays ws := fun h => by
          have h1 := congrArg (·[k]?) h
          simp [pays, hlt', hlw] at h1
          simp [h1] at hne
        exact Jq.fin () (.inl rfl) rfl (RetVs.tmp rfl RetVs.nil) (by rw [decide_eq_false hne']; rfl) (by repeat (first | exact Take.nil | apply Take.cons (by repeat (first | exact Del.here | apply Del.there)))) (by repeat (first | exact trivial | refine And.intro (by repeat (first | exact Mem.here | apply Mem.there)) ?_))
      · try replace hne := of_decide_eq_false hne
        refine Jc.skip ?_
        refine Jq.blkN ?_
        refine Jq.thenN ?_
        refine Jc.region ?_
        refine Jl.pv (PR.move rfl) ?_
        refine Jl.pv (PR.add ((k + 1 : Nat) : Int) rfl rfl (by rw [w64 (by omega) (by omega)]; rfl)) ?_
        refine Jl.pv (PR.assign rfl) ?_
        refine Jl.nil ?_
        refine Jq.again ⟨k + 1, hlt', fun j hj => ?_⟩ (by simp only; omega) (by exact ⟨rfl, rfl, rfl, trivial⟩) rfl (by exact ⟨(by repeat (first | exact Mem.here | apply Mem.there)), (by repeat (first | exact Mem.here | apply Mem.there)), (by repeat (first | exact Mem.here | apply Mem.there)), (by repeat (first | exact Mem.here | apply Mem.there)), trivial⟩)
        rcases Nat.lt_or_ge j k with h1 | h1
        · exact hkj j h1
        · obtain rfl : j = k := by omega
          simp at hne
          simp [pays, hlt', hlw, hne]
    · try replace hlt := of_decide_eq_false hlt
      have heq : pays zs = pays ws := by
        apply List.ext_getElem?
        intro j
        by_cases hj : j < zs.length
        · exact hkj j (by omega)
        · rw [List.getElem?_eq_none (by simp [pays]; omega), List.getElem?_eq_none (by simp [pays]; omega)]
      refine Jc.exit ?_
      refine Jq.thenX ?_
      refine Jq.thenX ?_
      refine Jq.blkX ?_
      refine Jq.thenN ?_
      refine Jc.seq ?_
      refine Jc.region ?_
      refine Jl.pv (PR.assign rfl) ?_
      refine Jl.nil ?_
      refine Jq.thenN ?_
      refine Jc.ret ?_
      exact Jq.fin () (.inl rfl) rfl (RetVs.tmp rfl RetVs.nil) (by rw [decide_eq_true heq]; rfl) (by repeat (first | exact Take.nil | apply Take.cons (by repeat (first | exact Del.here | apply Del.there)))) (by repeat (first | exact trivial | refine And.intro (by repeat (first | exact Mem.here | apply Mem.there)) ?_))

theorem fput_at {A : Option Addr} {c : Nat} {p m : List UInt8} {n : Nat} {e : Int} (hn : p.length = n) (hs : n ≤ 1000000) (h : putFN p = m) (h2 : putFR p = e) : Ct Try.prog 9 [.slice A n c] [] [.rd A (u8s p)] (fun x : OA => .tuple #[.slice x.1 m.length x.2, .int .i64 e]) (rowU m) (fun _ => []) := by
  subst hn h h2; exact fput_ct A c p hs
theorem ftake_at {A : Option Addr} {c n : Nat} {b : List UInt8} {p r : List UInt8} {e : Int} (hb : b.length = n) (hn : n ≤ 1000000) (hc : n ≤ c) (h : takeF b = (p, r, e)) :
    Ct Try.prog 11 [.slice A n c] [] [.rd A (u8s b)] (fun x : OA × OA => .tuple #[.slice x.1.1 p.length x.1.2, .slice x.2.1 r.length x.2.2, .int .i64 e]) (rows2 p r) (fun _ => []) := by
  subst hb
  have := ftake_ct A c b hn hc
  rw [h] at this
  exact this
theorem all_at {A : Option Addr} {c n : Nat} {b : List UInt8} {l : List (List UInt8)} {u : Nat} (hb : b.length = n) (hn : n ≤ 1000000) (hc : n ≤ c) (h : allP b = l) (hu : allU b = u) :
    Ct Try.prog 13 [.slice A n c] [] [.rd A (u8s b)] (fun x : { zs : Zs // pays zs = l } × OA => .tuple #[.slice x.2.1 l.length x.2.2, .int .i64 u])
      (fun x => [.row 22 1 (.slice x.2.1 l.length x.2.2) l.length (slv x.1.1)]) (fun x => [.rds x.1.1]) := by
  subst hb
  have hl : (framesN b).length = l.length := by rw [← h, allP, List.length_map]
  have := all_ct A c b hn hc
  rw [hl, hu] at this
  subst h
  exact this
theorem fwakes_ct : Ct Try.prog 8 [] [] [] (fun _ : Unit => .bool true) (fun _ => []) (fun _ => []) := by
  refine Ct.of _ Try.func8 Try.ntmps8 rfl rfl (fun X W => ?_)
  refine Jc.seq ?_
  refine Jc.region ?_
  refine Jl.pv (PR.assign rfl) ?_
  refine Jl.nil ?_
  refine Jq.thenN ?_
  refine Jc.seq ?_
  refine Jc.region ?_
  refine Jl.fact0 (.rd none (u8s [])) (fun X W => Fact.rd_nil none X W) ?_
  refine Jl.call (fput_at (p := []) (m := [0, 1, 0, 0, 0]) (e := 0) rfl (by decide) (by decide) (by decide)) en9 (by rfl) (by repeat (first | exact Take.nil | apply Take.cons (by repeat (first | exact Del.here | apply Del.there)))) (by repeat (first | exact trivial | refine And.intro (by repeat (first | exact Mem.here | apply Mem.there)) ?_)) ?_
  rintro ⟨A12, c12⟩
  refine Jl.sealC (by repeat (first | exact Del.here | apply Del.there)) (fun _ => ?_)
  refine Jl.pv (PR.move rfl) ?_
  refine Jl.pv (PR.extract rfl (by rfl)) ?_
  refine Jl.pv (PR.extract rfl (by rfl)) ?_
  refine Jl.pv (PR.assign rfl) ?_
  refine Jl.pv (PR.assign rfl) ?_
  refine Jl.nil ?_
  refine Jq.thenN ?_
  refine Jc.seq ?_
  refine Jc.region ?_
  refine Jl.buildSlice (by rfl) tsl22 tzr22_6 (by rfl) (by rfl) ?_
  intro b16
  refine Jl.seal (by repeat (first | exact Del.here | apply Del.there)) ?_
  refine Jl.call (ftake_at (c := 6) (b := [0, 1, 0, 0, 0, 9]) (p := []) (r := [9]) (e := 0) rfl (by decide) (by decide) (by decide)) en11 (by rfl) (by repeat (first | exact Take.nil | apply Take.cons (by repeat (first | exact Del.here | apply Del.there)))) (by repeat (first | exact trivial | refine And.intro (by repeat (first | exact Mem.here | apply Mem.there)) ?_)) ?_
  rintro ⟨⟨A17, c17⟩, ⟨B17, d17⟩⟩
  refine Jl.sealC (by repeat (first | exact Del.here | apply Del.there)) (fun _ => ?_)
  refine Jl.sealC (by repeat (first | exact Del.here | apply Del.there)) (fun _ => ?_)
  refine Jl.pv (PR.move rfl) ?_
  refine Jl.pv (PR.extract rfl (by rfl)) ?_
  refine Jl.pv (PR.extract rfl (by rfl)) ?_
  refine Jl.pv (PR.extract rfl (by rfl)) ?_
  refine Jl.pv (PR.assign rfl) ?_
  refine Jl.pv (PR.assign rfl) ?_
  refine Jl.pv (PR.assign rfl) ?_
  refine Jl.nil ?_
  refine Jq.thenN ?_
  refine Jc.seq ?_
  refine Jc.region ?_
  refine Jl.buildSlice (by rfl) tsl22 tzr22_4 (by rfl) (by rfl) ?_
  intro b22
  refine Jl.seal (by repeat (first | exact Del.here | apply Del.there)) ?_
  refine Jl.call (ftake_at (c := 4) (b := [0, 1, 0, 0]) (p := []) (r := []) (e := 40) rfl (by decide) (by decide) (by decide)) en11 (by rfl) (by repeat (first | exact Take.nil | apply Take.cons (by repeat (first | exact Del.here | apply Del.there)))) (by repeat (first | exact trivial | refine And.intro (by repeat (first | exact Mem.here | apply Mem.there)) ?_)) ?_
  rintro ⟨⟨A23, c23⟩, ⟨B23, d23⟩⟩
  refine Jl.pv (PR.move rfl) ?_
  refine Jl.pv (PR.extract rfl (by rfl)) ?_
  refine Jl.pv (PR.extract rfl (by rfl)) ?_
  refine Jl.pv (PR.extract rfl (by rfl)) ?_
  refine Jl.pv (PR.assign rfl) ?_
  refine Jl.pv (PR.assign rfl) ?_
  refine Jl.pv (PR.assign rfl) ?_
  refine Jl.nil ?_
  refine Jq.thenN ?_
  refine Jc.seq ?_
  refine Jc.region ?_
  refine Jl.buildSlice (by rfl) tsl22 tzr22_11 (by rfl) (by rfl) ?_
  intro b28
  refine Jl.seal (by repeat (first | exact Del.here | apply Del.there)) ?_
  refine Jl.call (all_at (c := 11) (b := [0, 1, 0, 0, 0, 0, 1, 0, 0, 0, 7]) (l := [[], []]) (u := 10) rfl (by decide) (by decide) (by decide) (by decide)) en13 (by rfl) (by repeat (first | exact Take.nil | apply Take.cons (by repeat (first | exact Del.here | apply Del.there)))) (by repeat (first | exact trivial | refine And.intro (by repeat (first | exact Mem.here | apply Mem.there)) ?_)) ?_
  rintro ⟨⟨zs29, hz29⟩, ⟨A29, c29⟩⟩
  refine Jl.pv (PR.move rfl) ?_
  refine Jl.pv (PR.extract rfl (by rfl)) ?_
  refine Jl.pv (PR.extract rfl (by rfl)) ?_
  refine Jl.pv (PR.assign rfl) ?_
  refine Jl.pv (PR.assign rfl) ?_
  refine Jl.nil ?_
  refine Jq.thenN ?_
  refine Jc.seq ?_
  refine Jc.region ?_
  refine Jl.pv (PR.move rfl) ?_
  refine Jl.pv (PR.eql true rfl rfl rfl) ?_
  refine Jl.pv (PR.move rfl) ?_
  refine Jl.on rfl rfl ?_
  refine Jl.pv (PR.move rfl) ?_
  refine Jl.on rfl rfl ?_
  refine Jl.buildSlice (by rfl) tsl22 tzr22_5 (by rfl) (by rfl) ?_
  intro b36
  refine Jl.seal (by repeat (first | exact Del.here | apply Del.there)) ?_
  refine Jl.on rfl rfl ?_
  refine Jl.call (fsame_ct _ _ _ _ [0, 1, 0, 0, 0] [0, 1, 0, 0, 0]) en15 (by rfl) (by repeat (first | exact Take.nil | apply Take.cons (by repeat (first | exact Del.here | apply Del.there)))) (by repeat (first | exact trivial | refine And.intro (by repeat (first | exact Mem.here | apply Mem.there)) ?_)) ?_
  rintro ⟨⟩
  refine Jl.as (.bool true) (congrArg Value.bool (by decide)) ?_
  refine Jl.pv (PR.pickT rfl rfl) ?_
  refine Jl.pv (PR.move rfl) ?_
  refine Jl.on rfl rfl ?_
  refine Jl.pv (PR.move rfl) ?_
  refine Jl.on rfl rfl ?_
  refine Jl.pv (PR.len rfl tsl22) ?_
  refine Jl.on rfl rfl ?_
  refine Jl.pv (PR.eql true rfl rfl rfl) ?_
  refine Jl.pv (PR.pickT rfl rfl) ?_
  refine Jl.pv (PR.move rfl) ?_
  refine Jl.on rfl rfl ?_
  refine Jl.pv (PR.move rfl) ?_
  refine Jl.on rfl rfl ?_
  refine Jl.buildSlice (by rfl) tsl22 tzr22_1 (by rfl) (by rfl) ?_
  intro b46
  refine Jl.seal (by repeat (first | exact Del.here | apply Del.there)) ?_
  refine Jl.on rfl rfl ?_
  refine Jl.call (fsame_ct _ _ _ _ [9] [9]) en15 (by rfl) (by repeat (first | exact Take.nil | apply Take.cons (by repeat (first | exact Del.here | apply Del.there)))) (by repeat (first | exact trivial | refine And.intro (by repeat (first | exact Mem.here | apply Mem.there)) ?_)) ?_
  rintro ⟨⟩
  refine Jl.as (.bool true) (congrArg Value.bool (by decide)) ?_
  refine Jl.pv (PR.pickT rfl rfl) ?_
  refine Jl.pv (PR.move rfl) ?_
  refine Jl.on rfl rfl ?_
  refine Jl.pv (PR.move rfl) ?_
  refine Jl.on rfl rfl ?_
  refine Jl.pv (PR.eql true rfl rfl rfl) ?_
  refine Jl.pv (PR.pickT rfl rfl) ?_
  refine Jl.pv (PR.move rfl) ?_
  refine Jl.on rfl rfl ?_
  refine Jl.pv (PR.move rfl) ?_
  refine Jl.on rfl rfl ?_
  refine Jl.pv (PR.eql true rfl rfl rfl) ?_
  refine Jl.pv (PR.pickT rfl rfl) ?_
  refine Jl.pv (PR.move rfl) ?_
  refine Jl.on rfl rfl ?_
  refine Jl.pv (PR.move rfl) ?_
  refine Jl.on rfl rfl ?_
  refine Jl.pv (PR.len rfl tsl29) ?_
  refine Jl.on rfl rfl ?_
  refine Jl.pv (PR.eql true rfl rfl rfl) ?_
  refine Jl.pv (PR.pickT rfl rfl) ?_
  refine Jl.pv (PR.move rfl) ?_
  refine Jl.on rfl rfl ?_
  refine Jl.pv (PR.move rfl) ?_
  refine Jl.on rfl rfl ?_
  refine Jl.pv (PR.eql true rfl rfl rfl) ?_
  refine Jl.pv (PR.pickT rfl rfl) ?_
  refine Jl.pv (PR.move rfl) ?_
  refine Jl.on rfl rfl ?_
  refine Jl.buildSlice (by rfl) tsl22 tzr22_1 (by rfl) (by rfl) ?_
  intro b67
  refine Jl.seal (by repeat (first | exact Del.here | apply Del.there)) ?_
  refine Jl.on rfl rfl ?_
  refine Jl.call (sum_ct _ _ [1] (by decide)) en17 (by rfl) (by repeat (first | exact Take.nil | apply Take.cons (by repeat (first | exact Del.here | apply Del.there)))) (by repeat (first | exact trivial | refine And.intro (by repeat (first | exact Mem.here | apply Mem.there)) ?_)) ?_
  rintro ⟨⟩
  refine Jl.on rfl rfl ?_
  refine Jl.pv (PR.eql true rfl rfl (by decide)) ?_
  refine Jl.pv (PR.pickT rfl rfl) ?_
  refine Jl.pv (PR.move rfl) ?_
  refine Jl.on rfl rfl ?_
  refine Jl.call (flong_ct 3) en19 (by rfl) (by repeat (first | exact Take.nil | apply Take.cons (by repeat (first | exact Del.here | apply Del.there)))) (by repeat (first | exact trivial | refine And.intro (by repeat (first | exact Mem.here | apply Mem.there)) ?_)) ?_
  rintro ⟨⟩
  refine Jl.on rfl rfl ?_
  refine Jl.pv (PR.eql true rfl rfl (by decide)) ?_
  refine Jl.pv (PR.pickT rfl rfl) ?_
  refine Jl.pv (PR.move rfl) ?_
  refine Jl.on rfl rfl ?_
  refine Jl.call (flong_ct (-1)) en19 (by rfl) (by repeat (first | exact Take.nil | apply Take.cons (by repeat (first | exact Del.here | apply Del.there)))) (by repeat (first | exact trivial | refine And.intro (by repeat (first | exact Mem.here | apply Mem.there)) ?_)) ?_
  rintro ⟨⟩
  refine Jl.on rfl rfl ?_
  refine Jl.pv (PR.eql true rfl rfl (by decide)) ?_
  refine Jl.pv (PR.pickT rfl rfl) ?_
  refine Jl.pv (PR.assign rfl) ?_
  refine Jl.nil ?_
  refine Jq.thenN ?_
  refine Jc.ret ?_
  exact Jq.fin () (.inl rfl) rfl (RetVs.tmp rfl RetVs.nil) rfl (by repeat (first | exact Take.nil | apply Take.cons (by repeat (first | exact Del.here | apply Del.there)))) (by repeat (first | exact trivial | refine And.intro (by repeat (first | exact Mem.here | apply Mem.there)) ?_))
end Go.Proofs.Ytnkekjhijkfckaa
