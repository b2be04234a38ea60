/-
Contracts of orders: Check, Do.
-/
import Derived.Test.YtcppphgpbaablaaGreatDoorAdG
namespace Go.Proofs.YtcppphgpbaablaaGreatDoor
set_option linter.unusedVariables false
open Go.RowKit
attribute [local irreducible] Res.blk Res.row Fact.rd Res.mapV
/-- The table of orders. -/
def ordM : Int → Option Value := fun k =>
  if k = 6 then some (.func (.func 47) #[] #[]) else
  if k = 5 then some (.func (.func 45) #[] #[]) else
  if k = 7 then some (.func (.func 44) #[] #[]) else
  if k = 4 then some (.func (.func 43) #[] #[]) else
  if k = 3 then some (.func (.func 42) #[] #[]) else
  if k = 2 then some (.func (.func 37) #[] #[]) else
  if k = 1 then some (.func (.func 33) #[] #[]) else none
theorem orders_ct : Ct Tryz.prog 17 [] [] [] (fun b : Nat => .map (some b)) (fun b => [.mapV Tryz.prog 5 .u8 b 7 ordM]) (fun _ => []) := by
  refine Ct.of _ Tryz.func17 Tryz.ntmps17 rfl rfl (fun X W => ?_)
  refine Jc.seq ?_
  refine Jc.region ?_
  refine Jl.pv (PR.assign rfl) ?_
  refine Jl.nil ?_
  refine Jq.thenN ?_
  refine Jc.seq ?_
  refine Jc.region ?_
  refine Jl.makeMapV .u8 Tryz.underlying56 ?_
  intro b1
  refine Jl.insertV _ rfl rfl rfl Tryz.underlying56 Tryz.underlying5 (by repeat (first | exact Swap.here | apply Swap.there)) (by decide) rfl (by decide) (fun _ => rfl) ?_
  refine Jl.insertV _ rfl rfl rfl Tryz.underlying56 Tryz.underlying5 (by repeat (first | exact Swap.here | apply Swap.there)) (by decide) rfl (by decide) (fun _ => rfl) ?_
  refine Jl.insertV _ rfl rfl rfl Tryz.underlying56 Tryz.underlying5 (by repeat (first | exact Swap.here | apply Swap.there)) (by decide) rfl (by decide) (fun _ => rfl) ?_
  refine Jl.insertV _ rfl rfl rfl Tryz.underlying56 Tryz.underlying5 (by repeat (first | exact Swap.here | apply Swap.there)) (by decide) rfl (by decide) (fun _ => rfl) ?_
  refine Jl.insertV _ rfl rfl rfl Tryz.underlying56 Tryz.underlying5 (by repeat (first | exact Swap.here | apply Swap.there)) (by decide) rfl (by decide) (fun _ => rfl) ?_
  refine Jl.insertV _ rfl rfl rfl Tryz.underlying56 Tryz.underlying5 (by repeat (first | exact Swap.here | apply Swap.there)) (by decide) rfl (by decide) (fun _ => rfl) ?_
  refine Jl.insertV _ rfl rfl rfl Tryz.underlying56 Tryz.underlying5 (by repeat (first | exact Swap.here | apply Swap.there)) (by decide) rfl (by decide) (fun _ => rfl) ?_
  refine Jl.pv (PR.move rfl) ?_
  refine Jl.pv (PR.assign rfl) ?_
  refine Jl.nil ?_
  refine Jq.thenN ?_
  refine Jc.ret ?_
  exact Jq.fin b1 (.inl rfl) rfl (RetVs.tmp rfl RetVs.nil) rfl (by repeat (first | exact Take.nil | apply Take.cons (by repeat (first | exact Del.here | apply Del.there)))) (by repeat (first | exact trivial | refine And.intro (by repeat (first | exact Mem.here | apply Mem.there)) ?_))
def ordF : Nat → FuncId
  | 1 => 33 | 2 => 37 | 3 => 42 | 4 => 43 | 5 => 45 | 6 => 47 | _ => 44
theorem ordM_yes : ∀ {k : Nat}, 1 ≤ k → k ≤ 7 → ordM (k : Int) = some (.func (.func (ordF k)) #[] #[])
  | 1, _, _ => rfl | 2, _, _ => rfl | 3, _, _ => rfl | 4, _, _ => rfl | 5, _, _ => rfl | 6, _, _ => rfl | 7, _, _ => rfl
  | 0, h, _ => by omega
  | k + 8, _, h => by omega
theorem ordM_no {k : Nat} (h : ¬ (1 ≤ k ∧ k ≤ 7)) : ordM (k : Int) = none := by
  unfold ordM
  rw [if_neg (by omega), if_neg (by omega), if_neg (by omega), if_neg (by omega), if_neg (by omega), if_neg (by omega), if_neg (by omega)]
theorem ordF_en : ∀ {k : Nat}, 1 ≤ k → k ≤ 7 → ∀ args w, (callFunc (ordF k) args).run Tryz.prog w = .ok (.enter (ordF k) args) w
  | 1, _, _ => en33 | 2, _, _ => en37 | 3, _, _ => en42 | 4, _, _ => en43 | 5, _, _ => en45 | 6, _, _ => en47 | 7, _, _ => en44
  | 0, h, _ => by omega
  | k + 8, _, h => by omega
theorem ask_ct (b : Br) (z : BrA) (L : Option Addr) (cL : Nat) (o : Rc) (now : Int) (hn : o.l.length ≤ 1000) (hc : o.l.length ≤ cL) (hm : b.kps.length ≤ 1000000) (hi : o.k.toNat = 5 → i64in o.l) (h1 : 1 ≤ o.k.toNat) (h2 : o.k.toNat ≤ 7) : AskC (ordF o.k.toNat) b z L cL o.l (nowN now) (b.ask o now) := by
  unfold Br.ask
  have h : o.k.toNat = 1 ∨ o.k.toNat = 2 ∨ o.k.toNat = 3 ∨ o.k.toNat = 4 ∨ o.k.toNat = 5 ∨ o.k.toNat = 6 ∨ o.k.toNat = 7 := by omega
  rcases h with h | h | h | h | h | h | h <;> (rw [h])
  · exact ord1_ct b z L cL o.l (nowN now) hn hc
  · exact ord2_ct b z L cL o.l (nowN now) hn
  · exact ord3_ct b z L cL o.l (nowN now)
  · exact ord4_ct b z L cL o.l (nowN now)
  · exact ord5_ct b z L cL o.l (nowN now) hn hm (hi h)
  · exact ord6_ct b z L cL o.l (nowN now) hn hm
  · exact ord7_ct b z L cL o.l (nowN now)
theorem ask_no {b : Br} {o : Rc} {now : Int} (h : ¬ (1 ≤ o.k.toNat ∧ o.k.toNat ≤ 7)) : b.ask o now = (Rc.zero, 2) := by
  unfold Br.ask
  split <;> first | rfl | (exfalso; omega)
theorem acheck_ct (b : Br) (z : BrA) (o : Rc) (x : AdC) (now : Int) (hn : o.l.length ≤ 1000) (hc : o.l.length ≤ x.2) (hm : b.kps.length ≤ 1000000) (hi : o.k.toNat = 5 → i64in o.l) :
    Ct Tryz.prog 7 [b.v z, o.v x, .int .i64 now] [] (b.rd z ++ [.rd x.1 (i64s o.l), .lim]) (fun y : { y : AdC // (b.ask o now).1.l.length ≤ y.2 } => .tuple #[(b.ask o now).1.v y.1, .int .i64 (b.ask o now).2]) (fun _ => []) (fun y => [.rd y.1.1 (i64s (b.ask o now).1.l)]) := by
  obtain ⟨⟨M, cM⟩, ⟨I, cI⟩, ⟨K, cK⟩⟩ := z
  obtain ⟨L, cL⟩ := x
  by_cases hk : 1 ≤ o.k.toNat ∧ o.k.toNat ≤ 7
  · have hct := ask_ct b ((M, cM), (I, cI), (K, cK)) L cL o now hn hc hm hi hk.1 hk.2
    refine Ct.of _ Tryz.func7 Tryz.ntmps7 rfl rfl (fun X W => ?_)
    refine Jc.seq ?_
    refine Jc.region ?_
    refine Jl.box rfl (by rfl) ?_
    intro b3
    refine Jl.box rfl (by rfl) ?_
    intro b4
    refine Jl.alloc tze36 ?_
    intro b6
    refine Jl.pv (PR.assign rfl) ?_
    refine Jl.nil ?_
    refine Jq.thenN ?_
    refine Jc.scope (σ := Empty) (fun _ => []) (fun _ => []) (fun _ => []) (fun _ => 0) (l := 0) rfl ?_ ?_
    · intro s
      exact s.elim
    intro hfirst0
    refine Jc.seq ?_
    refine Jc.drawn [0, 0, 2, 7, 15, 31, 31, 63, 255] ([(4, false), (5, false), (6, false), (7, false), (8, false)], []) [⟨[(1, false), (2, false)], [], 0⟩, ⟨[], [], 3⟩] tmx (by kernel_rfl) ?_
    refine Dh.JH.cons ?_
    refine Dh.JB.pv rfl trivial (fun _ => PR.fieldAddr rfl tfl32_0) ?_
    refine Dh.JB.rd [.blk _ _ _] rfl trivial (by repeat (first | exact Take.nil | apply Take.cons (by repeat (first | exact Del.here | apply Del.there)))) (fun _ => PR.load1 rfl tsh5 Has.here (by rfl)) ?_
    refine Dh.JB.nil ?_
    refine Dh.JL.nil ?_
    refine Dh.JE.mk rfl (fun _ h => by cases h) (fun C1_0 => ?_)
    refine Jl.call orders_ct en17 (by rfl) (by repeat (first | exact Take.nil | apply Take.cons (by repeat (first | exact Del.here | apply Del.there)))) (by repeat (first | exact trivial | refine And.intro (by repeat (first | exact Mem.here | apply Mem.there)) ?_)) ?_
    rintro b11
    refine Jl.nil ?_
    refine Dh.Jq.segV (by repeat (first | exact Dh.FExt.refl | apply Dh.FExt.cons | apply Dh.FExt.app)) ?_ (by repeat (first | exact Dh.KeepL.nil | apply Dh.KeepL.anc (by rfl) | apply Dh.KeepL.keep (by repeat (first | exact Take.nil | apply Take.cons (by repeat (first | exact Del.here | apply Del.there))))))
    refine Dh.JH.cons ?_
    refine Dh.JB.nil ?_
    refine Dh.JL.nil ?_
    refine Dh.JE.mk rfl (fun _ h => by cases h) (fun C1_3 => ?_)
    refine Jl.pv (PR.lookupVO .nilFunc rfl rfl Tryz.underlying56 Tryz.underlying5 (fun _ => by kernel_rfl) (by repeat (first | exact Del.here | apply Del.there)) (wfu8 o.k)) ?_
    refine Jl.as (.tuple #[.func (.func (ordF o.k.toNat)) #[] #[], .bool true]) (by rw [ordM_yes hk.1 hk.2]; rfl) ?_
    refine Jl.nil ?_
    refine Dh.Jq.segV (by repeat (first | exact Dh.FExt.refl | apply Dh.FExt.cons | apply Dh.FExt.app)) ?_ (by repeat (first | exact Dh.KeepL.nil | apply Dh.KeepL.anc (by rfl) | apply Dh.KeepL.keep (by repeat (first | exact Take.nil | apply Take.cons (by repeat (first | exact Del.here | apply Del.there))))))
    refine Dh.JH.nil ?_
    refine Dh.JB.pv rfl trivial (fun _ => PR.move rfl) ?_
    refine Dh.JB.pv rfl trivial (fun _ => PR.extract rfl (by rfl)) ?_
    refine Dh.JB.pv rfl trivial (fun _ => PR.extract rfl (by rfl)) ?_
    refine Dh.JB.pv rfl trivial (fun _ => PR.assign rfl) ?_
    refine Dh.JB.pv rfl trivial (fun _ => PR.assign rfl) ?_
    refine Dh.JB.nil ?_
    refine Dh.JL.nil ?_
    refine Jq.thenN ?_
    refine Jc.seq ?_
    refine Jc.seq ?_
    refine Jc.region ?_
    refine Jl.pv (PR.move rfl) ?_
    refine Jl.as (.bool true) (congrArg Value.bool rfl) ?_
    refine Jl.pv (PR.not rfl) ?_
    refine Jl.as (.bool false) (congrArg Value.bool rfl) ?_
    refine Jl.nil ?_
    refine Jq.thenN ?_
    refine Jc.condF rfl ?_
    refine Jc.skip ?_
    refine Jq.thenN ?_
    refine Jc.seq ?_
    refine Jc.seq ?_
    refine Jc.region ?_
    refine Jl.pv (PR.move rfl) ?_
    refine Jl.pv (PR.loadW rfl tsh30 (by repeat (first | exact Has.here | apply Has.there)) (by rfl)) ?_
    refine Jl.pv (PR.fieldAddr rfl tfl32_1) ?_
    refine Jl.pv (PR.load1 rfl tsh22 (by repeat (first | exact Has.here | apply Has.there)) (by rfl)) ?_
    refine Jl.pv (PR.move rfl) ?_
    refine Jl.pv (PR.max2 (max now 0) rfl rfl rfl) ?_
    refine Jl.pv (PR.min2 (nowN now) rfl rfl rfl) ?_
    refine Jl.pv (PR.build (by rfl) tze59 tpl59_0_1_2 (by rfl)) ?_
    refine Jl.callv hct (ordF_en hk.1 hk.2) rfl (by rfl) (by rfl) (by repeat (first | exact Take.nil | apply Take.cons (by repeat (first | exact Del.here | apply Del.there)))) (by repeat (first | exact trivial | refine And.intro (by repeat (first | exact Mem.here | apply Mem.there)) ?_)) ?_
    rintro ⟨⟨A27, c27⟩, h27⟩
    refine Jl.pv (PR.extract rfl (by rfl)) ?_
    refine Jl.pv (PR.extract rfl (by rfl)) ?_
    refine Jl.storeW rfl tsh36 rfl (by rfl) (by first | exact Br.cs_one _ _ | simp [Value.oneCell', Rc.cs]) (by repeat (first | exact Swap.here | apply Swap.there)) (by rfl) ?_
    refine Jl.pv (PR.assign rfl) ?_
    refine Jl.nil ?_
    refine Jq.thenN ?_
    refine Jc.ret ?_
    refine Jq.thenR ?_
    refine Jq.jmpR ?_
    exact Jq.fin ⟨(A27, c27), h27⟩ (.inl rfl) rfl (RetVs.cellA rfl (by repeat (first | exact Has.here | apply Has.there)) tsh36 (by rfl) (RetVs.tmp rfl RetVs.nil)) rfl (by repeat (first | exact Take.nil | apply Take.cons (by repeat (first | exact Del.here | apply Del.there)))) (by repeat (first | exact trivial | refine And.intro (by repeat (first | exact Mem.here | apply Mem.there)) ?_))
  · have e : b.ask o now = (Rc.zero, 2) := ask_no hk
    rw [e]
    refine Ct.of _ Tryz.func7 Tryz.ntmps7 rfl rfl (fun X W => ?_)
    refine Jc.seq ?_
    refine Jc.region ?_
    refine Jl.box rfl (by rfl) ?_
    intro b3
    refine Jl.box rfl (by rfl) ?_
    intro b4
    refine Jl.alloc tze36 ?_
    intro b6
    refine Jl.pv (PR.assign rfl) ?_
    refine Jl.nil ?_
    refine Jq.thenN ?_
    refine Jc.scope (σ := Unit) (fun _ => [(6, ptr b6)]) (fun _ => [.blk b6 36 (Rc.zero.cs (none, 0))]) (fun _ => []) (fun _ => 0) (l := 0) rfl ?_ ?_
    · rintro ⟨⟩
      refine Jc.fact0 (.rd none (i64s Rc.zero.l)) (fun X W => Fact.rd_nil none X W) ?_
      refine Jc.seq ?_
      refine Jc.region ?_
      refine Jl.pv (PR.build (by rfl) tze36 tpl36_ (by rfl)) ?_
      refine Jl.storeW rfl tsh36 rfl (by rfl) (by first | exact Br.cs_one _ _ | simp [Value.oneCell', Rc.cs]) (by repeat (first | exact Swap.here | apply Swap.there)) (by rfl) ?_
      refine Jl.pv (PR.assign rfl) ?_
      refine Jl.nil ?_
      refine Jq.thenN ?_
      refine Jc.ret ?_
      refine Jq.jmpR ?_
      exact Jq.fin ⟨(none, 0), Nat.zero_le _⟩ (.inl rfl) rfl (RetVs.cellA rfl (by repeat (first | exact Has.here | apply Has.there)) tsh36 (by rfl) (RetVs.tmp rfl RetVs.nil)) rfl (by repeat (first | exact Take.nil | apply Take.cons (by repeat (first | exact Del.here | apply Del.there)))) (by repeat (first | exact trivial | refine And.intro (by repeat (first | exact Mem.here | apply Mem.there)) ?_))
    intro hfirst0
    refine Jc.seq ?_
    refine Jc.drawn [0, 0, 2, 7, 15, 31, 31, 63, 255] ([(4, false), (5, false), (6, false), (7, false), (8, false)], []) [⟨[(1, false), (2, false)], [], 0⟩, ⟨[], [], 3⟩] tmx (by kernel_rfl) ?_
    refine Dh.JH.cons ?_
    refine Dh.JB.pv rfl trivial (fun _ => PR.fieldAddr rfl tfl32_0) ?_
    refine Dh.JB.rd [.blk _ _ _] rfl trivial (by repeat (first | exact Take.nil | apply Take.cons (by repeat (first | exact Del.here | apply Del.there)))) (fun _ => PR.load1 rfl tsh5 Has.here (by rfl)) ?_
    refine Dh.JB.nil ?_
    refine Dh.JL.nil ?_
    refine Dh.JE.mk rfl (fun _ h => by cases h) (fun C1_0 => ?_)
    refine Jl.call orders_ct en17 (by rfl) (by repeat (first | exact Take.nil | apply Take.cons (by repeat (first | exact Del.here | apply Del.there)))) (by repeat (first | exact trivial | refine And.intro (by repeat (first | exact Mem.here | apply Mem.there)) ?_)) ?_
    rintro b11
    refine Jl.nil ?_
    refine Dh.Jq.segV (by repeat (first | exact Dh.FExt.refl | apply Dh.FExt.cons | apply Dh.FExt.app)) ?_ (by repeat (first | exact Dh.KeepL.nil | apply Dh.KeepL.anc (by rfl) | apply Dh.KeepL.keep (by repeat (first | exact Take.nil | apply Take.cons (by repeat (first | exact Del.here | apply Del.there))))))
    refine Dh.JH.cons ?_
    refine Dh.JB.nil ?_
    refine Dh.JL.nil ?_
    refine Dh.JE.mk rfl (fun _ h => by cases h) (fun C1_3 => ?_)
    refine Jl.pv (PR.lookupVO .nilFunc rfl rfl Tryz.underlying56 Tryz.underlying5 (fun _ => by kernel_rfl) (by repeat (first | exact Del.here | apply Del.there)) (wfu8 o.k)) ?_
    refine Jl.as (.tuple #[.nilFunc, .bool false]) (by rw [ordM_no hk]; rfl) ?_
    refine Jl.nil ?_
    refine Dh.Jq.segV (by repeat (first | exact Dh.FExt.refl | apply Dh.FExt.cons | apply Dh.FExt.app)) ?_ (by repeat (first | exact Dh.KeepL.nil | apply Dh.KeepL.anc (by rfl) | apply Dh.KeepL.keep (by repeat (first | exact Take.nil | apply Take.cons (by repeat (first | exact Del.here | apply Del.there))))))
    refine Dh.JH.nil ?_
    refine Dh.JB.pv rfl trivial (fun _ => PR.move rfl) ?_
    refine Dh.JB.pv rfl trivial (fun _ => PR.extract rfl (by rfl)) ?_
    refine Dh.JB.pv rfl trivial (fun _ => PR.extract rfl (by rfl)) ?_
    refine Dh.JB.pv rfl trivial (fun _ => PR.assign rfl) ?_
    refine Dh.JB.pv rfl trivial (fun _ => PR.assign rfl) ?_
    refine Dh.JB.nil ?_
    refine Dh.JL.nil ?_
    refine Jq.thenN ?_
    refine Jc.seq ?_
    refine Jc.seq ?_
    refine Jc.region ?_
    refine Jl.pv (PR.move rfl) ?_
    refine Jl.as (.bool false) (congrArg Value.bool rfl) ?_
    refine Jl.pv (PR.not rfl) ?_
    refine Jl.as (.bool true) (congrArg Value.bool rfl) ?_
    refine Jl.nil ?_
    refine Jq.thenN ?_
    refine Jc.condT rfl ?_
    refine Jc.goto ?_
    refine Jq.thenG ?_
    refine Jq.lessR (rs := [.blk b6 36 (Rc.zero.cs (none, 0))]) (by repeat (first | exact Take.nil | apply Take.cons (by repeat (first | exact Del.here | apply Del.there)))) ?_
    exact Jq.jmpA () (by repeat (first | exact trivial | refine And.intro rfl ?_)) rfl (by repeat (first | exact trivial | refine And.intro (by repeat (first | exact Mem.here | apply Mem.there)) ?_))
theorem told_0 {r : Rc} {rs : List (Bool × Int)} (h : (toldR r rs).2 = 0) (hr : ∀ p ∈ rs, p.1 = false → p.2 ≠ 0) : (toldR r rs).1 = r := by
  unfold toldR at h ⊢
  split
  · rename_i p hp
    rw [hp] at h
    exact absurd h (hr p (List.mem_of_find?_eq_some hp) (by have := List.find?_some hp; simpa using this))
  · rfl
theorem keptR_0 {b : Br} {id : Int} (h : (keptR b id).1 = false) : (keptR b id).2 ≠ 0 := by
  rcases keptR_2 (b := b) (id := id) with h1 | h1
  · rw [h1.2] at h; cases h
  · rw [h1]; decide
theorem ask_kind {b : Br} {o : Rc} {now : Int} : (b.ask o now).2 = 0 → ((b.ask o now).1.k.toNat = 2 ∨ admK (b.ask o now).1.k.toNat = true) ∧ (b.ask o now).1.l.length ≤ o.l.length + 2 := by
  have hk := fun h => keptR_0 (b := b) (id := fst0 o.l) h
  unfold Br.ask
  split
  · intro h; rw [told_0 h (by simp)]; exact ⟨.inl rfl, by simp⟩
  · intro h; rw [told_0 h (by simp)]; exact ⟨.inr rfl, by simp⟩
  · intro h; rw [told_0 h (by simp)]; exact ⟨.inr rfl, by simp⟩
  · intro h; rw [told_0 h (by simp)]; exact ⟨.inr rfl, by simp⟩
  · intro h; rw [told_0 h (by simp; exact hk)]; exact ⟨.inr rfl, by simp⟩
  · intro h; rw [told_0 h (by simp; exact hk)]; exact ⟨.inr rfl, by simp⟩
  · intro h; rw [told_0 h (by simp)]; exact ⟨.inr rfl, by simp⟩
  · intro h; cases h
theorem adoo_ct (b : Br) (z : BrA) (o : Rc) (x : AdC) (now : Int) (hn : o.l.length ≤ 900) (hc : o.l.length ≤ x.2) (hi : o.k.toNat = 5 → i64in o.l) (h1 : b.its.length ≤ 1000000) (hm : b.kps.length ≤ 1000000) (hms : b.cf.ms.length ≤ 1000000) :
    Ct Tryz.prog 8 [b.v z, o.v x, .int .i64 now] [] (b.rd z ++ [.rd x.1 (i64s o.l), .lim]) (fun y : BrA => .tuple #[(b.doo o now).v y, .int .i64 (b.ask o now).2]) (fun _ => []) (fun y => (b.doo o now).rd y) := by
  obtain ⟨⟨M, cM⟩, ⟨I, cI⟩, ⟨K, cK⟩⟩ := z
  by_cases he : (b.ask o now).2 = 0
  · have hk := ask_kind he
    rw [show b.doo o now = b.apply (b.ask o now).1 from if_pos he]
    refine Ct.of _ Tryz.func8 Tryz.ntmps8 rfl rfl (fun X W => ?_)
    refine Jc.seq ?_
    refine Jc.region ?_
    refine Jl.box rfl (by rfl) ?_
    intro b3
    refine Jl.box rfl (by rfl) ?_
    intro b4
    refine Jl.alloc tze30 ?_
    intro b6
    refine Jl.pv (PR.assign rfl) ?_
    refine Jl.nil ?_
    refine Jq.thenN ?_
    refine Jc.seq ?_
    refine Jc.region ?_
    refine Jl.pv (PR.loadW rfl tsh30 (by repeat (first | exact Has.here | apply Has.there)) (by rfl)) ?_
    refine Jl.pv (PR.loadW rfl tsh32 (by repeat (first | exact Has.here | apply Has.there)) (by rfl)) ?_
    refine Jl.pv (PR.move rfl) ?_
    refine Jl.call (acheck_ct b ((M, cM), (I, cI), (K, cK)) o x now (by omega) hc hm hi) en7 (by rfl) (by repeat (first | exact Take.nil | apply Take.cons (by repeat (first | exact Del.here | apply Del.there)))) (by repeat (first | exact trivial | refine And.intro (by repeat (first | exact Mem.here | apply Mem.there)) ?_)) ?_
    rintro ⟨⟨A14, c14⟩, h14⟩
    refine Jl.pv (PR.move rfl) ?_
    refine Jl.pv (PR.extract rfl (by rfl)) ?_
    refine Jl.pv (PR.extract rfl (by rfl)) ?_
    refine Jl.alloc tze36 ?_
    intro b8
    refine Jl.storeW rfl tsh36 rfl (by rfl) (by first | exact Br.cs_one _ _ | simp [Value.oneCell', Rc.cs]) (by repeat (first | exact Swap.here | apply Swap.there)) (by rfl) ?_
    refine Jl.pv (PR.assign rfl) ?_
    refine Jl.nil ?_
    refine Jq.thenN ?_
    refine Jc.seq ?_
    refine Jc.seq ?_
    refine Jc.region ?_
    refine Jl.pv (PR.move rfl) ?_
    refine Jl.pv (PR.neq false rfl rfl (by rw [he]; rfl)) ?_
    refine Jl.nil ?_
    refine Jq.thenN ?_
    refine Jc.condF rfl ?_
    refine Jc.skip ?_
    refine Jq.thenN ?_
    refine Jc.seq ?_
    refine Jc.region ?_
    refine Jl.pv (PR.loadW rfl tsh30 (by repeat (first | exact Has.here | apply Has.there)) (by rfl)) ?_
    refine Jl.pv (PR.loadW rfl tsh36 (by repeat (first | exact Has.here | apply Has.there)) (by rfl)) ?_
    refine Jl.call (bapply_ct .lim b ((M, cM), (I, cI), (K, cK)) (b.ask o now).1 (A14, c14) h1 hm hms ⟨by omega, h14, fun z h2 _ h4 _ => deed_adm .lim b z _ _ hm (hk.1.resolve_left h2) h4, fun h2 h3 => deed_no h2 h3⟩) en19 (by rfl) (by repeat (first | exact Take.nil | apply Take.cons (by repeat (first | exact Del.here | apply Del.there)))) (by repeat (first | exact trivial | refine And.intro (by repeat (first | exact Mem.here | apply Mem.there)) ?_)) ?_
    rintro ⟨⟨A1, c1⟩, ⟨A2, c2⟩, ⟨A3, c3⟩⟩
    refine Jl.sealR (by repeat (first | exact Del.here | apply Del.there)) ?_
    refine Jl.sealR (by repeat (first | exact Del.here | apply Del.there)) ?_
    refine Jl.sealR (by repeat (first | exact Del.here | apply Del.there)) ?_
    refine Jl.storeW rfl tsh30 rfl (by rfl) (by first | exact Br.cs_one _ _ | simp [Value.oneCell', Rc.cs]) (by repeat (first | exact Swap.here | apply Swap.there)) (by rfl) ?_
    refine Jl.pv (PR.assign rfl) ?_
    refine Jl.nil ?_
    refine Jq.thenN ?_
    refine Jc.ret ?_
    exact Jq.fin ((A1, c1), (A2, c2), (A3, c3)) (.inl rfl) rfl (RetVs.cellA rfl (by repeat (first | exact Has.here | apply Has.there)) tsh30 (by rfl) (RetVs.tmp rfl RetVs.nil)) (by rw [he]; rfl) (by repeat (first | exact Take.nil | apply Take.cons (by repeat (first | exact Del.here | apply Del.there)))) (by repeat (first | exact trivial | refine And.intro (by repeat (first | exact Mem.here | apply Mem.there)) ?_))
  · rw [show b.doo o now = b from if_neg he]
    refine Ct.of _ Tryz.func8 Tryz.ntmps8 rfl rfl (fun X W => ?_)
    refine Jc.seq ?_
    refine Jc.region ?_
    refine Jl.box rfl (by rfl) ?_
    intro b3
    refine Jl.box rfl (by rfl) ?_
    intro b4
    refine Jl.alloc tze30 ?_
    intro b6
    refine Jl.pv (PR.assign rfl) ?_
    refine Jl.nil ?_
    refine Jq.thenN ?_
    refine Jc.seq ?_
    refine Jc.region ?_
    refine Jl.pv (PR.loadW rfl tsh30 (by repeat (first | exact Has.here | apply Has.there)) (by rfl)) ?_
    refine Jl.pv (PR.loadW rfl tsh32 (by repeat (first | exact Has.here | apply Has.there)) (by rfl)) ?_
    refine Jl.pv (PR.move rfl) ?_
    refine Jl.call (acheck_ct b ((M, cM), (I, cI), (K, cK)) o x now (by omega) hc hm hi) en7 (by rfl) (by repeat (first | exact Take.nil | apply Take.cons (by repeat (first | exact Del.here | apply Del.there)))) (by repeat (first | exact trivial | refine And.intro (by repeat (first | exact Mem.here | apply Mem.there)) ?_)) ?_
    rintro ⟨⟨A14, c14⟩, h14⟩
    refine Jl.pv (PR.move rfl) ?_
    refine Jl.pv (PR.extract rfl (by rfl)) ?_
    refine Jl.pv (PR.extract rfl (by rfl)) ?_
    refine Jl.alloc tze36 ?_
    intro b8
    refine Jl.storeW rfl tsh36 rfl (by rfl) (by first | exact Br.cs_one _ _ | simp [Value.oneCell', Rc.cs]) (by repeat (first | exact Swap.here | apply Swap.there)) (by rfl) ?_
    refine Jl.pv (PR.assign rfl) ?_
    refine Jl.nil ?_
    refine Jq.thenN ?_
    refine Jc.seq ?_
    refine Jc.seq ?_
    refine Jc.region ?_
    refine Jl.pv (PR.move rfl) ?_
    refine Jl.pv (PR.neq true rfl rfl (by simpa using he)) ?_
    refine Jl.nil ?_
    refine Jq.thenN ?_
    refine Jc.condT rfl ?_
    refine Jc.seq ?_
    refine Jc.region ?_
    refine Jl.pv (PR.loadW rfl tsh30 (by repeat (first | exact Has.here | apply Has.there)) (by rfl)) ?_
    refine Jl.call (bown_ct b ((M, cM), (I, cI), (K, cK)) h1 hm hms) en18 (by rfl) (by repeat (first | exact Take.nil | apply Take.cons (by repeat (first | exact Del.here | apply Del.there)))) (by repeat (first | exact trivial | refine And.intro (by repeat (first | exact Mem.here | apply Mem.there)) ?_)) ?_
    rintro ⟨⟨A1, c1⟩, ⟨A2, c2⟩, ⟨A3, c3⟩⟩
    refine Jl.sealR (by repeat (first | exact Del.here | apply Del.there)) ?_
    refine Jl.sealR (by repeat (first | exact Del.here | apply Del.there)) ?_
    refine Jl.sealR (by repeat (first | exact Del.here | apply Del.there)) ?_
    refine Jl.pv (PR.move rfl) ?_
    refine Jl.storeW rfl tsh30 rfl (by rfl) (by first | exact Br.cs_one _ _ | simp [Value.oneCell', Rc.cs]) (by repeat (first | exact Swap.here | apply Swap.there)) (by rfl) ?_
    refine Jl.pv (PR.assign rfl) ?_
    refine Jl.nil ?_
    refine Jq.thenN ?_
    refine Jc.ret ?_
    refine Jq.thenR ?_
    exact Jq.fin ((A1, c1), (A2, c2), (A3, c3)) (.inl rfl) rfl (RetVs.cellA rfl (by repeat (first | exact Has.here | apply Has.there)) tsh30 (by rfl) (RetVs.tmp rfl RetVs.nil)) rfl (by repeat (first | exact Take.nil | apply Take.cons (by repeat (first | exact Del.here | apply Del.there)))) (by repeat (first | exact trivial | refine And.intro (by repeat (first | exact Mem.here | apply Mem.there)) ?_))
end Go.Proofs.YtcppphgpbaablaaGreatDoor
