/-
Contracts of brains: the table of deeds, group.
-/
import Derived.Test.YtcppphgpbaablaaDoorAdB
namespace Go.Proofs.YtcppphgpbaablaaDoor
set_option linter.unusedVariables false
open Go.RowKit
attribute [local irreducible] Res.blk Res.row Fact.rd Res.mapV
theorem kept_ct (many : Int) (f : FuncId) : Ct Tryd.prog 65 [.int .i64 many, .func (.func f) #[] #[]] [] [] (fun b : Nat => .agg #[.int .i64 many, .func (.func 84) #[] #[ptr b]]) (fun b => [.blk b 124 [.func (.func f) #[] #[]]]) (fun _ => []) := by
  refine Ct.of _ Tryd.func65 Tryd.ntmps65 rfl rfl (fun X W => ?_)
  refine Jc.seq ?_
  refine Jc.region ?_
  refine Jl.box rfl (by rfl) ?_
  intro b3
  refine Jl.alloc tze112 ?_
  intro b4
  refine Jl.nil ?_
  refine Jq.thenN ?_
  refine Jc.seq ?_
  refine Jc.region ?_
  refine Jl.pv (PR.move rfl) ?_
  refine Jl.pv (PR.makeFunc rfl rfl) ?_
  refine Jl.pv (PR.build (by rfl) tze112 tpl112_0_1 (by rfl)) ?_
  refine Jl.storeW rfl tsh112 rfl (by rfl) (by simp [Value.oneCell']) (by repeat (first | exact Swap.here | apply Swap.there)) (by rfl) ?_
  refine Jl.nil ?_
  refine Jq.thenN ?_
  refine Jc.ret ?_
  exact Jq.fin b3 (.inl rfl) rfl (RetVs.cellA rfl (by repeat (first | exact Has.here | apply Has.there)) tsh112 (by rfl) RetVs.nil) rfl (by repeat (first | exact Take.nil | apply Take.cons (by repeat (first | exact Del.here | apply Del.there)))) (by repeat (first | exact trivial | refine And.intro (by repeat (first | exact Mem.here | apply Mem.there)) ?_))
theorem active_ct (many : Int) (f : FuncId) : Ct Tryd.prog 73 [.int .i64 many, .func (.func f) #[] #[]] [] [] (fun b : Nat => .agg #[.int .i64 many, .func (.func 86) #[] #[ptr b]]) (fun b => [.blk b 110 [.func (.func f) #[] #[]]]) (fun _ => []) := by
  refine Ct.of _ Tryd.func73 Tryd.ntmps73 rfl rfl (fun X W => ?_)
  refine Jc.seq ?_
  refine Jc.region ?_
  refine Jl.box rfl (by rfl) ?_
  intro b3
  refine Jl.alloc tze112 ?_
  intro b4
  refine Jl.nil ?_
  refine Jq.thenN ?_
  refine Jc.seq ?_
  refine Jc.region ?_
  refine Jl.pv (PR.move rfl) ?_
  refine Jl.pv (PR.makeFunc rfl rfl) ?_
  refine Jl.pv (PR.build (by rfl) tze112 tpl112_0_1 (by rfl)) ?_
  refine Jl.storeW rfl tsh112 rfl (by rfl) (by simp [Value.oneCell']) (by repeat (first | exact Swap.here | apply Swap.there)) (by rfl) ?_
  refine Jl.nil ?_
  refine Jq.thenN ?_
  refine Jc.ret ?_
  exact Jq.fin b3 (.inl rfl) rfl (RetVs.cellA rfl (by repeat (first | exact Has.here | apply Has.there)) tsh112 (by rfl) RetVs.nil) rfl (by repeat (first | exact Take.nil | apply Take.cons (by repeat (first | exact Del.here | apply Del.there)))) (by repeat (first | exact trivial | refine And.intro (by repeat (first | exact Mem.here | apply Mem.there)) ?_))
/-- Where the deeds that hold others hold these. -/
structure Dp where
  k6 : Nat
  k7 : Nat
  k9 : Nat
  k10 : Nat
  k5 : Nat
  k12 : Nat
  k13 : Nat
  k14 : Nat
  k15 : Nat
  k16 : Nat
/-- The table, as it is made. -/
def deedM (p : Dp) : Int → Option Value := fun k =>
  if k = 16 then some (.agg #[.int .i64 0, .func (.func 86) #[] #[ptr p.k16]]) else
  if k = 15 then some (.agg #[.int .i64 0, .func (.func 86) #[] #[ptr p.k15]]) else
  if k = 14 then some (.agg #[.int .i64 1, .func (.func 86) #[] #[ptr p.k14]]) else
  if k = 13 then some (.agg #[.int .i64 0, .func (.func 86) #[] #[ptr p.k13]]) else
  if k = 12 then some (.agg #[.int .i64 0, .func (.func 86) #[] #[ptr p.k12]]) else
  if k = 5 then some (.agg #[.int .i64 1, .func (.func 86) #[] #[ptr p.k5]]) else
  if k = 11 then some (.agg #[.int .i64 2, .func (.func 72) #[] #[]]) else
  if k = 10 then some (.agg #[.int .i64 1, .func (.func 84) #[] #[ptr p.k10]]) else
  if k = 9 then some (.agg #[.int .i64 2, .func (.func 84) #[] #[ptr p.k9]]) else
  if k = 7 then some (.agg #[.int .i64 1, .func (.func 84) #[] #[ptr p.k7]]) else
  if k = 6 then some (.agg #[.int .i64 3, .func (.func 84) #[] #[ptr p.k6]]) else
  if k = 8 then some (.agg #[.int .i64 5, .func (.func 64) #[] #[]]) else
  if k = 4 then some (.agg #[.int .i64 3, .func (.func 63) #[] #[]]) else
  if k = 3 then some (.agg #[.int .i64 3, .func (.func 62) #[] #[]]) else
  if k = 1 then some (.agg #[.int .i64 0, .func (.func 61) #[] #[]]) else none
abbrev Dp.caps (p : Dp) : List Res := [.blk p.k16 110 [.func (.func 79) #[] #[]], .blk p.k15 110 [.func (.func 78) #[] #[]],
  .blk p.k14 110 [.func (.func 77) #[] #[]], .blk p.k13 110 [.func (.func 76) #[] #[]], .blk p.k12 110 [.func (.func 75) #[] #[]],
  .blk p.k5 110 [.func (.func 74) #[] #[]], .blk p.k10 124 [.func (.func 71) #[] #[]], .blk p.k9 124 [.func (.func 70) #[] #[]],
  .blk p.k7 124 [.func (.func 68) #[] #[]], .blk p.k6 124 [.func (.func 66) #[] #[]]]
theorem deeds_ct : Ct Tryd.prog 54 [] [] [] (fun x : Nat × Dp => .map (some x.1)) (fun x => .mapV Tryd.prog 5 .u8 x.1 15 (deedM x.2) :: x.2.caps) (fun _ => []) := by
  refine Ct.of _ Tryd.func54 Tryd.ntmps54 rfl rfl (fun X W => ?_)
  refine Jc.seq ?_
  refine Jc.region ?_
  refine Jl.pv (PR.assign rfl) ?_
  refine Jl.nil ?_
  refine Jq.thenN ?_
  refine Jc.seq ?_
  refine Jc.region ?_
  refine Jl.makeMapV .u8 Tryd.underlying114 ?_
  intro b1
  refine Jl.pv (PR.build (by rfl) tze112 tpl112_0_1 (by rfl)) ?_
  refine Jl.insertV _ rfl rfl rfl Tryd.underlying114 Tryd.underlying5 (by repeat (first | exact Swap.here | apply Swap.there)) (by decide) rfl (by decide) (fun _ => rfl) ?_
  refine Jl.pv (PR.build (by rfl) tze112 tpl112_0_1 (by rfl)) ?_
  refine Jl.insertV _ rfl rfl rfl Tryd.underlying114 Tryd.underlying5 (by repeat (first | exact Swap.here | apply Swap.there)) (by decide) rfl (by decide) (fun _ => rfl) ?_
  refine Jl.pv (PR.build (by rfl) tze112 tpl112_0_1 (by rfl)) ?_
  refine Jl.insertV _ rfl rfl rfl Tryd.underlying114 Tryd.underlying5 (by repeat (first | exact Swap.here | apply Swap.there)) (by decide) rfl (by decide) (fun _ => rfl) ?_
  refine Jl.pv (PR.build (by rfl) tze112 tpl112_0_1 (by rfl)) ?_
  refine Jl.insertV _ rfl rfl rfl Tryd.underlying114 Tryd.underlying5 (by repeat (first | exact Swap.here | apply Swap.there)) (by decide) rfl (by decide) (fun _ => rfl) ?_
  refine Jl.call (kept_ct 3 66) en65 (by rfl) (by repeat (first | exact Take.nil | apply Take.cons (by repeat (first | exact Del.here | apply Del.there)))) (by repeat (first | exact trivial | refine And.intro (by repeat (first | exact Mem.here | apply Mem.there)) ?_)) ?_
  rintro p6
  refine Jl.insertV _ rfl rfl rfl Tryd.underlying114 Tryd.underlying5 (by repeat (first | exact Swap.here | apply Swap.there)) (by decide) rfl (by decide) (fun _ => rfl) ?_
  refine Jl.call (kept_ct 1 68) en65 (by rfl) (by repeat (first | exact Take.nil | apply Take.cons (by repeat (first | exact Del.here | apply Del.there)))) (by repeat (first | exact trivial | refine And.intro (by repeat (first | exact Mem.here | apply Mem.there)) ?_)) ?_
  rintro p7
  refine Jl.insertV _ rfl rfl rfl Tryd.underlying114 Tryd.underlying5 (by repeat (first | exact Swap.here | apply Swap.there)) (by decide) rfl (by decide) (fun _ => rfl) ?_
  refine Jl.call (kept_ct 2 70) en65 (by rfl) (by repeat (first | exact Take.nil | apply Take.cons (by repeat (first | exact Del.here | apply Del.there)))) (by repeat (first | exact trivial | refine And.intro (by repeat (first | exact Mem.here | apply Mem.there)) ?_)) ?_
  rintro p9
  refine Jl.insertV _ rfl rfl rfl Tryd.underlying114 Tryd.underlying5 (by repeat (first | exact Swap.here | apply Swap.there)) (by decide) rfl (by decide) (fun _ => rfl) ?_
  refine Jl.call (kept_ct 1 71) en65 (by rfl) (by repeat (first | exact Take.nil | apply Take.cons (by repeat (first | exact Del.here | apply Del.there)))) (by repeat (first | exact trivial | refine And.intro (by repeat (first | exact Mem.here | apply Mem.there)) ?_)) ?_
  rintro p10
  refine Jl.insertV _ rfl rfl rfl Tryd.underlying114 Tryd.underlying5 (by repeat (first | exact Swap.here | apply Swap.there)) (by decide) rfl (by decide) (fun _ => rfl) ?_
  refine Jl.pv (PR.build (by rfl) tze112 tpl112_0_1 (by rfl)) ?_
  refine Jl.insertV _ rfl rfl rfl Tryd.underlying114 Tryd.underlying5 (by repeat (first | exact Swap.here | apply Swap.there)) (by decide) rfl (by decide) (fun _ => rfl) ?_
  refine Jl.call (active_ct 1 74) en73 (by rfl) (by repeat (first | exact Take.nil | apply Take.cons (by repeat (first | exact Del.here | apply Del.there)))) (by repeat (first | exact trivial | refine And.intro (by repeat (first | exact Mem.here | apply Mem.there)) ?_)) ?_
  rintro p5
  refine Jl.insertV _ rfl rfl rfl Tryd.underlying114 Tryd.underlying5 (by repeat (first | exact Swap.here | apply Swap.there)) (by decide) rfl (by decide) (fun _ => rfl) ?_
  refine Jl.call (active_ct 0 75) en73 (by rfl) (by repeat (first | exact Take.nil | apply Take.cons (by repeat (first | exact Del.here | apply Del.there)))) (by repeat (first | exact trivial | refine And.intro (by repeat (first | exact Mem.here | apply Mem.there)) ?_)) ?_
  rintro p12
  refine Jl.insertV _ rfl rfl rfl Tryd.underlying114 Tryd.underlying5 (by repeat (first | exact Swap.here | apply Swap.there)) (by decide) rfl (by decide) (fun _ => rfl) ?_
  refine Jl.call (active_ct 0 76) en73 (by rfl) (by repeat (first | exact Take.nil | apply Take.cons (by repeat (first | exact Del.here | apply Del.there)))) (by repeat (first | exact trivial | refine And.intro (by repeat (first | exact Mem.here | apply Mem.there)) ?_)) ?_
  rintro p13
  refine Jl.insertV _ rfl rfl rfl Tryd.underlying114 Tryd.underlying5 (by repeat (first | exact Swap.here | apply Swap.there)) (by decide) rfl (by decide) (fun _ => rfl) ?_
  refine Jl.call (active_ct 1 77) en73 (by rfl) (by repeat (first | exact Take.nil | apply Take.cons (by repeat (first | exact Del.here | apply Del.there)))) (by repeat (first | exact trivial | refine And.intro (by repeat (first | exact Mem.here | apply Mem.there)) ?_)) ?_
  rintro p14
  refine Jl.insertV _ rfl rfl rfl Tryd.underlying114 Tryd.underlying5 (by repeat (first | exact Swap.here | apply Swap.there)) (by decide) rfl (by decide) (fun _ => rfl) ?_
  refine Jl.call (active_ct 0 78) en73 (by rfl) (by repeat (first | exact Take.nil | apply Take.cons (by repeat (first | exact Del.here | apply Del.there)))) (by repeat (first | exact trivial | refine And.intro (by repeat (first | exact Mem.here | apply Mem.there)) ?_)) ?_
  rintro p15
  refine Jl.insertV _ rfl rfl rfl Tryd.underlying114 Tryd.underlying5 (by repeat (first | exact Swap.here | apply Swap.there)) (by decide) rfl (by decide) (fun _ => rfl) ?_
  refine Jl.call (active_ct 0 79) en73 (by rfl) (by repeat (first | exact Take.nil | apply Take.cons (by repeat (first | exact Del.here | apply Del.there)))) (by repeat (first | exact trivial | refine And.intro (by repeat (first | exact Mem.here | apply Mem.there)) ?_)) ?_
  rintro p16
  refine Jl.insertV _ rfl rfl rfl Tryd.underlying114 Tryd.underlying5 (by repeat (first | exact Swap.here | apply Swap.there)) (by decide) rfl (by decide) (fun _ => rfl) ?_
  refine Jl.pv (PR.move rfl) ?_
  refine Jl.pv (PR.assign rfl) ?_
  refine Jl.nil ?_
  refine Jq.thenN ?_
  refine Jc.ret ?_
  exact Jq.fin (b1, ⟨p6, p7, p9, p10, p5, p12, p13, p14, p15, p16⟩) (.inl rfl) rfl (RetVs.tmp rfl RetVs.nil) rfl (by repeat (first | exact Take.nil | apply Take.cons (by repeat (first | exact Del.here | apply Del.there)))) (by repeat (first | exact trivial | refine And.intro (by repeat (first | exact Mem.here | apply Mem.there)) ?_))
/-- How many numbers a kind has; whether there is one; what it does. -/
def dM : Nat → Int
  | 3 => 3 | 4 => 3 | 5 => 1 | 6 => 3 | 7 => 1 | 8 => 5 | 9 => 2 | 10 => 1 | 11 => 2 | 14 => 1 | _ => 0
def dT (k : Nat) : Bool := decide (1 ≤ k ∧ k ≤ 16 ∧ k ≠ 2)
def dF (p : Dp) : Nat → Value
  | 1 => .func (.func 61) #[] #[] | 3 => .func (.func 62) #[] #[] | 4 => .func (.func 63) #[] #[] | 8 => .func (.func 64) #[] #[] | 11 => .func (.func 72) #[] #[]
  | 6 => .func (.func 84) #[] #[ptr p.k6] | 7 => .func (.func 84) #[] #[ptr p.k7] | 9 => .func (.func 84) #[] #[ptr p.k9] | 10 => .func (.func 84) #[] #[ptr p.k10]
  | 5 => .func (.func 86) #[] #[ptr p.k5] | 12 => .func (.func 86) #[] #[ptr p.k12] | 13 => .func (.func 86) #[] #[ptr p.k13] | 14 => .func (.func 86) #[] #[ptr p.k14] | 15 => .func (.func 86) #[] #[ptr p.k15] | 16 => .func (.func 86) #[] #[ptr p.k16]
  | _ => .nilFunc
theorem deedM_at (p : Dp) : ∀ k : Nat, (deedM p (k : Int)).getD (.agg #[.int .i64 0, .nilFunc]) = .agg #[.int .i64 (dM k), dF p k] ∧ (deedM p (k : Int)).isSome = dT k
  | 0 => ⟨rfl, rfl⟩ | 1 => ⟨rfl, rfl⟩ | 2 => ⟨rfl, rfl⟩ | 3 => ⟨rfl, rfl⟩ | 4 => ⟨rfl, rfl⟩ | 5 => ⟨rfl, rfl⟩ | 6 => ⟨rfl, rfl⟩ | 7 => ⟨rfl, rfl⟩ | 8 => ⟨rfl, rfl⟩ | 9 => ⟨rfl, rfl⟩ | 10 => ⟨rfl, rfl⟩ | 11 => ⟨rfl, rfl⟩ | 12 => ⟨rfl, rfl⟩ | 13 => ⟨rfl, rfl⟩ | 14 => ⟨rfl, rfl⟩ | 15 => ⟨rfl, rfl⟩ | 16 => ⟨rfl, rfl⟩
  | k + 17 => by
    have e : deedM p ((k + 17 : Nat) : Int) = none := by
      unfold deedM
      rw [if_neg (by omega), if_neg (by omega), if_neg (by omega), if_neg (by omega), if_neg (by omega), if_neg (by omega), if_neg (by omega), if_neg (by omega), if_neg (by omega), if_neg (by omega), if_neg (by omega), if_neg (by omega), if_neg (by omega), if_neg (by omega), if_neg (by omega)]
    rw [e]
    refine ⟨rfl, ?_⟩
    simp [dT]
theorem dF_one (p : Dp) (k : Nat) : (dF p k).oneCell' = true := by
  unfold dF
  split <;> rfl
theorem bgroup_ct (b : Br) (z : BrA) (bb : Nat) (L : Option Addr) (cL : Nat) (l : List Int) (hn : l.length ≤ 1000) (hc : l.length ≤ cL) : Ct Tryd.prog 57 [ptr bb, .slice L l.length cL] (b.st bb z) [.rd L (i64s l), .lim] (fun _ : BrA => .tuple #[]) (fun x => (b.group l).st bb x) (fun _ => []) := by
  obtain ⟨⟨M, cM⟩, ⟨I, cI⟩, ⟨K, cK⟩⟩ := z
  by_cases he : cfE l = 0
  · by_cases hs : b.set = true
    · have e : b.group l = { b with cf := { cfOf l with ve := b.cf.ve }, set := true } := by rw [Br.group, if_pos he, if_pos hs]
      rw [e]
      refine Ct.of _ Tryd.func57 Tryd.ntmps57 rfl rfl (fun X W => ?_)
      refine Jc.seq ?_
      refine Jc.region ?_
      refine Jl.pv (PR.move rfl) ?_
      refine Jl.call (cof_ct L cL l hn hc) en31 (by rfl) (by repeat (first | exact Take.nil | apply Take.cons (by repeat (first | exact Del.here | apply Del.there)))) (by repeat (first | exact trivial | refine And.intro (by repeat (first | exact Mem.here | apply Mem.there)) ?_)) ?_
      rintro ⟨A8, c8⟩
      refine Jl.pv (PR.move rfl) ?_
      refine Jl.pv (PR.extract rfl (by rfl)) ?_
      refine Jl.pv (PR.extract rfl (by rfl)) ?_
      refine Jl.alloc tze24 ?_
      intro b4
      refine Jl.storeW rfl tsh24 rfl (by rfl) (by first | exact Br.cs_one _ _ | simp [Value.oneCell', Cf.cs]) (by repeat (first | exact Swap.here | apply Swap.there)) (by rfl) ?_
      refine Jl.pv (PR.assign rfl) ?_
      refine Jl.nil ?_
      refine Jq.thenN ?_
      refine Jc.seq ?_
      refine Jc.seq ?_
      refine Jc.region ?_
      refine Jl.pv (PR.move rfl) ?_
      refine Jl.pv (PR.neq false rfl rfl (by rw [he]; rfl)) ?_
      refine Jl.nil ?_
      refine Jq.thenN ?_
      refine Jc.condF rfl ?_
      refine Jc.skip ?_
      refine Jq.thenN ?_
      refine Jc.seq ?_
      refine Jc.seq ?_
      refine Jc.region ?_
      refine Jl.pv (PR.move rfl) ?_
      refine Jl.pv (PR.nilCheck rfl) ?_
      refine Jl.pv (PR.fieldAddr rfl tfl30_2) ?_
      refine Jl.pv (PR.load1 rfl tsh4 (by repeat (first | exact Has.here | apply Has.there)) (by rfl)) ?_
      refine Jl.as (.bool true) (congrArg Value.bool hs) ?_
      refine Jl.nil ?_
      refine Jq.thenN ?_
      refine Jc.condT rfl ?_
      refine Jc.region ?_
      refine Jl.pv (PR.move rfl) ?_
      refine Jl.pv (PR.nilCheck rfl) ?_
      refine Jl.pv (PR.fieldAddr rfl tfl30_3) ?_
      refine Jl.pv (PR.fieldAddr rfl tfl24_12) ?_
      refine Jl.pv (PR.load1 rfl tsh3 (by repeat (first | exact Has.here | apply Has.there)) (by rfl)) ?_
      refine Jl.pv (PR.fieldAddr rfl tfl24_12) ?_
      refine Jl.store1 rfl tsh3 rfl (by rfl) (by repeat (first | exact Swap.here | apply Swap.there)) (by rfl) ?_
      refine Jl.nil ?_
      refine Jq.thenN ?_
      refine Jc.region ?_
      refine Jl.pv (PR.move rfl) ?_
      refine Jl.pv (PR.move rfl) ?_
      refine Jl.pv (PR.loadW rfl tsh24 (by repeat (first | exact Has.here | apply Has.there)) (by rfl)) ?_
      refine Jl.pv (PR.nilCheck rfl) ?_
      refine Jl.pv (PR.fieldAddr rfl tfl30_3) ?_
      refine Jl.storeA rfl tsh24 rfl (by rfl) (by first | exact Br.cs_one _ _ | simp [Value.oneCell', Cf.cs]) (by repeat (first | exact Swap.here | apply Swap.there)) (by rfl) ?_
      refine Jl.pv (PR.nilCheck rfl) ?_
      refine Jl.pv (PR.fieldAddr rfl tfl30_2) ?_
      refine Jl.store1 rfl tsh4 rfl (by rfl) (by repeat (first | exact Swap.here | apply Swap.there)) (by rfl) ?_
      refine Jl.nil ?_
      exact Jq.fin ((A8, c8), (I, cI), (K, cK)) (.inr rfl) rfl RetVs.nil rfl (by repeat (first | exact Take.nil | apply Take.cons (by repeat (first | exact Del.here | apply Del.there)))) (by repeat (first | exact trivial | refine And.intro (by repeat (first | exact Mem.here | apply Mem.there)) ?_))
    · have e : b.group l = { b with cf := cfOf l, set := true } := by rw [Br.group, if_pos he, if_neg hs]
      rw [e]
      refine Ct.of _ Tryd.func57 Tryd.ntmps57 rfl rfl (fun X W => ?_)
      refine Jc.seq ?_
      refine Jc.region ?_
      refine Jl.pv (PR.move rfl) ?_
      refine Jl.call (cof_ct L cL l hn hc) en31 (by rfl) (by repeat (first | exact Take.nil | apply Take.cons (by repeat (first | exact Del.here | apply Del.there)))) (by repeat (first | exact trivial | refine And.intro (by repeat (first | exact Mem.here | apply Mem.there)) ?_)) ?_
      rintro ⟨A8, c8⟩
      refine Jl.pv (PR.move rfl) ?_
      refine Jl.pv (PR.extract rfl (by rfl)) ?_
      refine Jl.pv (PR.extract rfl (by rfl)) ?_
      refine Jl.alloc tze24 ?_
      intro b4
      refine Jl.storeW rfl tsh24 rfl (by rfl) (by first | exact Br.cs_one _ _ | simp [Value.oneCell', Cf.cs]) (by repeat (first | exact Swap.here | apply Swap.there)) (by rfl) ?_
      refine Jl.pv (PR.assign rfl) ?_
      refine Jl.nil ?_
      refine Jq.thenN ?_
      refine Jc.seq ?_
      refine Jc.seq ?_
      refine Jc.region ?_
      refine Jl.pv (PR.move rfl) ?_
      refine Jl.pv (PR.neq false rfl rfl (by rw [he]; rfl)) ?_
      refine Jl.nil ?_
      refine Jq.thenN ?_
      refine Jc.condF rfl ?_
      refine Jc.skip ?_
      refine Jq.thenN ?_
      refine Jc.seq ?_
      refine Jc.seq ?_
      refine Jc.region ?_
      refine Jl.pv (PR.move rfl) ?_
      refine Jl.pv (PR.nilCheck rfl) ?_
      refine Jl.pv (PR.fieldAddr rfl tfl30_2) ?_
      refine Jl.pv (PR.load1 rfl tsh4 (by repeat (first | exact Has.here | apply Has.there)) (by rfl)) ?_
      refine Jl.as (.bool false) (congrArg Value.bool (by simpa using hs)) ?_
      refine Jl.nil ?_
      refine Jq.thenN ?_
      refine Jc.condF rfl ?_
      refine Jc.skip ?_
      refine Jq.thenN ?_
      refine Jc.region ?_
      refine Jl.pv (PR.move rfl) ?_
      refine Jl.pv (PR.move rfl) ?_
      refine Jl.pv (PR.loadW rfl tsh24 (by repeat (first | exact Has.here | apply Has.there)) (by rfl)) ?_
      refine Jl.pv (PR.nilCheck rfl) ?_
      refine Jl.pv (PR.fieldAddr rfl tfl30_3) ?_
      refine Jl.storeA rfl tsh24 rfl (by rfl) (by first | exact Br.cs_one _ _ | simp [Value.oneCell', Cf.cs]) (by repeat (first | exact Swap.here | apply Swap.there)) (by rfl) ?_
      refine Jl.pv (PR.nilCheck rfl) ?_
      refine Jl.pv (PR.fieldAddr rfl tfl30_2) ?_
      refine Jl.store1 rfl tsh4 rfl (by rfl) (by repeat (first | exact Swap.here | apply Swap.there)) (by rfl) ?_
      refine Jl.nil ?_
      exact Jq.fin ((A8, c8), (I, cI), (K, cK)) (.inr rfl) rfl RetVs.nil rfl (by repeat (first | exact Take.nil | apply Take.cons (by repeat (first | exact Del.here | apply Del.there)))) (by repeat (first | exact trivial | refine And.intro (by repeat (first | exact Mem.here | apply Mem.there)) ?_))
  · have e : b.group l = b := by rw [Br.group, if_neg he]
    rw [e]
    refine Ct.of _ Tryd.func57 Tryd.ntmps57 rfl rfl (fun X W => ?_)
    refine Jc.seq ?_
    refine Jc.region ?_
    refine Jl.pv (PR.move rfl) ?_
    refine Jl.call (cof_ct L cL l hn hc) en31 (by rfl) (by repeat (first | exact Take.nil | apply Take.cons (by repeat (first | exact Del.here | apply Del.there)))) (by repeat (first | exact trivial | refine And.intro (by repeat (first | exact Mem.here | apply Mem.there)) ?_)) ?_
    rintro ⟨A8, c8⟩
    refine Jl.pv (PR.move rfl) ?_
    refine Jl.pv (PR.extract rfl (by rfl)) ?_
    refine Jl.pv (PR.extract rfl (by rfl)) ?_
    refine Jl.alloc tze24 ?_
    intro b4
    refine Jl.storeW rfl tsh24 rfl (by rfl) (by first | exact Br.cs_one _ _ | simp [Value.oneCell', Cf.cs]) (by repeat (first | exact Swap.here | apply Swap.there)) (by rfl) ?_
    refine Jl.pv (PR.assign rfl) ?_
    refine Jl.nil ?_
    refine Jq.thenN ?_
    refine Jc.seq ?_
    refine Jc.seq ?_
    refine Jc.region ?_
    refine Jl.pv (PR.move rfl) ?_
    refine Jl.pv (PR.neq true rfl rfl (by simpa using he)) ?_
    refine Jl.nil ?_
    refine Jq.thenN ?_
    refine Jc.condT rfl ?_
    refine Jc.ret ?_
    refine Jq.thenR ?_
    exact Jq.fin ((M, cM), (I, cI), (K, cK)) (.inl rfl) rfl RetVs.nil rfl (by repeat (first | exact Take.nil | apply Take.cons (by repeat (first | exact Del.here | apply Del.there)))) (by repeat (first | exact trivial | refine And.intro (by repeat (first | exact Mem.here | apply Mem.there)) ?_))
end Go.Proofs.YtcppphgpbaablaaDoor
