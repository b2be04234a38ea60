/-
Contracts of the reference of disks.
-/
import Derived.Test.YthlmleemapeohaaDkC
namespace Go.Proofs.Ythlmleemapeohaa
set_option linter.unusedVariables false
open Go.RowKit
attribute [local irreducible] Res.blk Res.row Fact.rd
theorem rown_ct (A : Option Addr) (c : Nat) (d : Dk) (hn : d.b.length ≤ 500000) (hc : d.b.length ≤ c) :
    Ct Try.prog 20 [d.v (A, c)] [] [.rd A (u8s d.b)] d.own.v (fun x => [d.own.row x]) (fun _ => []) := by
  have hl : d.own.b.length ≤ d.b.length := by simp [Dk.own]; omega
  refine Ct.of _ Try.func20 Try.ntmps20 rfl rfl (fun X W => ?_)
  refine Jc.seq ?_
  refine Jc.region ?_
  refine Jl.box rfl (by rfl) ?_
  intro b1
  refine Jl.alloc tze24 ?_
  intro b2
  refine Jl.nil ?_
  refine Jq.thenN ?_
  refine Jc.seq ?_
  refine Jc.region ?_
  refine Jl.pv (PR.fieldAddr rfl tfl24_2) ?_
  refine Jl.pv (PR.load1 rfl tsh3 (by repeat (first | exact Has.here | apply Has.there)) (by rfl)) ?_
  refine Jl.pv (PR.max2 _ rfl rfl rfl) ?_
  refine Jl.pv (PR.min2 d.room rfl rfl rfl) ?_
  refine Jl.pv (PR.assign rfl) ?_
  refine Jl.nil ?_
  refine Jq.thenN ?_
  refine Jc.seq ?_
  refine Jc.region ?_
  refine Jl.buildSlice (by rfl) tsl22 tzr22_0 (by rfl) (by rfl) ?_
  intro b9
  refine Jl.pv (PR.fieldAddr rfl tfl24_0) ?_
  refine Jl.pv (PR.load1 rfl tsh22 (by repeat (first | exact Has.here | apply Has.there)) (by rfl)) ?_
  refine Jl.pv (PR.fieldAddr rfl tfl24_0) ?_
  refine Jl.pv (PR.load1 rfl tsh22 (by repeat (first | exact Has.here | apply Has.there)) (by rfl)) ?_
  refine Jl.pv (PR.len rfl tsl22) ?_
  refine Jl.pv (PR.move rfl) ?_
  refine Jl.pv (PR.min2 d.own.b.length rfl rfl (by simp [Dk.own, Dk.room]; omega)) ?_
  refine Jl.slice 0 d.own.b.length d.own.b.length (u8s d.own.b) rfl tsl22 rfl rfl (by repeat (first | exact Mem.here | apply Mem.there)) (by omega) hl hc rfl (by simp [Dk.own, u8s, List.map_take]) ?_
  intro A17 c17 hc17
  clear hc17
  refine Jl.toRow 1 0 (by repeat (first | exact Swap.here | apply Swap.there)) (by rfl) (by rfl) ?_
  refine Jl.append d.own.b.length (u8s d.own.b) rfl rfl rfl tsl22 tze5 (by rfl) (by decide) tby5 (fun _ _ => (by repeat (first | exact Swap.here | apply Swap.there))) (by repeat (first | exact Mem.here | apply Mem.there)) (by omega) rfl (by simp [u8s]) (u8s_one _) (by omega) (by decide) ?_
  intro A18 c18
  refine Jl.pv (PR.assign rfl) ?_
  refine Jl.nil ?_
  refine Jq.thenN ?_
  refine Jc.seq ?_
  refine Jc.region ?_
  refine Jl.pv (PR.move rfl) ?_
  refine Jl.pv (PR.fieldAddr rfl tfl24_1) ?_
  refine Jl.pv (PR.load1 rfl tsh3 (by repeat (first | exact Has.here | apply Has.there)) (by rfl)) ?_
  refine Jl.pv (PR.max2 _ rfl rfl rfl) ?_
  refine Jl.pv (PR.move rfl) ?_
  refine Jl.pv (PR.len rfl tsl22) ?_
  refine Jl.pv (PR.min2 d.own.s rfl rfl rfl) ?_
  refine Jl.pv (PR.move rfl) ?_
  refine Jl.pv (PR.build (by rfl) tze24 tpl24_0_1_2 (by rfl)) ?_
  refine Jl.storeW rfl tsh24 rfl (by rfl) (by simp [Value.oneCell']) (by repeat (first | exact Swap.here | apply Swap.there)) (by rfl) ?_
  refine Jl.nil ?_
  refine Jq.thenN ?_
  refine Jc.ret ?_
  exact Jq.fin (A18, c18) (.inl rfl) rfl (RetVs.cellA rfl (by repeat (first | exact Has.here | apply Has.there)) tsh24 (by rfl) RetVs.nil) rfl (by repeat (first | exact Take.nil | apply Take.cons (by repeat (first | exact Del.here | apply Del.there)))) (by repeat (first | exact trivial | refine And.intro (by repeat (first | exact Mem.here | apply Mem.there)) ?_))
theorem rnew_ct (room : Int) : Ct Try.prog 21 [.int .i64 room] [] [] (Dk.new room).v (fun x => [(Dk.new room).row x]) (fun _ => []) := by
  rw [← new_own]
  refine Ct.of _ Try.func21 Try.ntmps21 rfl rfl (fun X W => ?_)
  refine Jc.seq ?_
  refine Jc.region ?_
  refine Jl.alloc tze24 ?_
  intro b2
  refine Jl.nil ?_
  refine Jq.thenN ?_
  refine Jc.seq ?_
  refine Jc.region ?_
  refine Jl.pv (PR.move rfl) ?_
  refine Jl.pv (PR.build (by rfl) tze24 tpl24_2 (by rfl)) ?_
  refine Jl.fact0 (.rd none (u8s (⟨[], 0, room⟩ : Dk).b)) (fun X W => Fact.rd_nil none X W) ?_
  refine Jl.call (rown_ct none 0 ⟨[], 0, room⟩ (by simp) (by simp)) en20 (by rfl) (by repeat (first | exact Take.nil | apply Take.cons (by repeat (first | exact Del.here | apply Del.there)))) (by repeat (first | exact trivial | refine And.intro (by repeat (first | exact Mem.here | apply Mem.there)) ?_)) ?_
  rintro ⟨A5, c5⟩
  refine Jl.storeW rfl tsh24 rfl (by rfl) (by simp [Value.oneCell']) (by repeat (first | exact Swap.here | apply Swap.there)) (by rfl) ?_
  refine Jl.nil ?_
  refine Jq.thenN ?_
  refine Jc.ret ?_
  exact Jq.fin (A5, c5) (.inl rfl) rfl (RetVs.cellA rfl (by repeat (first | exact Has.here | apply Has.there)) tsh24 (by rfl) RetVs.nil) rfl (by repeat (first | exact Take.nil | apply Take.cons (by repeat (first | exact Del.here | apply Del.there)))) (by repeat (first | exact trivial | refine And.intro (by repeat (first | exact Mem.here | apply Mem.there)) ?_))
theorem rfree_ct (A : Option Addr) (c : Nat) (d : Dk) (hn : d.b.length ≤ 500000) (hc : d.b.length ≤ c) : Ct Try.prog 25 [d.v (A, c)] [] [.rd A (u8s d.b)] (fun _ : Unit => .int .i64 (d.own.r - d.own.b.length)) (fun _ => []) (fun _ => []) := by
  have hl : d.own.b.length ≤ d.b.length := by simp [Dk.own]; omega
  have hr : 0 ≤ d.own.r ∧ d.own.r ≤ 65536 := by have := d.own_fit; omega
  refine Ct.of _ Try.func25 Try.ntmps25 rfl rfl (fun X W => ?_)
  refine Jc.seq ?_
  refine Jc.region ?_
  refine Jl.box rfl (by rfl) ?_
  intro b1
  refine Jl.pv (PR.assign rfl) ?_
  refine Jl.nil ?_
  refine Jq.thenN ?_
  refine Jc.seq ?_
  refine Jc.region ?_
  refine Jl.pv (PR.loadW rfl tsh24 (by repeat (first | exact Has.here | apply Has.there)) (by rfl)) ?_
  refine Jl.call (rown_ct A c d hn hc) en20 (by rfl) (by repeat (first | exact Take.nil | apply Take.cons (by repeat (first | exact Del.here | apply Del.there)))) (by repeat (first | exact trivial | refine And.intro (by repeat (first | exact Mem.here | apply Mem.there)) ?_)) ?_
  rintro ⟨A4, c4⟩
  refine Jl.storeW rfl tsh24 rfl (by rfl) (by simp [Value.oneCell']) (by repeat (first | exact Swap.here | apply Swap.there)) (by rfl) ?_
  refine Jl.nil ?_
  refine Jq.thenN ?_
  refine Jc.seq ?_
  refine Jc.region ?_
  refine Jl.pv (PR.fieldAddr rfl tfl24_2) ?_
  refine Jl.pv (PR.load1 rfl tsh3 (by repeat (first | exact Has.here | apply Has.there)) (by rfl)) ?_
  refine Jl.pv (PR.fieldAddr rfl tfl24_0) ?_
  refine Jl.pv (PR.load1 rfl tsh22 (by repeat (first | exact Has.here | apply Has.there)) (by rfl)) ?_
  refine Jl.pv (PR.len rfl tsl22) ?_
  refine Jl.pv (PR.sub (d.own.r - d.own.b.length) rfl rfl (w64 (by omega) (by omega))) ?_
  refine Jl.pv (PR.assign rfl) ?_
  refine Jl.nil ?_
  refine Jq.thenN ?_
  refine Jc.ret ?_
  exact Jq.fin () (.inl rfl) rfl (RetVs.tmp rfl RetVs.nil) rfl (by repeat (first | exact Take.nil | apply Take.cons (by repeat (first | exact Del.here | apply Del.there)))) (by repeat (first | exact trivial | refine And.intro (by repeat (first | exact Mem.here | apply Mem.there)) ?_))
theorem rsync_ct (A : Option Addr) (c : Nat) (d : Dk) (hn : d.b.length ≤ 500000) (hc : d.b.length ≤ c) :
    Ct Try.prog 22 [d.v (A, c)] [] [.rd A (u8s d.b)] d.sync.v (fun x => [d.sync.row x]) (fun _ => []) := by
  refine Ct.of _ Try.func22 Try.ntmps22 rfl rfl (fun X W => ?_)
  refine Jc.seq ?_
  refine Jc.region ?_
  refine Jl.box rfl (by rfl) ?_
  intro b1
  refine Jl.alloc tze24 ?_
  intro b2
  refine Jl.nil ?_
  refine Jq.thenN ?_
  refine Jc.seq ?_
  refine Jc.region ?_
  refine Jl.pv (PR.loadW rfl tsh24 (by repeat (first | exact Has.here | apply Has.there)) (by rfl)) ?_
  refine Jl.call (rown_ct A c d hn hc) en20 (by rfl) (by repeat (first | exact Take.nil | apply Take.cons (by repeat (first | exact Del.here | apply Del.there)))) (by repeat (first | exact trivial | refine And.intro (by repeat (first | exact Mem.here | apply Mem.there)) ?_)) ?_
  rintro ⟨A4, c4⟩
  refine Jl.storeW rfl tsh24 rfl (by rfl) (by simp [Value.oneCell']) (by repeat (first | exact Swap.here | apply Swap.there)) (by rfl) ?_
  refine Jl.nil ?_
  refine Jq.thenN ?_
  refine Jc.seq ?_
  refine Jc.region ?_
  refine Jl.pv (PR.fieldAddr rfl tfl24_0) ?_
  refine Jl.pv (PR.load1 rfl tsh22 (by repeat (first | exact Has.here | apply Has.there)) (by rfl)) ?_
  refine Jl.pv (PR.len rfl tsl22) ?_
  refine Jl.pv (PR.fieldAddr rfl tfl24_1) ?_
  refine Jl.store1 rfl tsh3 rfl (by rfl) (by repeat (first | exact Swap.here | apply Swap.there)) (by rfl) ?_
  refine Jl.nil ?_
  refine Jq.thenN ?_
  refine Jc.seq ?_
  refine Jc.region ?_
  refine Jl.pv (PR.loadW rfl tsh24 (by repeat (first | exact Has.here | apply Has.there)) (by rfl)) ?_
  refine Jl.storeW rfl tsh24 rfl (by rfl) (by simp [Value.oneCell']) (by repeat (first | exact Swap.here | apply Swap.there)) (by rfl) ?_
  refine Jl.nil ?_
  refine Jq.thenN ?_
  refine Jc.ret ?_
  exact Jq.fin (A4, c4) (.inl rfl) rfl (RetVs.cellA rfl (by repeat (first | exact Has.here | apply Has.there)) tsh24 (by rfl) RetVs.nil) rfl (by repeat (first | exact Take.nil | apply Take.cons (by repeat (first | exact Del.here | apply Del.there)))) (by repeat (first | exact trivial | refine And.intro (by repeat (first | exact Mem.here | apply Mem.there)) ?_))
theorem rcrash_ct (A : Option Addr) (c : Nat) (d : Dk) (keep : Int) (hn : d.b.length ≤ 500000) (hc : d.b.length ≤ c) :
    Ct Try.prog 23 [d.v (A, c), .int .i64 keep] [] [.rd A (u8s d.b)] (d.crash keep).v (fun x => [(d.crash keep).row x]) (fun _ => []) := by
  have hl : d.own.b.length ≤ d.b.length := by simp [Dk.own]; omega
  have hle := d.left_le keep
  have heq := d.left_eq keep
  have hfit := d.own_fit
  refine Ct.of _ Try.func23 Try.ntmps23 rfl rfl (fun X W => ?_)
  refine Jc.seq ?_
  refine Jc.region ?_
  refine Jl.box rfl (by rfl) ?_
  intro b2
  refine Jl.alloc tze24 ?_
  intro b4
  refine Jl.nil ?_
  refine Jq.thenN ?_
  refine Jc.seq ?_
  refine Jc.region ?_
  refine Jl.pv (PR.loadW rfl tsh24 (by repeat (first | exact Has.here | apply Has.there)) (by rfl)) ?_
  refine Jl.call (rown_ct A c d hn hc) en20 (by rfl) (by repeat (first | exact Take.nil | apply Take.cons (by repeat (first | exact Del.here | apply Del.there)))) (by repeat (first | exact trivial | refine And.intro (by repeat (first | exact Mem.here | apply Mem.there)) ?_)) ?_
  rintro ⟨A7, c7⟩
  refine Jl.pureR (p := d.own.b.length ≤ c7) (fun W hs => row_cap_dk hs.1) fun hcap => ?_
  refine Jl.storeW rfl tsh24 rfl (by rfl) (by simp [Value.oneCell']) (by repeat (first | exact Swap.here | apply Swap.there)) (by rfl) ?_
  refine Jl.nil ?_
  refine Jq.thenN ?_
  refine Jc.seq ?_
  refine Jc.region ?_
  refine Jl.pv (PR.fieldAddr rfl tfl24_1) ?_
  refine Jl.pv (PR.load1 rfl tsh3 (by repeat (first | exact Has.here | apply Has.there)) (by rfl)) ?_
  refine Jl.pv (PR.move rfl) ?_
  refine Jl.pv (PR.max2 _ rfl rfl rfl) ?_
  refine Jl.pv (PR.fieldAddr rfl tfl24_0) ?_
  refine Jl.pv (PR.load1 rfl tsh22 (by repeat (first | exact Has.here | apply Has.there)) (by rfl)) ?_
  refine Jl.pv (PR.len rfl tsl22) ?_
  refine Jl.pv (PR.fieldAddr rfl tfl24_1) ?_
  refine Jl.pv (PR.load1 rfl tsh3 (by repeat (first | exact Has.here | apply Has.there)) (by rfl)) ?_
  refine Jl.pv (PR.sub ((d.own.b.length : Int) - d.own.s) rfl rfl (w64 (by omega) (by omega))) ?_
  refine Jl.pv (PR.min2 _ rfl rfl rfl) ?_
  refine Jl.pv (PR.add ((d.left keep : Nat) : Int) rfl rfl (by rw [heq, w64 (by omega) (by omega)])) ?_
  refine Jl.pv (PR.assign rfl) ?_
  refine Jl.nil ?_
  refine Jq.thenN ?_
  refine Jc.seq ?_
  refine Jc.region ?_
  refine Jl.pv (PR.fieldAddr rfl tfl24_0) ?_
  refine Jl.pv (PR.load1 rfl tsh22 (by repeat (first | exact Has.here | apply Has.there)) (by rfl)) ?_
  refine Jl.pv (PR.move rfl) ?_
  refine Jl.pv (PR.slice0 (d.left keep) rfl tsl22 rfl hle hcap) ?_
  refine Jl.rsay (q := d.own.row (A7, c7)) (q' := (d.crash keep).row (A7, c7)) (by repeat (first | exact Swap.here | apply Swap.there)) (cut_says d keep _) (cut_owns d keep _) ?_
  refine Jl.pv (PR.fieldAddr rfl tfl24_0) ?_
  refine Jl.store1 rfl tsh22 rfl (by rfl) (by repeat (first | exact Swap.here | apply Swap.there)) (by rfl) ?_
  refine Jl.nil ?_
  refine Jq.thenN ?_
  refine Jc.seq ?_
  refine Jc.region ?_
  refine Jl.pv (PR.move rfl) ?_
  refine Jl.pv (PR.fieldAddr rfl tfl24_1) ?_
  refine Jl.store1 rfl tsh3 rfl (by rfl) (by repeat (first | exact Swap.here | apply Swap.there)) (by rfl) ?_
  refine Jl.nil ?_
  refine Jq.thenN ?_
  refine Jc.seq ?_
  refine Jc.region ?_
  refine Jl.pv (PR.loadW rfl tsh24 (by repeat (first | exact Has.here | apply Has.there)) (by rfl)) ?_
  refine Jl.storeW rfl tsh24 rfl (by rfl) (by simp [Value.oneCell']) (by repeat (first | exact Swap.here | apply Swap.there)) (by rfl) ?_
  refine Jl.nil ?_
  refine Jq.thenN ?_
  refine Jc.ret ?_
  exact Jq.fin (A7, c7) (.inl rfl) rfl (RetVs.cellA rfl (by repeat (first | exact Has.here | apply Has.there)) tsh24 (by rfl) RetVs.nil) (by rw [Dk.v, d.crash_len]; rfl) (by repeat (first | exact Take.nil | apply Take.cons (by repeat (first | exact Del.here | apply Del.there)))) (by repeat (first | exact trivial | refine And.intro (by repeat (first | exact Mem.here | apply Mem.there)) ?_))
theorem rappend_ct (A B : Option Addr) (c c' : Nat) (d : Dk) (b : List UInt8) (hn : d.b.length ≤ 500000) (hc : d.b.length ≤ c) (hb : b.length ≤ 100000) :
    Ct Try.prog 16 [d.v (A, c), .slice B b.length c'] [] [.rd A (u8s d.b), .rd B (u8s b)] (fun x => .tuple #[(d.app b).v x, .int .i64 (d.appE b)]) (fun x => [(d.app b).row x]) (fun _ => []) := by
  have hl : d.own.b.length ≤ d.b.length := by simp [Dk.own]; omega
  have hfo := d.own_fit
  have hof : ∀ A7 c7, d.own.b.length ≤ c7 → Ct Try.prog 25 [d.own.v (A7, c7)] [] [.rd A7 (u8s d.own.b)] (fun _ : Unit => .int .i64 (d.own.r - d.own.b.length)) (fun _ => []) (fun _ => []) := fun A7 c7 h => by
    have := rfree_ct A7 c7 d.own (by omega) h
    rw [d.own_own] at this
    exact this
  by_cases hfit : d.fits b
  · have e1 : d.app b = ⟨d.own.b ++ b, d.own.s, d.own.r⟩ := if_pos hfit
    have e2 : d.appE b = 0 := if_pos hfit
    have hf' : ((d.own.b.length + b.length : Nat) : Int) ≤ d.own.r := by unfold Dk.fits at hfit; simpa using hfit
    rw [e1, e2]
    refine Ct.of _ Try.func16 Try.ntmps16 rfl rfl (fun X W => ?_)
    refine Jc.seq ?_
    refine Jc.region ?_
    refine Jl.box rfl (by rfl) ?_
    intro b2
    refine Jl.alloc tze24 ?_
    intro b4
    refine Jl.pv (PR.assign rfl) ?_
    refine Jl.nil ?_
    refine Jq.thenN ?_
    refine Jc.seq ?_
    refine Jc.region ?_
    refine Jl.pv (PR.loadW rfl tsh24 (by repeat (first | exact Has.here | apply Has.there)) (by rfl)) ?_
    refine Jl.call (rown_ct A c d hn hc) en20 (by rfl) (by repeat (first | exact Take.nil | apply Take.cons (by repeat (first | exact Del.here | apply Del.there)))) (by repeat (first | exact trivial | refine And.intro (by repeat (first | exact Mem.here | apply Mem.there)) ?_)) ?_
    rintro ⟨A7, c7⟩
    refine Jl.pureR (p := d.own.b.length ≤ c7) (fun W hs => row_cap_dk hs.1) fun hcap => ?_
    refine Jl.storeW rfl tsh24 rfl (by rfl) (by simp [Value.oneCell']) (by repeat (first | exact Swap.here | apply Swap.there)) (by rfl) ?_
    refine Jl.nil ?_
    refine Jq.thenN ?_
    refine Jc.seq ?_
    refine Jc.seq ?_
    refine Jc.region ?_
    refine Jl.pv (PR.move rfl) ?_
    refine Jl.pv (PR.len rfl tsl22) ?_
    refine Jl.pv (PR.loadW rfl tsh24 (by repeat (first | exact Has.here | apply Has.there)) (by rfl)) ?_
    refine Jl.calll (fs := []) (cs := []) (hof A7 c7 hcap) en25 rfl (by rfl) (by rfl) (by repeat (first | exact Take.nil | apply Take.cons (by repeat (first | exact Del.here | apply Del.there)))) (ls := [d.own.row (A7, c7)]) (by repeat (first | exact Take.nil | apply Take.cons (by repeat (first | exact Del.here | apply Del.there)))) (by repeat (first | exact Lends.nil | apply Lends.row | apply Lends.blk)) (by repeat (first | exact trivial | refine And.intro (by repeat (first | exact Mem.here | apply Mem.there)) ?_)) ?_
    rintro ⟨⟩
    refine Jl.pv (PR.gtr false rfl rfl (by simp; omega)) ?_
    refine Jl.nil ?_
    refine Jq.thenN ?_
    refine Jc.condF rfl ?_
    refine Jc.skip ?_
    refine Jq.thenN ?_
    refine Jc.seq ?_
    refine Jc.region ?_
    refine Jl.pv (PR.fieldAddr rfl tfl24_0) ?_
    refine Jl.pv (PR.load1 rfl tsh22 (by repeat (first | exact Has.here | apply Has.there)) (by rfl)) ?_
    refine Jl.pv (PR.move rfl) ?_
    refine Jl.append (d.own.b ++ b).length (u8s (d.own.b ++ b)) rfl rfl rfl tsl22 tze5 (by rfl) (by decide) tby5 (fun _ _ => (by repeat (first | exact Swap.here | apply Swap.there))) (by repeat (first | exact Mem.here | apply Mem.there)) (by simp) (by simp [u8s]) (by simp [u8s]) (u8s_one _) (by omega) (by decide) ?_
    intro A17 c17
    refine Jl.pv (PR.fieldAddr rfl tfl24_0) ?_
    refine Jl.store1 rfl tsh22 rfl (by rfl) (by repeat (first | exact Swap.here | apply Swap.there)) (by rfl) ?_
    refine Jl.nil ?_
    refine Jq.thenN ?_
    refine Jc.seq ?_
    refine Jc.region ?_
    refine Jl.pv (PR.loadW rfl tsh24 (by repeat (first | exact Has.here | apply Has.there)) (by rfl)) ?_
    refine Jl.storeW rfl tsh24 rfl (by rfl) (by simp [Value.oneCell']) (by repeat (first | exact Swap.here | apply Swap.there)) (by rfl) ?_
    refine Jl.pv (PR.assign rfl) ?_
    refine Jl.nil ?_
    refine Jq.thenN ?_
    refine Jc.ret ?_
    exact Jq.fin (A17, c17) (.inl rfl) rfl (RetVs.cellA rfl (by repeat (first | exact Has.here | apply Has.there)) tsh24 (by rfl) (RetVs.tmp rfl RetVs.nil)) rfl (by repeat (first | exact Take.nil | apply Take.cons (by repeat (first | exact Del.here | apply Del.there)))) (by repeat (first | exact trivial | refine And.intro (by repeat (first | exact Mem.here | apply Mem.there)) ?_))
  · have e1 : d.app b = d.own := if_neg hfit
    have e2 : d.appE b = 30 := if_neg hfit
    have hf' : ¬ ((d.own.b.length + b.length : Nat) : Int) ≤ d.own.r := by unfold Dk.fits at hfit; simpa using hfit
    rw [e1, e2]
    refine Ct.of _ Try.func16 Try.ntmps16 rfl rfl (fun X W => ?_)
    refine Jc.seq ?_
    refine Jc.region ?_
    refine Jl.box rfl (by rfl) ?_
    intro b2
    refine Jl.alloc tze24 ?_
    intro b4
    refine Jl.pv (PR.assign rfl) ?_
    refine Jl.nil ?_
    refine Jq.thenN ?_
    refine Jc.seq ?_
    refine Jc.region ?_
    refine Jl.pv (PR.loadW rfl tsh24 (by repeat (first | exact Has.here | apply Has.there)) (by rfl)) ?_
    refine Jl.call (rown_ct A c d hn hc) en20 (by rfl) (by repeat (first | exact Take.nil | apply Take.cons (by repeat (first | exact Del.here | apply Del.there)))) (by repeat (first | exact trivial | refine And.intro (by repeat (first | exact Mem.here | apply Mem.there)) ?_)) ?_
    rintro ⟨A7, c7⟩
    refine Jl.pureR (p := d.own.b.length ≤ c7) (fun W hs => row_cap_dk hs.1) fun hcap => ?_
    refine Jl.storeW rfl tsh24 rfl (by rfl) (by simp [Value.oneCell']) (by repeat (first | exact Swap.here | apply Swap.there)) (by rfl) ?_
    refine Jl.nil ?_
    refine Jq.thenN ?_
    refine Jc.seq ?_
    refine Jc.seq ?_
    refine Jc.region ?_
    refine Jl.pv (PR.move rfl) ?_
    refine Jl.pv (PR.len rfl tsl22) ?_
    refine Jl.pv (PR.loadW rfl tsh24 (by repeat (first | exact Has.here | apply Has.there)) (by rfl)) ?_
    refine Jl.calll (fs := []) (cs := []) (hof A7 c7 hcap) en25 rfl (by rfl) (by rfl) (by repeat (first | exact Take.nil | apply Take.cons (by repeat (first | exact Del.here | apply Del.there)))) (ls := [d.own.row (A7, c7)]) (by repeat (first | exact Take.nil | apply Take.cons (by repeat (first | exact Del.here | apply Del.there)))) (by repeat (first | exact Lends.nil | apply Lends.row | apply Lends.blk)) (by repeat (first | exact trivial | refine And.intro (by repeat (first | exact Mem.here | apply Mem.there)) ?_)) ?_
    rintro ⟨⟩
    refine Jl.pv (PR.gtr true rfl rfl (by simp; omega)) ?_
    refine Jl.nil ?_
    refine Jq.thenN ?_
    refine Jc.condT rfl ?_
    refine Jc.seq ?_
    refine Jc.region ?_
    refine Jl.pv (PR.loadW rfl tsh24 (by repeat (first | exact Has.here | apply Has.there)) (by rfl)) ?_
    refine Jl.storeW rfl tsh24 rfl (by rfl) (by simp [Value.oneCell']) (by repeat (first | exact Swap.here | apply Swap.there)) (by rfl) ?_
    refine Jl.pv (PR.assign rfl) ?_
    refine Jl.nil ?_
    refine Jq.thenN ?_
    refine Jc.ret ?_
    refine Jq.thenR ?_
    exact Jq.fin (A7, c7) (.inl rfl) rfl (RetVs.cellA rfl (by repeat (first | exact Has.here | apply Has.there)) tsh24 (by rfl) (RetVs.tmp rfl RetVs.nil)) rfl (by repeat (first | exact Take.nil | apply Take.cons (by repeat (first | exact Del.here | apply Del.there)))) (by repeat (first | exact trivial | refine And.intro (by repeat (first | exact Mem.here | apply Mem.there)) ?_))
theorem rswap_ct (A B : Option Addr) (c c' : Nat) (d : Dk) (b : List UInt8) (hn : d.b.length ≤ 500000) (hc : d.b.length ≤ c) (hb : b.length ≤ 100000) :
    Ct Try.prog 18 [d.v (A, c), .slice B b.length c'] [] [.rd A (u8s d.b), .rd B (u8s b)] (fun x => .tuple #[(d.swap b).v x, .int .i64 (d.swapE b)]) (fun x => [(d.swap b).row x]) (fun _ => []) := by
  have hl : d.own.b.length ≤ d.b.length := by simp [Dk.own]; omega
  have hfo := d.own_fit
  by_cases hfit : (b.length : Int) ≤ d.own.r
  · have e1 : d.swap b = ⟨b, b.length, d.own.r⟩ := if_pos hfit
    have e2 : d.swapE b = 0 := if_pos hfit
    rw [e1, e2]
    refine Ct.of _ Try.func18 Try.ntmps18 rfl rfl (fun X W => ?_)
    refine Jc.seq ?_
    refine Jc.region ?_
    refine Jl.box rfl (by rfl) ?_
    intro b2
    refine Jl.alloc tze24 ?_
    intro b4
    refine Jl.pv (PR.assign rfl) ?_
    refine Jl.nil ?_
    refine Jq.thenN ?_
    refine Jc.seq ?_
    refine Jc.region ?_
    refine Jl.pv (PR.loadW rfl tsh24 (by repeat (first | exact Has.here | apply Has.there)) (by rfl)) ?_
    refine Jl.call (rown_ct A c d hn hc) en20 (by rfl) (by repeat (first | exact Take.nil | apply Take.cons (by repeat (first | exact Del.here | apply Del.there)))) (by repeat (first | exact trivial | refine And.intro (by repeat (first | exact Mem.here | apply Mem.there)) ?_)) ?_
    rintro ⟨A7, c7⟩
    refine Jl.storeW rfl tsh24 rfl (by rfl) (by simp [Value.oneCell']) (by repeat (first | exact Swap.here | apply Swap.there)) (by rfl) ?_
    refine Jl.nil ?_
    refine Jq.thenN ?_
    refine Jc.seq ?_
    refine Jc.seq ?_
    refine Jc.region ?_
    refine Jl.pv (PR.move rfl) ?_
    refine Jl.pv (PR.len rfl tsl22) ?_
    refine Jl.pv (PR.fieldAddr rfl tfl24_2) ?_
    refine Jl.pv (PR.load1 rfl tsh3 (by repeat (first | exact Has.here | apply Has.there)) (by rfl)) ?_
    refine Jl.pv (PR.gtr false rfl rfl (by simpa using hfit)) ?_
    refine Jl.nil ?_
    refine Jq.thenN ?_
    refine Jc.condF rfl ?_
    refine Jc.skip ?_
    refine Jq.thenN ?_
    refine Jc.seq ?_
    refine Jc.region ?_
    refine Jl.buildSlice (by rfl) tsl22 tzr22_0 (by rfl) (by rfl) ?_
    intro b14
    refine Jl.pv (PR.move rfl) ?_
    refine Jl.toRow 1 0 (by repeat (first | exact Swap.here | apply Swap.there)) (by rfl) (by rfl) ?_
    refine Jl.append b.length (u8s b) rfl rfl rfl tsl22 tze5 (by rfl) (by decide) tby5 (fun _ _ => (by repeat (first | exact Swap.here | apply Swap.there))) (by repeat (first | exact Mem.here | apply Mem.there)) (by omega) rfl (by simp [u8s]) (u8s_one _) (by omega) (by decide) ?_
    intro A16 c16
    refine Jl.pv (PR.fieldAddr rfl tfl24_0) ?_
    refine Jl.store1 rfl tsh22 rfl (by rfl) (by repeat (first | exact Swap.here | apply Swap.there)) (by rfl) ?_
    refine Jl.nil ?_
    refine Jq.thenN ?_
    refine Jc.seq ?_
    refine Jc.region ?_
    refine Jl.pv (PR.move rfl) ?_
    refine Jl.pv (PR.len rfl tsl22) ?_
    refine Jl.pv (PR.fieldAddr rfl tfl24_1) ?_
    refine Jl.store1 rfl tsh3 rfl (by rfl) (by repeat (first | exact Swap.here | apply Swap.there)) (by rfl) ?_
    refine Jl.nil ?_
    refine Jq.thenN ?_
    refine Jc.seq ?_
    refine Jc.region ?_
    refine Jl.pv (PR.loadW rfl tsh24 (by repeat (first | exact Has.here | apply Has.there)) (by rfl)) ?_
    refine Jl.storeW rfl tsh24 rfl (by rfl) (by simp [Value.oneCell']) (by repeat (first | exact Swap.here | apply Swap.there)) (by rfl) ?_
    refine Jl.pv (PR.assign rfl) ?_
    refine Jl.nil ?_
    refine Jq.thenN ?_
    refine Jc.ret ?_
    exact Jq.fin (A16, c16) (.inl rfl) rfl (RetVs.cellA rfl (by repeat (first | exact Has.here | apply Has.there)) tsh24 (by rfl) (RetVs.tmp rfl RetVs.nil)) rfl (by repeat (first | exact Take.nil | apply Take.cons (by repeat (first | exact Del.here | apply Del.there)))) (by repeat (first | exact trivial | refine And.intro (by repeat (first | exact Mem.here | apply Mem.there)) ?_))
  · have e1 : d.swap b = d.own := if_neg hfit
    have e2 : d.swapE b = 30 := if_neg hfit
    rw [e1, e2]
    refine Ct.of _ Try.func18 Try.ntmps18 rfl rfl (fun X W => ?_)
    refine Jc.seq ?_
    refine Jc.region ?_
    refine Jl.box rfl (by rfl) ?_
    intro b2
    refine Jl.alloc tze24 ?_
    intro b4
    refine Jl.pv (PR.assign rfl) ?_
    refine Jl.nil ?_
    refine Jq.thenN ?_
    refine Jc.seq ?_
    refine Jc.region ?_
    refine Jl.pv (PR.loadW rfl tsh24 (by repeat (first | exact Has.here | apply Has.there)) (by rfl)) ?_
    refine Jl.call (rown_ct A c d hn hc) en20 (by rfl) (by repeat (first | exact Take.nil | apply Take.cons (by repeat (first | exact Del.here | apply Del.there)))) (by repeat (first | exact trivial | refine And.intro (by repeat (first | exact Mem.here | apply Mem.there)) ?_)) ?_
    rintro ⟨A7, c7⟩
    refine Jl.storeW rfl tsh24 rfl (by rfl) (by simp [Value.oneCell']) (by repeat (first | exact Swap.here | apply Swap.there)) (by rfl) ?_
    refine Jl.nil ?_
    refine Jq.thenN ?_
    refine Jc.seq ?_
    refine Jc.seq ?_
    refine Jc.region ?_
    refine Jl.pv (PR.move rfl) ?_
    refine Jl.pv (PR.len rfl tsl22) ?_
    refine Jl.pv (PR.fieldAddr rfl tfl24_2) ?_
    refine Jl.pv (PR.load1 rfl tsh3 (by repeat (first | exact Has.here | apply Has.there)) (by rfl)) ?_
    refine Jl.pv (PR.gtr true rfl rfl (by simpa using hfit)) ?_
    refine Jl.nil ?_
    refine Jq.thenN ?_
    refine Jc.condT rfl ?_
    refine Jc.seq ?_
    refine Jc.region ?_
    refine Jl.pv (PR.loadW rfl tsh24 (by repeat (first | exact Has.here | apply Has.there)) (by rfl)) ?_
    refine Jl.storeW rfl tsh24 rfl (by rfl) (by simp [Value.oneCell']) (by repeat (first | exact Swap.here | apply Swap.there)) (by rfl) ?_
    refine Jl.pv (PR.assign rfl) ?_
    refine Jl.nil ?_
    refine Jq.thenN ?_
    refine Jc.ret ?_
    refine Jq.thenR ?_
    exact Jq.fin (A7, c7) (.inl rfl) rfl (RetVs.cellA rfl (by repeat (first | exact Has.here | apply Has.there)) tsh24 (by rfl) (RetVs.tmp rfl RetVs.nil)) rfl (by repeat (first | exact Take.nil | apply Take.cons (by repeat (first | exact Del.here | apply Del.there)))) (by repeat (first | exact trivial | refine And.intro (by repeat (first | exact Mem.here | apply Mem.there)) ?_))
theorem rsame_ct (A B : Option Addr) (c c' : Nat) (d d' : Dk) (hn : d.b.length ≤ 500000) (hn' : d'.b.length ≤ 500000) (hc : d.b.length ≤ c) (hc' : d'.b.length ≤ c') :
    Ct Try.prog 26 [d.v (A, c), d'.v (B, c')] [] [.rd A (u8s d.b), .rd B (u8s d'.b)] (fun _ : Unit => .bool (decide (d.own.b = d'.own.b ∧ d.own.s = d'.own.s ∧ d.own.r = d'.own.r))) (fun _ => []) (fun _ => []) := by
  refine Ct.of _ Try.func26 Try.ntmps26 rfl rfl (fun X W => ?_)
  refine Jc.seq ?_
  refine Jc.region ?_
  refine Jl.box rfl (by rfl) ?_
  intro b2
  refine Jl.box rfl (by rfl) ?_
  intro b3
  refine Jl.pv (PR.assign rfl) ?_
  refine Jl.nil ?_
  refine Jq.thenN ?_
  refine Jc.seq ?_
  refine Jc.drawn [0, 1, 0, 7, 15, 31] ([], []) [⟨[(0, false), (2, false)], [], 1⟩, ⟨[], [], 3⟩, ⟨[], [], 4⟩, ⟨[], [], 5⟩] tmx (by kernel_rfl) ?_
  refine Dh.JH.cons ?_
  refine Dh.JB.rd [.blk _ _ _] rfl trivial (by repeat (first | exact Take.nil | apply Take.cons (by repeat (first | exact Del.here | apply Del.there)))) (fun _ => PR.loadW rfl tsh24 Has.here (by rfl)) ?_
  refine Dh.JB.rd [.blk _ _ _] rfl trivial (by repeat (first | exact Take.nil | apply Take.cons (by repeat (first | exact Del.here | apply Del.there)))) (fun _ => PR.loadW rfl tsh24 Has.here (by rfl)) ?_
  refine Dh.JB.nil ?_
  refine Dh.JL.nil ?_
  refine Dh.JE.mk rfl (fun _ h => by cases h) (fun C1_1 => ?_)
  refine Jl.call (rown_ct A c d hn hc) en20 (by rfl) (by repeat (first | exact Take.nil | apply Take.cons (by repeat (first | exact Del.here | apply Del.there)))) (by repeat (first | exact trivial | refine And.intro (by repeat (first | exact Mem.here | apply Mem.there)) ?_)) ?_
  rintro ⟨A6, c6⟩
  refine Jl.nil ?_
  refine Dh.Jq.segV (by repeat (first | exact Dh.FExt.refl | apply Dh.FExt.cons | apply Dh.FExt.app)) ?_ (by repeat (first | exact Dh.KeepL.nil | apply Dh.KeepL.anc (by rfl) | apply Dh.KeepL.keep (by repeat (first | exact Take.nil | apply Take.cons (by repeat (first | exact Del.here | apply Del.there))))))
  refine Dh.JH.cons ?_
  refine Dh.JB.nil ?_
  refine Dh.JL.nil ?_
  refine Dh.JE.mk rfl (fun _ h => by cases h) (fun C1_3 => ?_)
  refine Jl.call (rown_ct B c' d' hn' hc') en20 (by rfl) (by repeat (first | exact Take.nil | apply Take.cons (by repeat (first | exact Del.here | apply Del.there)))) (by repeat (first | exact trivial | refine And.intro (by repeat (first | exact Mem.here | apply Mem.there)) ?_)) ?_
  rintro ⟨A8, c8⟩
  refine Jl.nil ?_
  refine Dh.Jq.segV (by repeat (first | exact Dh.FExt.refl | apply Dh.FExt.cons | apply Dh.FExt.app)) ?_ (by repeat (first | exact Dh.KeepL.nil | apply Dh.KeepL.anc (by rfl) | apply Dh.KeepL.keep (by repeat (first | exact Take.nil | apply Take.cons (by repeat (first | exact Del.here | apply Del.there))))))
  refine Dh.JH.cons ?_
  refine Dh.JB.nil ?_
  refine Dh.JL.nil ?_
  refine Dh.JE.mk rfl (fun _ h => by cases h) (fun C1_4 => ?_)
  refine Jl.storeW rfl tsh24 rfl (by rfl) (by simp [Value.oneCell']) (by repeat (first | exact Swap.here | apply Swap.there)) (by rfl) ?_
  refine Jl.nil ?_
  refine Dh.Jq.segN (by repeat (first | exact Dh.FExt.refl | apply Dh.FExt.cons | apply Dh.FExt.app)) ?_ (by repeat (first | exact Dh.KeepL.nil | apply Dh.KeepL.anc (by rfl) | apply Dh.KeepL.keep (by repeat (first | exact Take.nil | apply Take.cons (by repeat (first | exact Del.here | apply Del.there))))))
  refine Dh.JH.cons ?_
  refine Dh.JB.nil ?_
  refine Dh.JL.nil ?_
  refine Dh.JE.mk rfl (fun _ h => by cases h) (fun C1_5 => ?_)
  refine Jl.storeW rfl tsh24 rfl (by rfl) (by simp [Value.oneCell']) (by repeat (first | exact Swap.here | apply Swap.there)) (by rfl) ?_
  refine Jl.nil ?_
  refine Dh.Jq.segN (by repeat (first | exact Dh.FExt.refl | apply Dh.FExt.cons | apply Dh.FExt.app)) ?_ (by repeat (first | exact Dh.KeepL.nil | apply Dh.KeepL.anc (by rfl) | apply Dh.KeepL.keep (by repeat (first | exact Take.nil | apply Take.cons (by repeat (first | exact Del.here | apply Del.there))))))
  refine Dh.JH.nil ?_
  refine Dh.JB.nil ?_
  refine Dh.JL.nil ?_
  refine Jq.thenN ?_
  refine Jc.seq ?_
  refine Jc.region ?_
  refine Jl.sealR (by repeat (first | exact Del.here | apply Del.there)) ?_
  refine Jl.sealR (by repeat (first | exact Del.here | apply Del.there)) ?_
  refine Jl.pv (PR.fieldAddr rfl tfl24_0) ?_
  refine Jl.pv (PR.load1 rfl tsh22 (by repeat (first | exact Has.here | apply Has.there)) (by rfl)) ?_
  refine Jl.pv (PR.str rfl Try.underlying22 Try.underlying5 Try.underlying9 (by repeat (first | exact Mem.here | apply Mem.there)) rfl) ?_
  refine Jl.pv (PR.fieldAddr rfl tfl24_0) ?_
  refine Jl.pv (PR.load1 rfl tsh22 (by repeat (first | exact Has.here | apply Has.there)) (by rfl)) ?_
  refine Jl.pv (PR.str rfl Try.underlying22 Try.underlying5 Try.underlying9 (by repeat (first | exact Mem.here | apply Mem.there)) rfl) ?_
  refine Jl.pv (PR.seql _ rfl rfl rfl) ?_
  refine Jl.pv (PR.move rfl) ?_
  refine Jl.bsplit (fun g16 => ?_) (fun g16 => ?_)
  · try replace g16 := of_decide_eq_true g16
    replace g16 : d.own.b = d'.own.b := by simpa using g16
    refine Jl.on rfl rfl ?_
    refine Jl.pv (PR.fieldAddr rfl tfl24_1) ?_
    refine Jl.on rfl rfl ?_
    refine Jl.pv (PR.load1 rfl tsh3 (by repeat (first | exact Has.here | apply Has.there)) (by rfl)) ?_
    refine Jl.on rfl rfl ?_
    refine Jl.pv (PR.fieldAddr rfl tfl24_1) ?_
    refine Jl.on rfl rfl ?_
    refine Jl.pv (PR.load1 rfl tsh3 (by repeat (first | exact Has.here | apply Has.there)) (by rfl)) ?_
    refine Jl.on rfl rfl ?_
    refine Jl.pv (PR.eql _ rfl rfl rfl) ?_
    refine Jl.pv (PR.pickT rfl rfl) ?_
    refine Jl.pv (PR.move rfl) ?_
    refine Jl.bsplit (fun g23 => ?_) (fun g23 => ?_)
    · try replace g23 := of_decide_eq_true g23
      refine Jl.on rfl rfl ?_
      refine Jl.pv (PR.fieldAddr rfl tfl24_2) ?_
      refine Jl.on rfl rfl ?_
      refine Jl.pv (PR.load1 rfl tsh3 (by repeat (first | exact Has.here | apply Has.there)) (by rfl)) ?_
      refine Jl.on rfl rfl ?_
      refine Jl.pv (PR.fieldAddr rfl tfl24_2) ?_
      refine Jl.on rfl rfl ?_
      refine Jl.pv (PR.load1 rfl tsh3 (by repeat (first | exact Has.here | apply Has.there)) (by rfl)) ?_
      refine Jl.on rfl rfl ?_
      refine Jl.pv (PR.eql _ rfl rfl rfl) ?_
      refine Jl.pv (PR.pickT rfl rfl) ?_
      refine Jl.pv (PR.assign rfl) ?_
      refine Jl.nil ?_
      refine Jq.thenN ?_
      refine Jc.ret ?_
      exact Jq.fin () (.inl rfl) rfl (RetVs.tmp rfl RetVs.nil) (by simp [retval, g23, g16]) (by repeat (first | exact Take.nil | apply Take.cons (by repeat (first | exact Del.here | apply Del.there)))) (by repeat (first | exact trivial | refine And.intro (by repeat (first | exact Mem.here | apply Mem.there)) ?_))
    · try replace g23 := of_decide_eq_false g23
      refine Jl.off rfl rfl rfl rfl ?_
      refine Jl.off rfl rfl rfl rfl ?_
      refine Jl.off rfl rfl rfl rfl ?_
      refine Jl.off rfl rfl rfl rfl ?_
      refine Jl.off rfl rfl rfl rfl ?_
      refine Jl.pv (PR.pickF rfl rfl) ?_
      refine Jl.pv (PR.assign rfl) ?_
      refine Jl.nil ?_
      refine Jq.thenN ?_
      refine Jc.ret ?_
      exact Jq.fin () (.inl rfl) rfl (RetVs.tmp rfl RetVs.nil) (by simp [retval, g23]) (by repeat (first | exact Take.nil | apply Take.cons (by repeat (first | exact Del.here | apply Del.there)))) (by repeat (first | exact trivial | refine And.intro (by repeat (first | exact Mem.here | apply Mem.there)) ?_))
  · try replace g16 := of_decide_eq_false g16
    refine Jl.off rfl rfl rfl rfl ?_
    refine Jl.off rfl rfl rfl rfl ?_
    refine Jl.off rfl rfl rfl rfl ?_
    refine Jl.off rfl rfl rfl rfl ?_
    refine Jl.off rfl rfl rfl rfl ?_
    refine Jl.pv (PR.pickF rfl rfl) ?_
    refine Jl.pv (PR.move rfl) ?_
    refine Jl.off rfl rfl rfl rfl ?_
    refine Jl.off rfl rfl rfl rfl ?_
    refine Jl.off rfl rfl rfl rfl ?_
    refine Jl.off rfl rfl rfl rfl ?_
    refine Jl.off rfl rfl rfl rfl ?_
    refine Jl.pv (PR.pickF rfl rfl) ?_
    refine Jl.pv (PR.assign rfl) ?_
    refine Jl.nil ?_
    refine Jq.thenN ?_
    refine Jc.ret ?_
    have h16 : ¬ d.own.b = d'.own.b := by simpa using g16
    exact Jq.fin () (.inl rfl) rfl (RetVs.tmp rfl RetVs.nil) (by simp [retval, h16]) (by repeat (first | exact Take.nil | apply Take.cons (by repeat (first | exact Del.here | apply Del.there)))) (by repeat (first | exact trivial | refine And.intro (by repeat (first | exact Mem.here | apply Mem.there)) ?_))
end Go.Proofs.Ythlmleemapeohaa
