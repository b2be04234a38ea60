/-
The law DiskRoom.
-/
import Derived.Test.YthlmleemapeohaaDkW
namespace Go.Proofs.Ythlmleemapeohaa
set_option linter.unusedVariables false
open Go.RowKit
attribute [local irreducible] Res.blk Res.row Fact.rd
theorem du8s_set (l : List UInt8) (k : Nat) (v : UInt8) : (u8s l).set k (.int .u8 v.toNat) = u8s (l.set k v) := by simp [u8s, List.map_set]
theorem dsame_at {A B : Option Addr} {c c' : Nat} (d d' : Dk) (hn : d.b.length ≤ 500000) (hn' : d'.b.length ≤ 500000) (hc : d.b.length ≤ c) (hc' : d'.b.length ≤ c') (h : d.own = d'.own) :
    Ct Try.prog 13 [d.v (A, c), d'.v (B, c')] [] [.rd A (u8s d.b), .rd B (u8s d'.b)] (fun _ : Unit => .bool true) (fun _ => []) (fun _ => []) := by
  have := dsame_ct A B c c' d d' hn hn' hc hc'
  rw [h] at this
  simpa using this
theorem app_full {d : Dk} {b : List UInt8} (h : ¬ d.appE b = 0) : d.app b = d.own ∧ ¬ d.fits b := by
  unfold Dk.appE at h
  split at h
  · exact absurd rfl h
  · rename_i hf; exact ⟨if_neg hf, hf⟩
theorem app_fit {d : Dk} {b : List UInt8} (h : d.appE b = 0) : d.app b = ⟨d.own.b ++ b, d.own.s, d.own.r⟩ ∧ d.fits b := by
  unfold Dk.appE at h
  split at h
  · rename_i hf; exact ⟨if_pos hf, hf⟩
  · cases h
theorem swap_full {d : Dk} {b : List UInt8} (h : ¬ d.swapE b = 0) : d.swap b = d.own ∧ ¬ (b.length : Int) ≤ d.own.r := by
  unfold Dk.swapE at h
  split at h
  · exact absurd rfl h
  · rename_i hf; exact ⟨if_neg hf, hf⟩
theorem swap_fit {d : Dk} {b : List UInt8} (h : d.swapE b = 0) : d.swap b = ⟨b, b.length, d.own.r⟩ ∧ (b.length : Int) ≤ d.own.r := by
  unfold Dk.swapE at h
  split at h
  · rename_i hf; exact ⟨if_pos hf, hf⟩
  · cases h
theorem app_len (d : Dk) (b : List UInt8) : (d.app b).b.length ≤ d.b.length + b.length := by
  have := d.own_len
  unfold Dk.app
  split
  · simp only [List.length_append]; omega
  · omega
theorem swap_len (d : Dk) (b : List UInt8) : (d.swap b).b.length ≤ d.b.length + b.length := by
  have := d.own_len
  unfold Dk.swap
  split
  · simp only; omega
  · omega
theorem diskRoom_ct (A B : Option Addr) (c c' : Nat) (d : Dk) (b : List UInt8) (x : UInt8) (hc : d.b.length ≤ c) :
    Ct Try.prog 6 [d.v (A, c), .slice B b.length c', .int .u8 x.toNat] [] [.rd A (u8s d.b), .rd B (u8s b)] (fun _ : Unit => .bool true) (fun _ => []) (fun _ => []) := by
  have hfo := d.own_fit
  have hol := d.own_len
  have hal := app_len d b
  have hsl := swap_len d b
  have hao := d.app_ok b
  have hso := d.swap_ok b
  refine Ct.of _ Try.func6 Try.ntmps6 rfl rfl (fun X W => ?_)
  refine Jc.seq ?_
  refine Jc.region ?_
  refine Jl.box rfl (by rfl) ?_
  intro b3
  refine Jl.pv (PR.assign rfl) ?_
  refine Jl.nil ?_
  refine Jq.thenN ?_
  refine Jc.seq ?_
  refine Jc.seq ?_
  refine Jc.region ?_
  refine Jl.pv (PR.loadW rfl tsh24 (by repeat (first | exact Has.here | apply Has.there)) (by rfl)) ?_
  refine Jl.call (great_ct A d.b.length c d.s d.r) en8 (by rfl) (by repeat (first | exact Take.nil | apply Take.cons (by repeat (first | exact Del.here | apply Del.there)))) (by repeat (first | exact trivial | refine And.intro (by repeat (first | exact Mem.here | apply Mem.there)) ?_)) ?_
  rintro ⟨⟩
  refine Jl.pv (PR.move rfl) ?_
  refine Jl.bsplit (fun g17 => ?_) (fun g17 => ?_)
  · try replace g17 := of_decide_eq_true g17
    refine Jl.off rfl rfl rfl rfl ?_
    refine Jl.off rfl rfl rfl rfl ?_
    refine Jl.off rfl rfl rfl rfl ?_
    refine Jl.pv (PR.pickT rfl rfl) ?_
    refine Jl.nil ?_
    refine Jq.thenN ?_
    refine Jc.condT rfl ?_
    refine Jc.seq ?_
    refine Jc.region ?_
    refine Jl.call dwakes_ct en9 (by rfl) (by repeat (first | exact Take.nil | apply Take.cons (by repeat (first | exact Del.here | apply Del.there)))) (by repeat (first | exact trivial | refine And.intro (by repeat (first | exact Mem.here | apply Mem.there)) ?_)) ?_
    rintro ⟨⟩
    refine Jl.pv (PR.assign rfl) ?_
    refine Jl.nil ?_
    refine Jq.thenN ?_
    refine Jc.ret ?_
    refine Jq.thenR ?_
    exact Jq.fin () (.inl rfl) rfl (RetVs.tmp rfl RetVs.nil) rfl (by repeat (first | exact Take.nil | apply Take.cons (by repeat (first | exact Del.here | apply Del.there)))) (by repeat (first | exact trivial | refine And.intro (by repeat (first | exact Mem.here | apply Mem.there)) ?_))
  · try replace g17 := of_decide_eq_false g17
    refine Jl.on rfl rfl ?_
    refine Jl.pv (PR.move rfl) ?_
    refine Jl.on rfl rfl ?_
    refine Jl.pv (PR.len rfl tsl22) ?_
    refine Jl.on rfl rfl ?_
    refine Jl.pv (PR.gtr _ rfl rfl rfl) ?_
    refine Jl.pv (PR.pickF rfl rfl) ?_
    refine Jl.nil ?_
    refine Jq.thenN ?_
    refine Jc.cond rfl (fun h0 => ?_) (fun h0 => ?_)
    · try replace h0 := of_decide_eq_true h0
      refine Jc.seq ?_
      refine Jc.region ?_
      refine Jl.call dwakes_ct en9 (by rfl) (by repeat (first | exact Take.nil | apply Take.cons (by repeat (first | exact Del.here | apply Del.there)))) (by repeat (first | exact trivial | refine And.intro (by repeat (first | exact Mem.here | apply Mem.there)) ?_)) ?_
      rintro ⟨⟩
      refine Jl.pv (PR.assign rfl) ?_
      refine Jl.nil ?_
      refine Jq.thenN ?_
      refine Jc.ret ?_
      refine Jq.thenR ?_
      exact Jq.fin () (.inl rfl) rfl (RetVs.tmp rfl RetVs.nil) rfl (by repeat (first | exact Take.nil | apply Take.cons (by repeat (first | exact Del.here | apply Del.there)))) (by repeat (first | exact trivial | refine And.intro (by repeat (first | exact Mem.here | apply Mem.there)) ?_))
    · try replace h0 := of_decide_eq_false h0
      refine Jc.skip ?_
      refine Jq.thenN ?_
      refine Jc.seq ?_
      refine Jc.region ?_
      refine Jl.buildSlice (by rfl) tsl22 tzr22_0 (by rfl) (by rfl) ?_
      intro b23
      refine Jl.pv (PR.fieldAddr rfl tfl24_0) ?_
      refine Jl.pv (PR.load1 rfl tsh22 (by repeat (first | exact Has.here | apply Has.there)) (by rfl)) ?_
      refine Jl.toRow 1 0 (by repeat (first | exact Swap.here | apply Swap.there)) (by rfl) (by rfl) ?_
      refine Jl.append d.b.length (u8s d.b) rfl rfl rfl tsl22 tze5 (by rfl) (by decide) tby5 (fun _ _ => (by repeat (first | exact Swap.here | apply Swap.there))) (by repeat (first | exact Mem.here | apply Mem.there)) (by omega) rfl (by simp [u8s]) (u8s_one _) (by omega) (by decide) ?_
      intro A26 c26
      refine Jl.sealR (by repeat (first | exact Del.here | apply Del.there)) ?_
      refine Jl.pv (PR.assign rfl) ?_
      refine Jl.nil ?_
      refine Jq.thenN ?_
      refine Jc.seq ?_
      refine Jc.region ?_
      refine Jl.pv (PR.loadW rfl tsh24 (by repeat (first | exact Has.here | apply Has.there)) (by rfl)) ?_
      refine Jl.call (free_ct A c d (by omega)) en24 (by rfl) (by repeat (first | exact Take.nil | apply Take.cons (by repeat (first | exact Del.here | apply Del.there)))) (by repeat (first | exact trivial | refine And.intro (by repeat (first | exact Mem.here | apply Mem.there)) ?_)) ?_
      rintro ⟨⟩
      refine Jl.pv (PR.assign rfl) ?_
      refine Jl.nil ?_
      refine Jq.thenN ?_
      refine Jc.seq ?_
      refine Jc.region ?_
      refine Jl.pv (PR.loadW rfl tsh24 (by repeat (first | exact Has.here | apply Has.there)) (by rfl)) ?_
      refine Jl.call (own_ct A c d (by omega) hc) en10 (by rfl) (by repeat (first | exact Take.nil | apply Take.cons (by repeat (first | exact Del.here | apply Del.there)))) (by repeat (first | exact trivial | refine And.intro (by repeat (first | exact Mem.here | apply Mem.there)) ?_)) ?_
      rintro ⟨A30, c30⟩
      refine Jl.sealC (by repeat (first | exact Del.here | apply Del.there)) (fun hc30 => ?_)
      refine Jl.alloc tze24 ?_
      intro b9
      refine Jl.storeW rfl tsh24 rfl (by rfl) (by simp [Value.oneCell']) (by repeat (first | exact Swap.here | apply Swap.there)) (by rfl) ?_
      refine Jl.nil ?_
      refine Jq.thenN ?_
      refine Jc.seq ?_
      refine Jc.region ?_
      refine Jl.pv (PR.loadW rfl tsh24 (by repeat (first | exact Has.here | apply Has.there)) (by rfl)) ?_
      refine Jl.pv (PR.move rfl) ?_
      refine Jl.call (append_ct A B c c' d b (by omega) hc (by omega)) en11 (by rfl) (by repeat (first | exact Take.nil | apply Take.cons (by repeat (first | exact Del.here | apply Del.there)))) (by repeat (first | exact trivial | refine And.intro (by repeat (first | exact Mem.here | apply Mem.there)) ?_)) ?_
      rintro ⟨A34, c34⟩
      refine Jl.pureR (p := (d.app b).b.length ≤ c34) (fun W hs => row_cap_dk hs.1) fun hc34 => ?_
      refine Jl.pv (PR.move rfl) ?_
      refine Jl.pv (PR.extract rfl (by rfl)) ?_
      refine Jl.pv (PR.extract rfl (by rfl)) ?_
      refine Jl.alloc tze24 ?_
      intro b10
      refine Jl.storeW rfl tsh24 rfl (by rfl) (by simp [Value.oneCell']) (by repeat (first | exact Swap.here | apply Swap.there)) (by rfl) ?_
      refine Jl.pv (PR.assign rfl) ?_
      refine Jl.nil ?_
      refine Jq.thenN ?_
      refine Jc.mid (σ := Unit) (fun _ => [(3, .pointer (some ⟨b3, 0, none⟩)), (9, .pointer (some ⟨b9, 0, none⟩)), (10, .pointer (some ⟨b10, 0, none⟩)), (1, .slice B b.length c'), (2, .int .u8 x.toNat), (7, .slice A26 d.b.length c26)]) (fun _ => [.blk b10 24 ((d.app b).cs (A34, c34)), (d.app b).row (A34, c34), .blk b9 24 (d.own.cs (A30, c30)), .blk b3 24 (d.cs (A, c))]) (fun _ => [.rd A (u8s d.b), .rd B (u8s b), .rd A26 (u8s d.b), .rd A30 (u8s d.own.b)]) ?_ ?_
      · refine Jc.seq ?_
        refine Jc.region ?_
        refine Jl.pv (PR.move rfl) ?_
        refine Jl.pv (PR.fieldAddr rfl tfl24_2) ?_
        refine Jl.pv (PR.load1 rfl tsh3 (by repeat (first | exact Has.here | apply Has.there)) (by rfl)) ?_
        refine Jl.pv (PR.fieldAddr rfl tfl24_0) ?_
        refine Jl.pv (PR.load1 rfl tsh22 (by repeat (first | exact Has.here | apply Has.there)) (by rfl)) ?_
        refine Jl.pv (PR.len rfl tsl22) ?_
        refine Jl.pv (PR.sub (d.own.r - d.own.b.length) rfl rfl (w64 (by omega) (by omega))) ?_
        refine Jl.pv (PR.neq false rfl rfl (by simp)) ?_
        refine Jl.pv (PR.move rfl) ?_
        refine Jl.on rfl rfl ?_
        refine Jl.pv (PR.move rfl) ?_
        refine Jl.on rfl rfl ?_
        refine Jl.pv (PR.lss false rfl rfl (decide_eq_false (by omega))) ?_
        refine Jl.pv (PR.pickF rfl rfl) ?_
        refine Jl.pv (PR.move rfl) ?_
        refine Jl.on rfl rfl ?_
        refine Jl.pv (PR.move rfl) ?_
        refine Jl.on rfl rfl ?_
        refine Jl.pv (PR.eql (decide (d.fits b)) rfl rfl (by unfold Dk.appE; split <;> rename_i hf <;> simp [hf])) ?_
        refine Jl.on rfl rfl ?_
        refine Jl.pv (PR.move rfl) ?_
        refine Jl.on rfl rfl ?_
        refine Jl.pv (PR.len rfl tsl22) ?_
        refine Jl.on rfl rfl ?_
        refine Jl.pv (PR.move rfl) ?_
        refine Jl.on rfl rfl ?_
        refine Jl.pv (PR.leq (decide (d.fits b)) rfl rfl (by rw [decide_eq_decide]; unfold Dk.fits; simp only [List.length_append]; omega)) ?_
        refine Jl.on rfl rfl ?_
        refine Jl.pv (PR.bneq false Try.underlying4 rfl rfl (by simp)) ?_
        refine Jl.pv (PR.pickF rfl rfl) ?_
        refine Jl.pv (PR.move rfl) ?_
        refine Jl.on rfl rfl ?_
        refine Jl.pv (PR.move rfl) ?_
        refine Jl.on rfl rfl ?_
        refine Jl.pv (PR.neq _ rfl rfl rfl) ?_
        refine Jl.on rfl rfl ?_
        refine Jl.pv (PR.move rfl) ?_
        refine Jl.bsplit (fun g61 => ?_) (fun g61 => ?_)
        · try replace g61 := of_decide_eq_true g61
          refine Jl.on rfl rfl ?_
          refine Jl.pv (PR.loadW rfl tsh24 (by repeat (first | exact Has.here | apply Has.there)) (by rfl)) ?_
          refine Jl.on rfl rfl ?_
          refine Jl.pv (PR.loadW rfl tsh24 (by repeat (first | exact Has.here | apply Has.there)) (by rfl)) ?_
          refine Jl.on rfl rfl ?_
          refine Jl.calll (fs := []) (cs := []) (dsame_at (d.app b) d (by omega) (by omega) hc34 hc (by rw [(app_full (by simpa using g61)).1, d.own_own])) en13 rfl (by rfl) (by rfl) (by repeat (first | exact Take.nil | apply Take.cons (by repeat (first | exact Del.here | apply Del.there)))) (ls := [(d.app b).row (A34, c34)]) (by repeat (first | exact Take.nil | apply Take.cons (by repeat (first | exact Del.here | apply Del.there)))) (by repeat (first | exact Lends.nil | apply Lends.row | apply Lends.blk)) (by repeat (first | exact trivial | refine And.intro (by repeat (first | exact Mem.here | apply Mem.there)) ?_)) ?_
          rintro ⟨⟩
          refine Jl.as (.bool true) (congrArg Value.bool rfl) ?_
          refine Jl.on rfl rfl ?_
          refine Jl.pv (PR.not rfl) ?_
          refine Jl.on rfl rfl ?_
          refine Jl.pv (PR.pickT rfl rfl) ?_
          refine Jl.pv (PR.pickF rfl rfl) ?_
          refine Jl.pv (PR.move rfl) ?_
          refine Jl.on rfl rfl ?_
          refine Jl.pv (PR.fieldAddr rfl tfl24_0) ?_
          refine Jl.on rfl rfl ?_
          refine Jl.pv (PR.load1 rfl tsh22 (by repeat (first | exact Has.here | apply Has.there)) (by rfl)) ?_
          refine Jl.on rfl rfl ?_
          refine Jl.pv (PR.len rfl tsl22) ?_
          refine Jl.on rfl rfl ?_
          refine Jl.pv (PR.fieldAddr rfl tfl24_2) ?_
          refine Jl.on rfl rfl ?_
          refine Jl.pv (PR.load1 rfl tsh3 (by repeat (first | exact Has.here | apply Has.there)) (by rfl)) ?_
          refine Jl.on rfl rfl ?_
          refine Jl.pv (PR.gtr false rfl rfl (decide_eq_false (by have := hao.1; omega))) ?_
          refine Jl.pv (PR.pickF rfl rfl) ?_
          refine Jl.nil ?_
          refine Jq.thenN ?_
          refine Jc.condF rfl ?_
          refine Jc.skip ?_
          exact Jq.midT () (by exact ⟨rfl, rfl, rfl, rfl, rfl, rfl, trivial⟩) (by repeat (first | exact Take.nil | apply Take.cons (by repeat (first | exact Del.here | apply Del.there)))) (by exact ⟨(by repeat (first | exact Mem.here | apply Mem.there)), (by repeat (first | exact Mem.here | apply Mem.there)), (by repeat (first | exact Mem.here | apply Mem.there)), (by repeat (first | exact Mem.here | apply Mem.there)), trivial⟩)
        · try replace g61 := of_decide_eq_false g61
          refine Jl.off rfl rfl rfl rfl ?_
          refine Jl.off rfl rfl rfl rfl ?_
          refine Jl.off rfl rfl rfl rfl ?_
          refine Jl.off rfl rfl rfl rfl ?_
          refine Jl.on rfl rfl ?_
          refine Jl.pv (PR.pickF rfl rfl) ?_
          refine Jl.pv (PR.pickF rfl rfl) ?_
          refine Jl.pv (PR.move rfl) ?_
          refine Jl.on rfl rfl ?_
          refine Jl.pv (PR.fieldAddr rfl tfl24_0) ?_
          refine Jl.on rfl rfl ?_
          refine Jl.pv (PR.load1 rfl tsh22 (by repeat (first | exact Has.here | apply Has.there)) (by rfl)) ?_
          refine Jl.on rfl rfl ?_
          refine Jl.pv (PR.len rfl tsl22) ?_
          refine Jl.on rfl rfl ?_
          refine Jl.pv (PR.fieldAddr rfl tfl24_2) ?_
          refine Jl.on rfl rfl ?_
          refine Jl.pv (PR.load1 rfl tsh3 (by repeat (first | exact Has.here | apply Has.there)) (by rfl)) ?_
          refine Jl.on rfl rfl ?_
          refine Jl.pv (PR.gtr false rfl rfl (decide_eq_false (by have := hao.1; omega))) ?_
          refine Jl.pv (PR.pickF rfl rfl) ?_
          refine Jl.nil ?_
          refine Jq.thenN ?_
          refine Jc.condF rfl ?_
          refine Jc.skip ?_
          exact Jq.midT () (by exact ⟨rfl, rfl, rfl, rfl, rfl, rfl, trivial⟩) (by repeat (first | exact Take.nil | apply Take.cons (by repeat (first | exact Del.here | apply Del.there)))) (by exact ⟨(by repeat (first | exact Mem.here | apply Mem.there)), (by repeat (first | exact Mem.here | apply Mem.there)), (by repeat (first | exact Mem.here | apply Mem.there)), (by repeat (first | exact Mem.here | apply Mem.there)), trivial⟩)
      · rintro ⟨⟩
        obtain ⟨l0, hl0⟩ : ∃ l0, (d.app b).b = l0 := ⟨_, rfl⟩
        rw [show (d.app b).cs (A34, c34) = [.slice A34 l0.length c34, .int .i64 (d.app b).s, .int .i64 (d.app b).r] by rw [← hl0]; rfl, show (d.app b).row (A34, c34) = .row 5 1 (.slice A34 l0.length c34) l0.length (u8s l0) by rw [← hl0]; rfl]
        rw [hl0] at hal
        refine Jc.seq ?_
        refine Jc.seq ?_
        refine Jc.region ?_
        refine Jl.pv (PR.assign rfl) ?_
        refine Jl.nil ?_
        refine Jq.thenN ?_
        refine Jc.block ?_
        refine Jc.loop (σ := { s : Nat × List UInt8 // s.2.length = l0.length ∧ s.1 ≤ l0.length }) (fun s => [(12, .int .i64 (s.1.1 : Int)), (3, .pointer (some ⟨b3, 0, none⟩)), (9, .pointer (some ⟨b9, 0, none⟩)), (10, .pointer (some ⟨b10, 0, none⟩)), (1, .slice B b.length c'), (2, .int .u8 x.toNat), (7, .slice A26 d.b.length c26)]) (fun s => [.blk b10 24 [.slice A34 l0.length c34, .int .i64 (d.app b).s, .int .i64 (d.app b).r], .row 5 1 (.slice A34 l0.length c34) l0.length (u8s s.1.2), .blk b9 24 (d.own.cs (A30, c30)), .blk b3 24 (d.cs (A, c))]) (fun _ => [.rd A (u8s d.b), .rd B (u8s b), .rd A26 (u8s d.b), .rd A30 (u8s d.own.b)]) (fun s => l0.length - s.1.1) ⟨(0, l0), rfl, Nat.zero_le _⟩ (by exact ⟨rfl, rfl, rfl, rfl, rfl, rfl, rfl, trivial⟩) rfl (by exact ⟨(by repeat (first | exact Mem.here | apply Mem.there)), (by repeat (first | exact Mem.here | apply Mem.there)), (by repeat (first | exact Mem.here | apply Mem.there)), (by repeat (first | exact Mem.here | apply Mem.there)), trivial⟩) ?_
        rintro ⟨⟨k, l⟩, hll, hk⟩
        show Jc _ _ _ _ _ _ [(12, Value.int .i64 (k : Int)), (3, .pointer (some ⟨b3, 0, none⟩)), (9, .pointer (some ⟨b9, 0, none⟩)), (10, .pointer (some ⟨b10, 0, none⟩)), (1, .slice B b.length c'), (2, .int .u8 x.toNat), (7, .slice A26 d.b.length c26)] [.blk b10 24 [.slice A34 l0.length c34, .int .i64 (d.app b).s, .int .i64 (d.app b).r], .row 5 1 (.slice A34 l0.length c34) l0.length (u8s l), .blk b9 24 (d.own.cs (A30, c30)), .blk b3 24 (d.cs (A, c))] [.rd A (u8s d.b), .rd B (u8s b), .rd A26 (u8s d.b), .rd A30 (u8s d.own.b)]
        replace hll : l.length = l0.length := hll
        replace hk : k ≤ l0.length := hk
        refine Jc.seq ?_
        refine Jc.seq ?_
        refine Jc.region ?_
        refine Jl.pv (PR.move rfl) ?_
        refine Jl.pv (PR.fieldAddr rfl tfl24_0) ?_
        refine Jl.pv (PR.load1 rfl tsh22 (by repeat (first | exact Has.here | apply Has.there)) (by rfl)) ?_
        refine Jl.pv (PR.len rfl tsl22) ?_
        refine Jl.pv (PR.lss _ rfl rfl rfl) ?_
        refine Jl.nil ?_
        refine Jq.thenN ?_
        refine Jc.cond rfl (fun hlt => ?_) (fun hlt => ?_)
        · try replace hlt := of_decide_eq_true hlt
          have hlt' : k < l0.length := by omega
          refine Jc.skip ?_
          refine Jq.thenN ?_
          refine Jc.seq ?_
          refine Jc.block ?_
          refine Jc.region ?_
          refine Jl.pv (PR.fieldAddr rfl tfl24_0) ?_
          refine Jl.pv (PR.load1 rfl tsh22 (by repeat (first | exact Has.here | apply Has.there)) (by rfl)) ?_
          refine Jl.pv (PR.move rfl) ?_
          refine Jl.pv (PR.move rfl) ?_
          refine Jl.pv (PR.idxO1 k rfl rfl tsl22 (by repeat (first | exact Del.here | apply Del.there)) rfl hlt') ?_
          refine Jl.storeO rfl tsh5 rfl (by rfl) (by repeat (first | exact Swap.here | apply Swap.there)) (by simp [u8s]; omega) (du8s_set _ _ _) ?_
          refine Jl.nil ?_
          refine Jq.blkN ?_
          refine Jq.thenN ?_
          refine Jc.region ?_
          refine Jl.pv (PR.move rfl) ?_
          refine Jl.pv (PR.add ((k + 1 : Nat) : Int) rfl rfl (by rw [w64 (by omega) (by omega)]; rfl)) ?_
          refine Jl.pv (PR.assign rfl) ?_
          refine Jl.nil ?_
          refine Jq.again ⟨(k + 1, l.set k x), by simp [hll], hlt'⟩ (by simp only; omega) (by exact ⟨rfl, rfl, rfl, rfl, rfl, rfl, rfl, trivial⟩) rfl (by exact ⟨(by repeat (first | exact Mem.here | apply Mem.there)), (by repeat (first | exact Mem.here | apply Mem.there)), (by repeat (first | exact Mem.here | apply Mem.there)), (by repeat (first | exact Mem.here | apply Mem.there)), trivial⟩)
        · try replace hlt := of_decide_eq_false hlt
          refine Jc.exit ?_
          refine Jq.thenX ?_
          refine Jq.thenX ?_
          refine Jq.blkX ?_
          refine Jq.thenN ?_
          refine Jc.seq ?_
          refine Jc.region ?_
          refine Jl.pv (PR.loadW rfl tsh24 (by repeat (first | exact Has.here | apply Has.there)) (by rfl)) ?_
          refine Jl.pv (PR.move rfl) ?_
          refine Jl.call (swap_ct A B c c' d b (by omega) hc (by omega)) en17 (by rfl) (by repeat (first | exact Take.nil | apply Take.cons (by repeat (first | exact Del.here | apply Del.there)))) (by repeat (first | exact trivial | refine And.intro (by repeat (first | exact Mem.here | apply Mem.there)) ?_)) ?_
          rintro ⟨A91, c91⟩
          refine Jl.sealC (by repeat (first | exact Del.here | apply Del.there)) (fun hc91 => ?_)
          refine Jl.pv (PR.move rfl) ?_
          refine Jl.pv (PR.extract rfl (by rfl)) ?_
          refine Jl.pv (PR.extract rfl (by rfl)) ?_
          refine Jl.alloc tze24 ?_
          intro b13
          refine Jl.storeW rfl tsh24 rfl (by rfl) (by simp [Value.oneCell']) (by repeat (first | exact Swap.here | apply Swap.there)) (by rfl) ?_
          refine Jl.pv (PR.assign rfl) ?_
          refine Jl.nil ?_
          refine Jq.thenN ?_
          refine Jc.mid (σ := Unit) (fun _ => [(3, .pointer (some ⟨b3, 0, none⟩)), (9, .pointer (some ⟨b9, 0, none⟩)), (7, .slice A26 d.b.length c26)]) (fun _ => [.blk b9 24 (d.own.cs (A30, c30)), .blk b3 24 (d.cs (A, c))]) (fun _ => [.rd A (u8s d.b), .rd B (u8s b), .rd A26 (u8s d.b), .rd A30 (u8s d.own.b)]) ?_ ?_
          · refine Jc.seq ?_
            refine Jc.region ?_
            refine Jl.pv (PR.move rfl) ?_
            refine Jl.pv (PR.eql (decide ((b.length : Int) ≤ d.own.r)) rfl rfl (by unfold Dk.swapE; split <;> rename_i hf <;> simp [hf])) ?_
            refine Jl.pv (PR.move rfl) ?_
            refine Jl.pv (PR.len rfl tsl22) ?_
            refine Jl.pv (PR.fieldAddr rfl tfl24_2) ?_
            refine Jl.pv (PR.load1 rfl tsh3 (by repeat (first | exact Has.here | apply Has.there)) (by rfl)) ?_
            refine Jl.pv (PR.leq _ rfl rfl rfl) ?_
            refine Jl.pv (PR.bneq false Try.underlying4 rfl rfl (by simp)) ?_
            refine Jl.pv (PR.move rfl) ?_
            refine Jl.on rfl rfl ?_
            refine Jl.pv (PR.move rfl) ?_
            refine Jl.on rfl rfl ?_
            refine Jl.pv (PR.eql _ rfl rfl rfl) ?_
            refine Jl.on rfl rfl ?_
            refine Jl.pv (PR.move rfl) ?_
            refine Jl.bsplit (fun g105 => ?_) (fun g105 => ?_)
            · try replace g105 := of_decide_eq_true g105
              obtain ⟨hs1, hs2⟩ := swap_fit g105
              refine Jl.on rfl rfl ?_
              refine Jl.pv (PR.fieldAddr rfl tfl24_0) ?_
              refine Jl.on rfl rfl ?_
              refine Jl.pv (PR.load1 rfl tsh22 (by repeat (first | exact Has.here | apply Has.there)) (by rfl)) ?_
              refine Jl.on rfl rfl ?_
              refine Jl.pv (PR.move rfl) ?_
              have hsb : (d.swap b).b = b := by rw [hs1]
              refine Jl.on rfl rfl ?_
              refine Jl.call (dlsame_at (d.swap b).b b rfl rfl) en12 (by rfl) (by repeat (first | exact Take.nil | apply Take.cons (by repeat (first | exact Del.here | apply Del.there)))) (by repeat (first | exact trivial | refine And.intro (by repeat (first | exact Mem.here | apply Mem.there)) ?_)) ?_
              rintro ⟨⟩
              refine Jl.as (.bool true) (congrArg Value.bool (by rw [hsb]; simp)) ?_
              refine Jl.on rfl rfl ?_
              refine Jl.pv (PR.not rfl) ?_
              refine Jl.on rfl rfl ?_
              refine Jl.pv (PR.move rfl) ?_
              refine Jl.on rfl rfl ?_
              refine Jl.pv (PR.fieldAddr rfl tfl24_1) ?_
              refine Jl.on rfl rfl ?_
              refine Jl.pv (PR.load1 rfl tsh3 (by repeat (first | exact Has.here | apply Has.there)) (by rfl)) ?_
              refine Jl.on rfl rfl ?_
              refine Jl.pv (PR.move rfl) ?_
              refine Jl.on rfl rfl ?_
              refine Jl.pv (PR.len rfl tsl22) ?_
              refine Jl.on rfl rfl ?_
              refine Jl.pv (PR.neq false rfl rfl (by rw [hs1]; simp)) ?_
              refine Jl.on rfl rfl ?_
              refine Jl.pv (PR.pickF rfl rfl) ?_
              refine Jl.on rfl rfl ?_
              refine Jl.pv (PR.pickT rfl rfl) ?_
              refine Jl.pv (PR.pickF rfl rfl) ?_
              refine Jl.pv (PR.move rfl) ?_
              refine Jl.on rfl rfl ?_
              refine Jl.pv (PR.move rfl) ?_
              refine Jl.on rfl rfl ?_
              refine Jl.pv (PR.neq false rfl rfl (by simpa using g105)) ?_
              refine Jl.on rfl rfl ?_
              refine Jl.pv (PR.move rfl) ?_
              refine Jl.off rfl rfl rfl rfl ?_
              refine Jl.off rfl rfl rfl rfl ?_
              refine Jl.off rfl rfl rfl rfl ?_
              refine Jl.off rfl rfl rfl rfl ?_
              refine Jl.on rfl rfl ?_
              refine Jl.pv (PR.pickF rfl rfl) ?_
              refine Jl.pv (PR.pickF rfl rfl) ?_
              refine Jl.nil ?_
              refine Jq.thenN ?_
              refine Jc.condF rfl ?_
              refine Jc.skip ?_
              exact Jq.midT () (by exact ⟨rfl, rfl, rfl, trivial⟩) (by repeat (first | exact Take.nil | apply Take.cons (by repeat (first | exact Del.here | apply Del.there)))) (by exact ⟨(by repeat (first | exact Mem.here | apply Mem.there)), (by repeat (first | exact Mem.here | apply Mem.there)), (by repeat (first | exact Mem.here | apply Mem.there)), (by repeat (first | exact Mem.here | apply Mem.there)), trivial⟩)
            · try replace g105 := of_decide_eq_false g105
              refine Jl.off rfl rfl rfl rfl ?_
              refine Jl.off rfl rfl rfl rfl ?_
              refine Jl.off rfl rfl rfl rfl ?_
              refine Jl.off rfl rfl rfl rfl ?_
              refine Jl.off rfl rfl rfl rfl ?_
              refine Jl.off rfl rfl rfl rfl ?_
              refine Jl.offU rfl rfl rfl ?_
              refine Jl.offU rfl rfl rfl ?_
              refine Jl.offU rfl rfl rfl ?_
              refine Jl.offU rfl rfl rfl ?_
              refine Jl.offU rfl rfl rfl ?_
              refine Jl.off rfl rfl rfl rfl ?_
              refine Jl.on rfl rfl ?_
              refine Jl.pv (PR.pickF rfl rfl) ?_
              refine Jl.pv (PR.pickF rfl rfl) ?_
              refine Jl.pv (PR.move rfl) ?_
              refine Jl.on rfl rfl ?_
              refine Jl.pv (PR.move rfl) ?_
              refine Jl.on rfl rfl ?_
              refine Jl.pv (PR.neq true rfl rfl (by simpa using g105)) ?_
              refine Jl.on rfl rfl ?_
              refine Jl.pv (PR.move rfl) ?_
              refine Jl.on rfl rfl ?_
              refine Jl.pv (PR.loadW rfl tsh24 (by repeat (first | exact Has.here | apply Has.there)) (by rfl)) ?_
              refine Jl.on rfl rfl ?_
              refine Jl.pv (PR.loadW rfl tsh24 (by repeat (first | exact Has.here | apply Has.there)) (by rfl)) ?_
              refine Jl.on rfl rfl ?_
              refine Jl.call (dsame_at (d.swap b) d (by omega) (by omega) hc91 hc (by rw [(swap_full g105).1, d.own_own])) en13 (by rfl) (by repeat (first | exact Take.nil | apply Take.cons (by repeat (first | exact Del.here | apply Del.there)))) (by repeat (first | exact trivial | refine And.intro (by repeat (first | exact Mem.here | apply Mem.there)) ?_)) ?_
              rintro ⟨⟩
              refine Jl.as (.bool true) (congrArg Value.bool rfl) ?_
              refine Jl.on rfl rfl ?_
              refine Jl.pv (PR.not rfl) ?_
              refine Jl.on rfl rfl ?_
              refine Jl.pv (PR.pickT rfl rfl) ?_
              refine Jl.pv (PR.pickF rfl rfl) ?_
              refine Jl.nil ?_
              refine Jq.thenN ?_
              refine Jc.condF rfl ?_
              refine Jc.skip ?_
              exact Jq.midT () (by exact ⟨rfl, rfl, rfl, trivial⟩) (by repeat (first | exact Take.nil | apply Take.cons (by repeat (first | exact Del.here | apply Del.there)))) (by exact ⟨(by repeat (first | exact Mem.here | apply Mem.there)), (by repeat (first | exact Mem.here | apply Mem.there)), (by repeat (first | exact Mem.here | apply Mem.there)), (by repeat (first | exact Mem.here | apply Mem.there)), trivial⟩)
          · rintro ⟨⟩
            refine Jc.seq ?_
            refine Jc.region ?_
            refine Jl.pv (PR.fieldAddr rfl tfl24_0) ?_
            refine Jl.pv (PR.load1 rfl tsh22 (by repeat (first | exact Has.here | apply Has.there)) (by rfl)) ?_
            refine Jl.pv (PR.move rfl) ?_
            refine Jl.call (dlsame_at d.b d.b rfl rfl) en12 (by rfl) (by repeat (first | exact Take.nil | apply Take.cons (by repeat (first | exact Del.here | apply Del.there)))) (by repeat (first | exact trivial | refine And.intro (by repeat (first | exact Mem.here | apply Mem.there)) ?_)) ?_
            rintro ⟨⟩
            refine Jl.as (.bool true) (congrArg Value.bool (by simp)) ?_
            refine Jl.pv (PR.move rfl) ?_
            refine Jl.on rfl rfl ?_
            refine Jl.pv (PR.loadW rfl tsh24 (by repeat (first | exact Has.here | apply Has.there)) (by rfl)) ?_
            refine Jl.on rfl rfl ?_
            refine Jl.pv (PR.loadW rfl tsh24 (by repeat (first | exact Has.here | apply Has.there)) (by rfl)) ?_
            refine Jl.on rfl rfl ?_
            refine Jl.call (dsame_at d.own d (by omega) (by omega) hc30 hc d.own_own) en13 (by rfl) (by repeat (first | exact Take.nil | apply Take.cons (by repeat (first | exact Del.here | apply Del.there)))) (by repeat (first | exact trivial | refine And.intro (by repeat (first | exact Mem.here | apply Mem.there)) ?_)) ?_
            rintro ⟨⟩
            refine Jl.as (.bool true) (congrArg Value.bool rfl) ?_
            refine Jl.pv (PR.pickT rfl rfl) ?_
            refine Jl.pv (PR.move rfl) ?_
            refine Jl.on rfl rfl ?_
            refine Jl.call dwakes_ct en9 (by rfl) (by repeat (first | exact Take.nil | apply Take.cons (by repeat (first | exact Del.here | apply Del.there)))) (by repeat (first | exact trivial | refine And.intro (by repeat (first | exact Mem.here | apply Mem.there)) ?_)) ?_
            rintro ⟨⟩
            refine Jl.pv (PR.pickT rfl rfl) ?_
            refine Jl.pv (PR.assign rfl) ?_
            refine Jl.nil ?_
            refine Jq.thenN ?_
            refine Jc.ret ?_
            exact Jq.fin () (.inl rfl) rfl (RetVs.tmp rfl RetVs.nil) rfl (by repeat (first | exact Take.nil | apply Take.cons (by repeat (first | exact Del.here | apply Del.there)))) (by repeat (first | exact trivial | refine And.intro (by repeat (first | exact Mem.here | apply Mem.there)) ?_))
end Go.Proofs.Ythlmleemapeohaa
