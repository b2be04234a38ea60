/-
The law NumOnly answers true.
-/
import Derived.Test.YtghedmholhhadaaNumR
import Derived.Test.YtghedmholhhadaaNumQ
namespace Go.Proofs.Ytghedmholhhadaa
open Go.RowKit
attribute [local irreducible] Res.blk Res.row Fact.rd

theorem take_len {A : Option Addr} {c n : Nat} {t : Nat × List UInt8 × Nat} (b : List UInt8) (hl : b.length = n) (h : takeN b = t) (hn : n ≤ 1000000) (hc : n ≤ c) : Ct Try.prog 12 [.slice A n c] [] [.rd A (u8s b)] (takeV t) (rowU t.2.1) (fun _ => []) := by
  subst hl h; exact take_ct A c b hn hc
theorem takeRow_len {A : Option Addr} {c n : Nat} {t : List Nat × List UInt8 × Nat} (b : List UInt8) (hl : b.length = n) (h : takeRowN b = t) (hn : n ≤ 1000000) (hc : n ≤ c) :
    Ct Try.prog 13 [.slice A n c] [] [.rd A (u8s b)] (takeRowV t) (fun x => [.row 3 1 (.slice x.1.1 t.1.length x.1.2) t.1.length (natI t.1)]) (fun x => [.rd x.2.1 (u8s t.2.1), .is (t.2.1.length ≤ x.2.2)]) := by
  subst hl h; exact takeRow_ct A c b hn hc
theorem row_len {A : Option Addr} {c n : Nat} {m : List UInt8} {r : Int} (l : List Int) (hl : l.length = n) (hn : n ≤ 1000) (h : rowN l = m) (h2 : rowR l = r) : Ct Try.prog 11 [.slice A n c] [] [.rd A (l.map (Value.int .i64))] (fun x : Option Addr × Nat => .tuple #[.slice x.1 m.length x.2, .int .i64 r]) (rowU m) (fun _ => []) := by
  subst hl h h2; exact row_ct A c l hn
theorem natI_map (l : List Nat) : natI l = (l.map Int.ofNat).map (Value.int .i64) := by simp [natI]
theorem u8s_app (a b : List UInt8) : u8s a ++ u8s b = u8s (a ++ b) := by simp [u8s]
theorem sl_drop (b : List UInt8) : ((u8s b).drop (0 * 1)).take ((b.length - 1) * 1) = u8s b.dropLast := by
  rw [List.dropLast_eq_take]; simp [u8s]
theorem pos_len {b : List UInt8} (h : b ≠ []) : 0 < b.length := List.length_pos_iff.2 h
theorem rowsB_ne (l : List Int) : rowsB l ≠ [] := fun he => putB_ne _ (List.append_eq_nil_iff.1 he).1
theorem rowsB_len {l : List Int} (h : l.length ≤ 40) : (rowsB l).length ≤ 410 := by
  have h1 := flat_len l
  have h2 := putB_len (l.length : Int)
  simp only [rowsB, List.length_append]; omega

theorem numOnly_ct (A : Option Addr) (c : Nat) (b : List UInt8) (hc : b.length ≤ c) : Ct Try.prog 6 [.slice A b.length c] [] [.rd A (u8s b)] (fun _ : Unit => .bool true) (fun _ => []) (fun _ => []) := by
  refine Ct.of _ Try.func6 Try.ntmps6 rfl rfl (fun X W => ?_)
  refine Jc.seq ?_
  refine Jc.region ?_
  refine Jl.pv (PR.assign rfl) ?_
  refine Jl.nil ?_
  refine Jq.thenN ?_
  refine Jc.seq ?_
  refine Jc.seq ?_
  refine Jc.region ?_
  refine Jl.pv (PR.move rfl) ?_
  refine Jl.pv (PR.len rfl tsl23) ?_
  refine Jl.pv (PR.gtr _ rfl rfl rfl) ?_
  refine Jl.nil ?_
  refine Jq.thenN ?_
  refine Jc.cond rfl (fun h0 => ?_) (fun h0 => ?_)
  · try replace h0 := of_decide_eq_true h0
    refine Jc.seq ?_
    refine Jc.region ?_
    refine Jl.call wakes_ct en7 (by rfl) (by repeat (first | exact Take.nil | apply Take.cons (by repeat (first | exact Del.here | apply Del.there)))) (by repeat (first | exact trivial | refine And.intro (by repeat (first | exact Mem.here | apply Mem.there)) ?_)) ?_
    rintro ⟨⟩
    refine Jl.pv (PR.assign rfl) ?_
    refine Jl.nil ?_
    refine Jq.thenN ?_
    refine Jc.ret ?_
    refine Jq.thenR ?_
    exact Jq.fin () (.inl rfl) rfl (RetVs.tmp rfl RetVs.nil) rfl (by repeat (first | exact Take.nil | apply Take.cons (by repeat (first | exact Del.here | apply Del.there)))) (by repeat (first | exact trivial | refine And.intro (by repeat (first | exact Mem.here | apply Mem.there)) ?_))
  · try replace h0 := of_decide_eq_false h0
    have hb : b.length ≤ 300 := by omega
    refine Jc.skip ?_
    refine Jq.thenN ?_
    refine Jc.seq ?_
    refine Jc.region ?_
    refine Jl.pv (PR.move rfl) ?_
    refine Jl.call (take_ct A c b (by omega) hc) en12 (by rfl) (by repeat (first | exact Take.nil | apply Take.cons (by repeat (first | exact Del.here | apply Del.there)))) (by repeat (first | exact trivial | refine And.intro (by repeat (first | exact Mem.here | apply Mem.there)) ?_)) ?_
    rintro ⟨A23, c23⟩
    refine Jl.sealC (by repeat (first | exact Del.here | apply Del.there)) (fun hc23 => ?_)
    refine Jl.pv (PR.move rfl) ?_
    refine Jl.pv (PR.extract rfl (by rfl)) ?_
    refine Jl.pv (PR.extract rfl (by rfl)) ?_
    refine Jl.pv (PR.extract rfl (by rfl)) ?_
    refine Jl.pv (PR.assign rfl) ?_
    refine Jl.pv (PR.assign rfl) ?_
    refine Jl.pv (PR.assign rfl) ?_
    refine Jl.nil ?_
    refine Jq.thenN ?_
    refine Jc.mid (σ := Unit) (fun _ => [(0, .slice A b.length c)]) (fun _ => []) (fun _ => [.rd A (u8s b)]) ?_ ?_
    · refine Jc.seq ?_
      refine Jc.region ?_
      refine Jl.pv (PR.move rfl) ?_
      refine Jl.pv (PR.eql _ rfl rfl rfl) ?_
      refine Jl.nil ?_
      refine Jq.thenN ?_
      refine Jc.cond rfl (fun h1 => ?_) (fun h1 => ?_)
      · try replace h1 := of_decide_eq_true h1
        have hn : takeN b = ((takeN b).1, (takeN b).2.1, 0) := Prod.ext rfl (Prod.ext rfl (by show (takeN b).2.2 = 0; omega))
        obtain ⟨j1, j2⟩ := takeN_only hn
        have hfv : fineN ((takeN b).1 : Int) = true := by simp [fineN]; omega
        have hpl := putB_len ((takeN b).1 : Int)
        have hpp := pos_len (putB_ne ((takeN b).1 : Int))
        have hjl := congrArg List.length j1
        rw [List.length_append] at hjl
        refine Jc.seq ?_
        refine Jc.region ?_
        refine Jl.pv (PR.move rfl) ?_
        refine Jl.call (put_fine hfv) en8 (by rfl) (by repeat (first | exact Take.nil | apply Take.cons (by repeat (first | exact Del.here | apply Del.there)))) (by repeat (first | exact trivial | refine And.intro (by repeat (first | exact Mem.here | apply Mem.there)) ?_)) ?_
        rintro ⟨A31, c31⟩
        refine Jl.sealC (by repeat (first | exact Del.here | apply Del.there)) (fun hc31 => ?_)
        refine Jl.pv (PR.move rfl) ?_
        refine Jl.pv (PR.extract rfl (by rfl)) ?_
        refine Jl.pv (PR.extract rfl (by rfl)) ?_
        refine Jl.pv (PR.assign rfl) ?_
        refine Jl.pv (PR.assign rfl) ?_
        refine Jl.nil ?_
        refine Jq.thenN ?_
        refine Jc.seq ?_
        refine Jc.seq ?_
        refine Jc.region ?_
        refine Jl.pv (PR.move rfl) ?_
        refine Jl.pv (PR.neq false rfl rfl rfl) ?_
        refine Jl.pv (PR.move rfl) ?_
        refine Jl.on rfl rfl ?_
        refine Jl.buildSlice (by rfl) tsl23 tzr23_0 (by rfl) (by rfl) ?_
        intro b37
        refine Jl.on rfl rfl ?_
        refine Jl.pv (PR.move rfl) ?_
        refine Jl.on rfl rfl ?_
        refine Jl.toRow 1 0 (by repeat (first | exact Swap.here | apply Swap.there)) (by rfl) (by rfl) ?_
        refine Jl.append (putB ((takeN b).1 : Int)).length (u8s (putB ((takeN b).1 : Int))) rfl rfl rfl tsl23 tze5 (by rfl) (by decide) tby5 (fun _ _ => (by repeat (first | exact Swap.here | apply Swap.there))) (by repeat (first | exact Mem.here | apply Mem.there)) (by omega) rfl (by simp [u8s]) (u8s_one _) (by omega) (by decide) ?_
        intro A39 c39
        refine Jl.on rfl rfl ?_
        refine Jl.pv (PR.move rfl) ?_
        refine Jl.on rfl rfl ?_
        refine Jl.append b.length (u8s b) rfl rfl rfl tsl23 tze5 (by rfl) (by decide) tby5 (fun _ _ => (by repeat (first | exact Swap.here | apply Swap.there))) (by repeat (first | exact Mem.here | apply Mem.there)) hjl ((u8s_app _ _).trans (congrArg u8s j1)) (by simp [u8s]) (u8s_one _) (by omega) (by decide) ?_
        intro A41 c41
        refine Jl.sealC (by repeat (first | exact Del.here | apply Del.there)) (fun _ => ?_)
        refine Jl.on rfl rfl ?_
        refine Jl.pv (PR.move rfl) ?_
        refine Jl.on rfl rfl ?_
        refine Jl.call (same_at b b rfl rfl) en9 (by rfl) (by repeat (first | exact Take.nil | apply Take.cons (by repeat (first | exact Del.here | apply Del.there)))) (by repeat (first | exact trivial | refine And.intro (by repeat (first | exact Mem.here | apply Mem.there)) ?_)) ?_
        rintro ⟨⟩
        refine Jl.as (.bool true) (congrArg Value.bool (by simp)) ?_
        refine Jl.on rfl rfl ?_
        refine Jl.pv (PR.not rfl) ?_
        refine Jl.pv (PR.pickF rfl rfl) ?_
        refine Jl.pv (PR.move rfl) ?_
        refine Jl.on rfl rfl ?_
        refine Jl.pv (PR.move rfl) ?_
        refine Jl.on rfl rfl ?_
        refine Jl.pv (PR.len rfl tsl23) ?_
        refine Jl.on rfl rfl ?_
        refine Jl.pv (PR.eql false rfl rfl (decide_eq_false (by omega))) ?_
        refine Jl.pv (PR.pickF rfl rfl) ?_
        refine Jl.nil ?_
        refine Jq.thenN ?_
        refine Jc.condF rfl ?_
        refine Jc.skip ?_
        refine Jq.thenN ?_
        refine Jc.seq ?_
        refine Jc.region ?_
        refine Jl.pv (PR.move rfl) ?_
        refine Jl.pv (PR.move rfl) ?_
        refine Jl.pv (PR.len rfl tsl23) ?_
        refine Jl.pv (PR.sub (((putB ((takeN b).1 : Int)).length - 1 : Nat) : Int) rfl rfl (by rw [w64 (by omega) (by omega)]; omega)) ?_
        refine Jl.slice 0 ((putB ((takeN b).1 : Int)).length - 1) ((putB ((takeN b).1 : Int)).length - 1) (u8s (putB ((takeN b).1 : Int)).dropLast) rfl tsl23 rfl rfl (by repeat (first | exact Mem.here | apply Mem.there)) (Nat.zero_le _) (by omega) hc31 rfl (sl_drop _) ?_
        intro A56 c56 hc56
        skip
        refine Jl.call (take_len (c := c56) (n := (putB ((takeN b).1 : Int)).length - 1) (t := (0, [], 10)) (putB ((takeN b).1 : Int)).dropLast (by simp) (takeN_cut hfv) (by omega) (by have : c56 = c31 := hc56; omega)) en12 (by rfl) (by repeat (first | exact Take.nil | apply Take.cons (by repeat (first | exact Del.here | apply Del.there)))) (by repeat (first | exact trivial | refine And.intro (by repeat (first | exact Mem.here | apply Mem.there)) ?_)) ?_
        rintro ⟨A57, c57⟩
        refine Jl.sealC (by repeat (first | exact Del.here | apply Del.there)) (fun _ => ?_)
        refine Jl.pv (PR.move rfl) ?_
        refine Jl.pv (PR.extract rfl (by rfl)) ?_
        refine Jl.pv (PR.extract rfl (by rfl)) ?_
        refine Jl.pv (PR.extract rfl (by rfl)) ?_
        refine Jl.pv (PR.assign rfl) ?_
        refine Jl.pv (PR.assign rfl) ?_
        refine Jl.pv (PR.assign rfl) ?_
        refine Jl.nil ?_
        refine Jq.thenN ?_
        refine Jc.seq ?_
        refine Jc.region ?_
        refine Jl.pv (PR.move rfl) ?_
        refine Jl.pv (PR.neq false rfl rfl rfl) ?_
        refine Jl.nil ?_
        refine Jq.thenN ?_
        refine Jc.condF rfl ?_
        refine Jc.skip ?_
        exact Jq.mid () (by exact ⟨rfl, trivial⟩) rfl (by exact ⟨(by repeat (first | exact Mem.here | apply Mem.there)), trivial⟩)
      · try replace h1 := of_decide_eq_false h1
        obtain ⟨e1, e2⟩ := takeN_err b (by omega)
        have e3 : (takeN b).1 = 0 := congrArg Prod.fst e1
        have e4 : (takeN b).2.1 = [] := congrArg (fun t => t.2.1) e1
        refine Jc.seq ?_
        refine Jc.region ?_
        refine Jl.pv (PR.move rfl) ?_
        refine Jl.pv (PR.neq _ rfl rfl rfl) ?_
        refine Jl.pv (PR.move rfl) ?_
        refine Jl.bsplit (fun g65 => ?_) (fun g65 => ?_)
        · try replace g65 := of_decide_eq_true g65
          refine Jl.on rfl rfl ?_
          refine Jl.pv (PR.move rfl) ?_
          refine Jl.on rfl rfl ?_
          refine Jl.pv (PR.neq false rfl rfl (by simp; omega)) ?_
          refine Jl.pv (PR.pickT rfl rfl) ?_
          refine Jl.pv (PR.move rfl) ?_
          refine Jl.on rfl rfl ?_
          refine Jl.pv (PR.move rfl) ?_
          refine Jl.on rfl rfl ?_
          refine Jl.pv (PR.neq false rfl rfl (by simp [e3])) ?_
          refine Jl.pv (PR.pickF rfl rfl) ?_
          refine Jl.pv (PR.move rfl) ?_
          refine Jl.on rfl rfl ?_
          refine Jl.pv (PR.move rfl) ?_
          refine Jl.on rfl rfl ?_
          refine Jl.pv (PR.len rfl tsl23) ?_
          refine Jl.on rfl rfl ?_
          refine Jl.pv (PR.neq false rfl rfl (by simp [e4])) ?_
          refine Jl.pv (PR.pickF rfl rfl) ?_
          refine Jl.nil ?_
          refine Jq.thenN ?_
          refine Jc.condF rfl ?_
          refine Jc.skip ?_
          exact Jq.mid () (by exact ⟨rfl, trivial⟩) rfl (by exact ⟨(by repeat (first | exact Mem.here | apply Mem.there)), trivial⟩)
        · try replace g65 := of_decide_eq_false g65
          refine Jl.off rfl rfl rfl rfl ?_
          refine Jl.off rfl rfl rfl rfl ?_
          refine Jl.pv (PR.pickF rfl rfl) ?_
          refine Jl.pv (PR.move rfl) ?_
          refine Jl.on rfl rfl ?_
          refine Jl.pv (PR.move rfl) ?_
          refine Jl.on rfl rfl ?_
          refine Jl.pv (PR.neq false rfl rfl (by simp [e3])) ?_
          refine Jl.pv (PR.pickF rfl rfl) ?_
          refine Jl.pv (PR.move rfl) ?_
          refine Jl.on rfl rfl ?_
          refine Jl.pv (PR.move rfl) ?_
          refine Jl.on rfl rfl ?_
          refine Jl.pv (PR.len rfl tsl23) ?_
          refine Jl.on rfl rfl ?_
          refine Jl.pv (PR.neq false rfl rfl (by simp [e4])) ?_
          refine Jl.pv (PR.pickF rfl rfl) ?_
          refine Jl.nil ?_
          refine Jq.thenN ?_
          refine Jc.condF rfl ?_
          refine Jc.skip ?_
          exact Jq.mid () (by exact ⟨rfl, trivial⟩) rfl (by exact ⟨(by repeat (first | exact Mem.here | apply Mem.there)), trivial⟩)
    · rintro ⟨⟩
      refine Jc.seq ?_
      refine Jc.region ?_
      refine Jl.pv (PR.move rfl) ?_
      refine Jl.call (takeRow_ct A c b (by omega) hc) en13 (by rfl) (by repeat (first | exact Take.nil | apply Take.cons (by repeat (first | exact Del.here | apply Del.there)))) (by repeat (first | exact trivial | refine And.intro (by repeat (first | exact Mem.here | apply Mem.there)) ?_)) ?_
      rintro ⟨⟨A80, c80⟩, ⟨B80, d80⟩⟩
      refine Jl.sealC (by repeat (first | exact Del.here | apply Del.there)) (fun hc80 => ?_)
      refine Jl.pv (PR.move rfl) ?_
      refine Jl.pv (PR.extract rfl (by rfl)) ?_
      refine Jl.pv (PR.extract rfl (by rfl)) ?_
      refine Jl.pv (PR.extract rfl (by rfl)) ?_
      refine Jl.pv (PR.assign rfl) ?_
      refine Jl.pv (PR.assign rfl) ?_
      refine Jl.pv (PR.assign rfl) ?_
      refine Jl.nil ?_
      refine Jq.thenN ?_
      refine Jc.seq ?_
      refine Jc.seq ?_
      refine Jc.region ?_
      refine Jl.pv (PR.move rfl) ?_
      refine Jl.pv (PR.neq _ rfl rfl rfl) ?_
      refine Jl.nil ?_
      refine Jq.thenN ?_
      refine Jc.cond rfl (fun h2 => ?_) (fun h2 => ?_)
      · try replace h2 := of_decide_eq_true h2
        obtain ⟨e1, e2⟩ := takeRow_bad (b := b) (by omega)
        have e3 : (takeRowN b).1 = [] := congrArg Prod.fst e1
        have e4 : (takeRowN b).2.1 = [] := congrArg (fun t => t.2.1) e1
        refine Jc.seq ?_
        refine Jc.region ?_
        refine Jl.pv (PR.move rfl) ?_
        refine Jl.pv (PR.eql _ rfl rfl rfl) ?_
        refine Jl.pv (PR.move rfl) ?_
        refine Jl.bsplit (fun g88 => ?_) (fun g88 => ?_)
        · try replace g88 := of_decide_eq_true g88
          refine Jl.off rfl rfl rfl rfl ?_
          refine Jl.off rfl rfl rfl rfl ?_
          refine Jl.pv (PR.pickT rfl rfl) ?_
          refine Jl.pv (PR.move rfl) ?_
          refine Jl.on rfl rfl ?_
          refine Jl.pv (PR.move rfl) ?_
          refine Jl.on rfl rfl ?_
          refine Jl.pv (PR.len rfl tsl30) ?_
          refine Jl.on rfl rfl ?_
          refine Jl.pv (PR.eql true rfl rfl (by simp [e3])) ?_
          refine Jl.pv (PR.pickT rfl rfl) ?_
          refine Jl.pv (PR.move rfl) ?_
          refine Jl.on rfl rfl ?_
          refine Jl.pv (PR.move rfl) ?_
          refine Jl.on rfl rfl ?_
          refine Jl.pv (PR.len rfl tsl23) ?_
          refine Jl.on rfl rfl ?_
          refine Jl.pv (PR.eql true rfl rfl (by simp [e4])) ?_
          refine Jl.pv (PR.pickT rfl rfl) ?_
          refine Jl.pv (PR.move rfl) ?_
          refine Jl.on rfl rfl ?_
          refine Jl.call wakes_ct en7 (by rfl) (by repeat (first | exact Take.nil | apply Take.cons (by repeat (first | exact Del.here | apply Del.there)))) (by repeat (first | exact trivial | refine And.intro (by repeat (first | exact Mem.here | apply Mem.there)) ?_)) ?_
          rintro ⟨⟩
          refine Jl.pv (PR.pickT rfl rfl) ?_
          refine Jl.pv (PR.assign rfl) ?_
          refine Jl.nil ?_
          refine Jq.thenN ?_
          refine Jc.ret ?_
          refine Jq.thenR ?_
          exact Jq.fin () (.inl rfl) rfl (RetVs.tmp rfl RetVs.nil) rfl (by repeat (first | exact Take.nil | apply Take.cons (by repeat (first | exact Del.here | apply Del.there)))) (by repeat (first | exact trivial | refine And.intro (by repeat (first | exact Mem.here | apply Mem.there)) ?_))
        · try replace g88 := of_decide_eq_false g88
          refine Jl.on rfl rfl ?_
          refine Jl.pv (PR.move rfl) ?_
          refine Jl.on rfl rfl ?_
          refine Jl.pv (PR.eql true rfl rfl (by simp; omega)) ?_
          refine Jl.pv (PR.pickF rfl rfl) ?_
          refine Jl.pv (PR.move rfl) ?_
          refine Jl.on rfl rfl ?_
          refine Jl.pv (PR.move rfl) ?_
          refine Jl.on rfl rfl ?_
          refine Jl.pv (PR.len rfl tsl30) ?_
          refine Jl.on rfl rfl ?_
          refine Jl.pv (PR.eql true rfl rfl (by simp [e3])) ?_
          refine Jl.pv (PR.pickT rfl rfl) ?_
          refine Jl.pv (PR.move rfl) ?_
          refine Jl.on rfl rfl ?_
          refine Jl.pv (PR.move rfl) ?_
          refine Jl.on rfl rfl ?_
          refine Jl.pv (PR.len rfl tsl23) ?_
          refine Jl.on rfl rfl ?_
          refine Jl.pv (PR.eql true rfl rfl (by simp [e4])) ?_
          refine Jl.pv (PR.pickT rfl rfl) ?_
          refine Jl.pv (PR.move rfl) ?_
          refine Jl.on rfl rfl ?_
          refine Jl.call wakes_ct en7 (by rfl) (by repeat (first | exact Take.nil | apply Take.cons (by repeat (first | exact Del.here | apply Del.there)))) (by repeat (first | exact trivial | refine And.intro (by repeat (first | exact Mem.here | apply Mem.there)) ?_)) ?_
          rintro ⟨⟩
          refine Jl.pv (PR.pickT rfl rfl) ?_
          refine Jl.pv (PR.assign rfl) ?_
          refine Jl.nil ?_
          refine Jq.thenN ?_
          refine Jc.ret ?_
          refine Jq.thenR ?_
          exact Jq.fin () (.inl rfl) rfl (RetVs.tmp rfl RetVs.nil) rfl (by repeat (first | exact Take.nil | apply Take.cons (by repeat (first | exact Del.here | apply Del.there)))) (by repeat (first | exact trivial | refine And.intro (by repeat (first | exact Mem.here | apply Mem.there)) ?_))
      · try replace h2 := of_decide_eq_false h2
        have hn : takeRowN b = ((takeRowN b).1, (takeRowN b).2.1, 0) := Prod.ext rfl (Prod.ext rfl (by show (takeRowN b).2.2 = 0; omega))
        obtain ⟨hok, j1⟩ := takeRow_only hn
        have hok40 := (rowOk_fine hok).1
        have hrl := rowsB_len hok40
        rw [List.length_map] at hok40
        have hpp := pos_len (rowsB_ne ((takeRowN b).1.map Int.ofNat))
        have hjl := congrArg List.length j1
        rw [List.length_append] at hjl
        rw [natI_map]
        refine Jc.skip ?_
        refine Jq.thenN ?_
        refine Jc.seq ?_
        refine Jc.region ?_
        refine Jl.pv (PR.move rfl) ?_
        refine Jl.call (row_len (n := (takeRowN b).1.length) (m := rowsB ((takeRowN b).1.map Int.ofNat)) (r := 0) ((takeRowN b).1.map Int.ofNat) (by simp) (by omega) (if_pos hok) (if_pos hok)) en11 (by rfl) (by repeat (first | exact Take.nil | apply Take.cons (by repeat (first | exact Del.here | apply Del.there)))) (by repeat (first | exact trivial | refine And.intro (by repeat (first | exact Mem.here | apply Mem.there)) ?_)) ?_
        rintro ⟨A107, c107⟩
        refine Jl.sealC (by repeat (first | exact Del.here | apply Del.there)) (fun hc107 => ?_)
        refine Jl.pv (PR.move rfl) ?_
        refine Jl.pv (PR.extract rfl (by rfl)) ?_
        refine Jl.pv (PR.extract rfl (by rfl)) ?_
        refine Jl.pv (PR.assign rfl) ?_
        refine Jl.pv (PR.assign rfl) ?_
        refine Jl.nil ?_
        refine Jq.thenN ?_
        refine Jc.seq ?_
        refine Jc.seq ?_
        refine Jc.region ?_
        refine Jl.pv (PR.move rfl) ?_
        refine Jl.pv (PR.neq false rfl rfl rfl) ?_
        refine Jl.pv (PR.move rfl) ?_
        refine Jl.on rfl rfl ?_
        refine Jl.buildSlice (by rfl) tsl23 tzr23_0 (by rfl) (by rfl) ?_
        intro b113
        refine Jl.on rfl rfl ?_
        refine Jl.pv (PR.move rfl) ?_
        refine Jl.on rfl rfl ?_
        refine Jl.toRow 1 0 (by repeat (first | exact Swap.here | apply Swap.there)) (by rfl) (by rfl) ?_
        refine Jl.append (rowsB ((takeRowN b).1.map Int.ofNat)).length (u8s (rowsB ((takeRowN b).1.map Int.ofNat))) rfl rfl rfl tsl23 tze5 (by rfl) (by decide) tby5 (fun _ _ => (by repeat (first | exact Swap.here | apply Swap.there))) (by repeat (first | exact Mem.here | apply Mem.there)) (by omega) rfl (by simp [u8s]) (u8s_one _) (by omega) (by decide) ?_
        intro A115 c115
        refine Jl.on rfl rfl ?_
        refine Jl.pv (PR.move rfl) ?_
        refine Jl.on rfl rfl ?_
        refine Jl.append b.length (u8s b) rfl rfl rfl tsl23 tze5 (by rfl) (by decide) tby5 (fun _ _ => (by repeat (first | exact Swap.here | apply Swap.there))) (by repeat (first | exact Mem.here | apply Mem.there)) hjl ((u8s_app _ _).trans (congrArg u8s j1)) (by simp [u8s]) (u8s_one _) (by omega) (by decide) ?_
        intro A117 c117
        refine Jl.sealC (by repeat (first | exact Del.here | apply Del.there)) (fun _ => ?_)
        refine Jl.on rfl rfl ?_
        refine Jl.pv (PR.move rfl) ?_
        refine Jl.on rfl rfl ?_
        refine Jl.call (same_at b b rfl rfl) en9 (by rfl) (by repeat (first | exact Take.nil | apply Take.cons (by repeat (first | exact Del.here | apply Del.there)))) (by repeat (first | exact trivial | refine And.intro (by repeat (first | exact Mem.here | apply Mem.there)) ?_)) ?_
        rintro ⟨⟩
        refine Jl.as (.bool true) (congrArg Value.bool (by simp)) ?_
        refine Jl.on rfl rfl ?_
        refine Jl.pv (PR.not rfl) ?_
        refine Jl.pv (PR.pickF rfl rfl) ?_
        refine Jl.pv (PR.move rfl) ?_
        refine Jl.on rfl rfl ?_
        refine Jl.pv (PR.move rfl) ?_
        refine Jl.on rfl rfl ?_
        refine Jl.pv (PR.len rfl tsl23) ?_
        refine Jl.on rfl rfl ?_
        refine Jl.pv (PR.eql false rfl rfl (decide_eq_false (by omega))) ?_
        refine Jl.pv (PR.pickF rfl rfl) ?_
        refine Jl.nil ?_
        refine Jq.thenN ?_
        refine Jc.condF rfl ?_
        refine Jc.skip ?_
        refine Jq.thenN ?_
        refine Jc.seq ?_
        refine Jc.region ?_
        refine Jl.pv (PR.move rfl) ?_
        refine Jl.pv (PR.move rfl) ?_
        refine Jl.pv (PR.len rfl tsl23) ?_
        refine Jl.pv (PR.sub (((rowsB ((takeRowN b).1.map Int.ofNat)).length - 1 : Nat) : Int) rfl rfl (by rw [w64 (by omega) (by omega)]; omega)) ?_
        refine Jl.slice 0 ((rowsB ((takeRowN b).1.map Int.ofNat)).length - 1) ((rowsB ((takeRowN b).1.map Int.ofNat)).length - 1) (u8s (rowsB ((takeRowN b).1.map Int.ofNat)).dropLast) rfl tsl23 rfl rfl (by repeat (first | exact Mem.here | apply Mem.there)) (Nat.zero_le _) (by omega) hc107 rfl (sl_drop _) ?_
        intro A132 c132 hc132
        skip
        refine Jl.call (takeRow_len (c := c132) (n := (rowsB ((takeRowN b).1.map Int.ofNat)).length - 1) (t := takeRowN (rowsB ((takeRowN b).1.map Int.ofNat)).dropLast) (rowsB ((takeRowN b).1.map Int.ofNat)).dropLast (by simp) rfl (by omega) (by have : c132 = c107 := hc132; omega)) en13 (by rfl) (by repeat (first | exact Take.nil | apply Take.cons (by repeat (first | exact Del.here | apply Del.there)))) (by repeat (first | exact trivial | refine And.intro (by repeat (first | exact Mem.here | apply Mem.there)) ?_)) ?_
        rintro ⟨⟨A133, c133⟩, ⟨B133, d133⟩⟩
        refine Jl.pv (PR.move rfl) ?_
        refine Jl.pv (PR.extract rfl (by rfl)) ?_
        refine Jl.pv (PR.extract rfl (by rfl)) ?_
        refine Jl.pv (PR.extract rfl (by rfl)) ?_
        refine Jl.pv (PR.assign rfl) ?_
        refine Jl.pv (PR.assign rfl) ?_
        refine Jl.pv (PR.assign rfl) ?_
        refine Jl.nil ?_
        refine Jq.thenN ?_
        refine Jc.seq ?_
        refine Jc.region ?_
        refine Jl.pv (PR.move rfl) ?_
        refine Jl.pv (PR.eql true rfl rfl (by rw [takeRow_cut hok]; rfl)) ?_
        refine Jl.pv (PR.move rfl) ?_
        refine Jl.on rfl rfl ?_
        refine Jl.call wakes_ct en7 (by rfl) (by repeat (first | exact Take.nil | apply Take.cons (by repeat (first | exact Del.here | apply Del.there)))) (by repeat (first | exact trivial | refine And.intro (by repeat (first | exact Mem.here | apply Mem.there)) ?_)) ?_
        rintro ⟨⟩
        refine Jl.pv (PR.pickT rfl rfl) ?_
        refine Jl.pv (PR.assign rfl) ?_
        refine Jl.nil ?_
        refine Jq.thenN ?_
        refine Jc.ret ?_
        exact Jq.fin () (.inl rfl) rfl (RetVs.tmp rfl RetVs.nil) rfl (by repeat (first | exact Take.nil | apply Take.cons (by repeat (first | exact Del.here | apply Del.there)))) (by repeat (first | exact trivial | refine And.intro (by repeat (first | exact Mem.here | apply Mem.there)) ?_))
end Go.Proofs.Ytghedmholhhadaa
