/-
The law NumBack answers true.
-/
import Derived.Test.YtghedmholhhadaaNumF
namespace Go.Proofs.Ytghedmholhhadaa
open Go.RowKit
attribute [local irreducible] Res.blk Res.row Fact.rd

theorem ints_len {A B : Option Addr} {c d n m : Nat} (l l' : List Int) (h : l.length = n) (h' : l'.length = m) (hn : n ≤ 1000000) : Ct Try.prog 14 [.slice A n c, .slice B m d] [] [.rd A (l.map (Value.int .i64)), .rd B (l'.map (Value.int .i64))] (fun _ : Unit => .bool (decide (l = l'))) (fun _ => []) (fun _ => []) := by
  subst h h'; exact ints_ct A B c d l l' hn
theorem natI_fine : ∀ {l : List Int}, (∀ n ∈ l, fineN n = true) → natI (l.map Int.toNat) = l.map (Value.int .i64)
  | [], _ => rfl
  | n :: l, h => by
    have h1 : 0 ≤ n ∧ n ≤ 1099511627776 := by simpa [fineN] using h n (by simp)
    have h2 := natI_fine (l := l) fun m hm => h m (by simp [hm])
    simp only [natI, List.map_cons] at h2 ⊢
    rw [h2, Int.toNat_of_nonneg h1.1]
def okTo (l : List Int) (k : Nat) : Bool := decide (l.length ≤ 40) && (l.take k).all fineN
theorem okTo_step (l : List Int) (k : Nat) (h : k < l.length) : okTo l (k + 1) = (okTo l k && fineN l[k]) := by
  simp only [okTo]
  rw [List.take_succ_eq_append_getElem h]
  simp only [List.all_append, List.all_cons, List.all_nil, Bool.and_true, Bool.and_assoc]
theorem okTo_all (l : List Int) (k : Nat) (h : k = l.length) : okTo l k = rowOk l := by
  subst h
  simp only [okTo, rowOk, List.take_length]
  congr 1
  rw [Bool.eq_iff_iff]
  simp

theorem numBack_ct (n : Int) (A B : Option Addr) (c d : Nat) (l : List Int) (b : List UInt8) : Ct Try.prog 5 [.int .i64 n, .slice A l.length c, .slice B b.length d] [] [.rd A (l.map (Value.int .i64)), .rd B (u8s b)] (fun _ : Unit => .bool true) (fun _ => []) (fun _ => []) := by
  refine Ct.of _ Try.func5 Try.ntmps5 rfl rfl (fun X W => ?_)
  refine Jc.seq ?_
  refine Jc.region ?_
  refine Jl.pv (PR.assign rfl) ?_
  refine Jl.nil ?_
  refine Jq.thenN ?_
  refine Jc.seq ?_
  refine Jc.seq ?_
  refine Jc.region ?_
  refine Jl.pv (PR.move rfl) ?_
  refine Jl.pv (PR.len rfl tsl30) ?_
  refine Jl.pv (PR.gtr _ rfl rfl rfl) ?_
  refine Jl.pv (PR.move rfl) ?_
  refine Jl.bsplit (fun g22 => ?_) (fun g22 => ?_)
  · try replace g22 := of_decide_eq_true g22
    refine Jl.off rfl rfl rfl rfl ?_
    refine Jl.off rfl rfl rfl rfl ?_
    refine Jl.off rfl rfl rfl rfl ?_
    refine Jl.pv (PR.pickT rfl rfl) ?_
    refine Jl.nil ?_
    refine Jq.thenN ?_
    refine Jc.condT rfl ?_
    refine Jc.seq ?_
    refine Jc.region ?_
    refine Jl.call wakes_ct en7 (by rfl) (by repeat (first | exact Take.nil | apply Take.cons (by repeat (first | exact Del.here | apply Del.there)))) (by repeat (first | exact trivial | refine And.intro (by repeat (first | exact Mem.here | apply Mem.there)) ?_)) ?_
    rintro ⟨⟩
    refine Jl.pv (PR.assign rfl) ?_
    refine Jl.nil ?_
    refine Jq.thenN ?_
    refine Jc.ret ?_
    refine Jq.thenR ?_
    exact Jq.fin () (.inl rfl) rfl (RetVs.tmp rfl RetVs.nil) rfl (by repeat (first | exact Take.nil | apply Take.cons (by repeat (first | exact Del.here | apply Del.there)))) (by repeat (first | exact trivial | refine And.intro (by repeat (first | exact Mem.here | apply Mem.there)) ?_))
  · try replace g22 := of_decide_eq_false g22
    refine Jl.on rfl rfl ?_
    refine Jl.pv (PR.move rfl) ?_
    refine Jl.on rfl rfl ?_
    refine Jl.pv (PR.len rfl tsl23) ?_
    refine Jl.on rfl rfl ?_
    refine Jl.pv (PR.gtr _ rfl rfl rfl) ?_
    refine Jl.pv (PR.pickF rfl rfl) ?_
    refine Jl.nil ?_
    refine Jq.thenN ?_
    refine Jc.cond rfl (fun h0 => ?_) (fun h0 => ?_)
    · try replace h0 := of_decide_eq_true h0
      refine Jc.seq ?_
      refine Jc.region ?_
      refine Jl.call wakes_ct en7 (by rfl) (by repeat (first | exact Take.nil | apply Take.cons (by repeat (first | exact Del.here | apply Del.there)))) (by repeat (first | exact trivial | refine And.intro (by repeat (first | exact Mem.here | apply Mem.there)) ?_)) ?_
      rintro ⟨⟩
      refine Jl.pv (PR.assign rfl) ?_
      refine Jl.nil ?_
      refine Jq.thenN ?_
      refine Jc.ret ?_
      refine Jq.thenR ?_
      exact Jq.fin () (.inl rfl) rfl (RetVs.tmp rfl RetVs.nil) rfl (by repeat (first | exact Take.nil | apply Take.cons (by repeat (first | exact Del.here | apply Del.there)))) (by repeat (first | exact trivial | refine And.intro (by repeat (first | exact Mem.here | apply Mem.there)) ?_))
    · try replace h0 := of_decide_eq_false h0
      have hl60 : l.length ≤ 60 := by omega
      have hb100 : b.length ≤ 100 := by omega
      have hnl := putB_len n
      refine Jc.skip ?_
      refine Jq.thenN ?_
      refine Jc.seq ?_
      refine Jc.region ?_
      refine Jl.pv (PR.move rfl) ?_
      refine Jl.call (put1_ct n) en8 (by rfl) (by repeat (first | exact Take.nil | apply Take.cons (by repeat (first | exact Del.here | apply Del.there)))) (by repeat (first | exact trivial | refine And.intro (by repeat (first | exact Mem.here | apply Mem.there)) ?_)) ?_
      rintro ⟨A30, c30⟩
      refine Jl.sealC (by repeat (first | exact Del.here | apply Del.there)) (fun hc30 => ?_)
      refine Jl.pv (PR.move rfl) ?_
      refine Jl.pv (PR.extract rfl (by rfl)) ?_
      refine Jl.pv (PR.extract rfl (by rfl)) ?_
      refine Jl.pv (PR.assign rfl) ?_
      refine Jl.pv (PR.assign rfl) ?_
      refine Jl.nil ?_
      refine Jq.thenN ?_
      refine Jc.mid (σ := Unit) (fun _ => [(1, .slice A l.length c), (2, .slice B b.length d)]) (fun _ => []) (fun _ => [.rd A (l.map (Value.int .i64)), .rd B (u8s b)]) ?_ ?_
      · refine Jc.seq ?_
        refine Jc.region ?_
        refine Jl.pv (PR.move rfl) ?_
        refine Jl.pv (PR.lss _ rfl rfl rfl) ?_
        refine Jl.pv (PR.move rfl) ?_
        refine Jl.bsplit (fun g35 => ?_) (fun g35 => ?_)
        · try replace g35 := of_decide_eq_true g35
          have hfn : fineN n = false := by simp [fineN]; omega
          refine Jl.off rfl rfl rfl rfl ?_
          refine Jl.off rfl rfl rfl rfl ?_
          refine Jl.pv (PR.pickT rfl rfl) ?_
          refine Jl.nil ?_
          refine Jq.thenN ?_
          refine Jc.condT rfl ?_
          refine Jc.seq ?_
          refine Jc.region ?_
          refine Jl.pv (PR.move rfl) ?_
          refine Jl.pv (PR.neq false rfl rfl (by rw [putR, if_neg (by rw [hfn]; decide)]; rfl)) ?_
          refine Jl.pv (PR.move rfl) ?_
          refine Jl.on rfl rfl ?_
          refine Jl.pv (PR.move rfl) ?_
          refine Jl.on rfl rfl ?_
          refine Jl.pv (PR.len rfl tsl23) ?_
          refine Jl.on rfl rfl ?_
          refine Jl.pv (PR.neq false rfl rfl (by rw [putN, if_neg (by rw [hfn]; decide)]; rfl)) ?_
          refine Jl.pv (PR.pickF rfl rfl) ?_
          refine Jl.pv (PR.move rfl) ?_
          refine Jl.on rfl rfl ?_
          refine Jl.pv (PR.move rfl) ?_
          refine Jl.on rfl rfl ?_
          refine Jl.call (long_ct n) en10 (by rfl) (by repeat (first | exact Take.nil | apply Take.cons (by repeat (first | exact Del.here | apply Del.there)))) (by repeat (first | exact trivial | refine And.intro (by repeat (first | exact Mem.here | apply Mem.there)) ?_)) ?_
          rintro ⟨⟩
          refine Jl.on rfl rfl ?_
          refine Jl.pv (PR.neq false rfl rfl (by rw [(longZ_eq0 n).2 hfn]; rfl)) ?_
          refine Jl.pv (PR.pickF rfl rfl) ?_
          refine Jl.nil ?_
          refine Jq.thenN ?_
          refine Jc.condF rfl ?_
          refine Jc.skip ?_
          exact Jq.mid () (by exact ⟨rfl, rfl, trivial⟩) rfl (by exact ⟨(by repeat (first | exact Mem.here | apply Mem.there)), (by repeat (first | exact Mem.here | apply Mem.there)), trivial⟩)
        · try replace g35 := of_decide_eq_false g35
          refine Jl.on rfl rfl ?_
          refine Jl.pv (PR.move rfl) ?_
          refine Jl.on rfl rfl ?_
          refine Jl.pv (PR.gtr _ rfl rfl rfl) ?_
          refine Jl.pv (PR.pickF rfl rfl) ?_
          refine Jl.nil ?_
          refine Jq.thenN ?_
          refine Jc.cond rfl (fun h1 => ?_) (fun h1 => ?_)
          · try replace h1 := of_decide_eq_true h1
            have hfn : fineN n = false := by simp [fineN]; omega
            refine Jc.seq ?_
            refine Jc.region ?_
            refine Jl.pv (PR.move rfl) ?_
            refine Jl.pv (PR.neq false rfl rfl (by rw [putR, if_neg (by rw [hfn]; decide)]; rfl)) ?_
            refine Jl.pv (PR.move rfl) ?_
            refine Jl.on rfl rfl ?_
            refine Jl.pv (PR.move rfl) ?_
            refine Jl.on rfl rfl ?_
            refine Jl.pv (PR.len rfl tsl23) ?_
            refine Jl.on rfl rfl ?_
            refine Jl.pv (PR.neq false rfl rfl (by rw [putN, if_neg (by rw [hfn]; decide)]; rfl)) ?_
            refine Jl.pv (PR.pickF rfl rfl) ?_
            refine Jl.pv (PR.move rfl) ?_
            refine Jl.on rfl rfl ?_
            refine Jl.pv (PR.move rfl) ?_
            refine Jl.on rfl rfl ?_
            refine Jl.call (long_ct n) en10 (by rfl) (by repeat (first | exact Take.nil | apply Take.cons (by repeat (first | exact Del.here | apply Del.there)))) (by repeat (first | exact trivial | refine And.intro (by repeat (first | exact Mem.here | apply Mem.there)) ?_)) ?_
            rintro ⟨⟩
            refine Jl.on rfl rfl ?_
            refine Jl.pv (PR.neq false rfl rfl (by rw [(longZ_eq0 n).2 hfn]; rfl)) ?_
            refine Jl.pv (PR.pickF rfl rfl) ?_
            refine Jl.nil ?_
            refine Jq.thenN ?_
            refine Jc.condF rfl ?_
            refine Jc.skip ?_
            exact Jq.mid () (by exact ⟨rfl, rfl, trivial⟩) rfl (by exact ⟨(by repeat (first | exact Mem.here | apply Mem.there)), (by repeat (first | exact Mem.here | apply Mem.there)), trivial⟩)
          · try replace h1 := of_decide_eq_false h1
            have hfn : fineN n = true := by simp [fineN]; omega
            have hpp := pos_len (putB_ne n)
            have hl6 : (putB n).length ≤ 6 := by rw [putB, digs_len]; exact dlen6 _ (by omega)
            rw [show putN n = putB n from if_pos hfn, show putR n = 0 from if_pos hfn]
            refine Jc.seq ?_
            refine Jc.region ?_
            refine Jl.buildSlice (by rfl) tsl23 tzr23_0 (by rfl) (by rfl) ?_
            intro b52
            refine Jl.pv (PR.move rfl) ?_
            refine Jl.toRow 1 0 (by repeat (first | exact Swap.here | apply Swap.there)) (by rfl) (by rfl) ?_
            refine Jl.append (putB n).length (u8s (putB n)) rfl rfl rfl tsl23 tze5 (by rfl) (by decide) tby5 (fun _ _ => (by repeat (first | exact Swap.here | apply Swap.there))) (by repeat (first | exact Mem.here | apply Mem.there)) (by omega) rfl (by simp [u8s]) (u8s_one _) (by omega) (by decide) ?_
            intro A54 c54
            refine Jl.pv (PR.move rfl) ?_
            refine Jl.append (putB n ++ b).length (u8s (putB n ++ b)) rfl rfl rfl tsl23 tze5 (by rfl) (by decide) tby5 (fun _ _ => (by repeat (first | exact Swap.here | apply Swap.there))) (by repeat (first | exact Mem.here | apply Mem.there)) (by rw [List.length_append]) (u8s_app _ _) (by simp [u8s]) (u8s_one _) (by omega) (by decide) ?_
            intro A56 c56
            refine Jl.sealC (by repeat (first | exact Del.here | apply Del.there)) (fun hc56 => ?_)
            refine Jl.call (take_len (t := (n.toNat, b, 0)) (putB n ++ b) rfl (takeN_put hfn b) (by rw [List.length_append]; omega) hc56) en12 (by rfl) (by repeat (first | exact Take.nil | apply Take.cons (by repeat (first | exact Del.here | apply Del.there)))) (by repeat (first | exact trivial | refine And.intro (by repeat (first | exact Mem.here | apply Mem.there)) ?_)) ?_
            rintro ⟨A57, c57⟩
            refine Jl.sealC (by repeat (first | exact Del.here | apply Del.there)) (fun hc57 => ?_)
            refine Jl.pv (PR.move rfl) ?_
            refine Jl.pv (PR.extract rfl (by rfl)) ?_
            refine Jl.pv (PR.extract rfl (by rfl)) ?_
            refine Jl.pv (PR.extract rfl (by rfl)) ?_
            refine Jl.pv (PR.assign rfl) ?_
            refine Jl.pv (PR.assign rfl) ?_
            refine Jl.pv (PR.assign rfl) ?_
            refine Jl.nil ?_
            refine Jq.thenN ?_
            refine Jc.seq ?_
            refine Jc.region ?_
            refine Jl.pv (PR.move rfl) ?_
            refine Jl.pv (PR.neq false rfl rfl rfl) ?_
            refine Jl.pv (PR.move rfl) ?_
            refine Jl.on rfl rfl ?_
            refine Jl.pv (PR.move rfl) ?_
            refine Jl.on rfl rfl ?_
            refine Jl.pv (PR.neq false rfl rfl rfl) ?_
            refine Jl.pv (PR.pickF rfl rfl) ?_
            refine Jl.pv (PR.move rfl) ?_
            refine Jl.on rfl rfl ?_
            refine Jl.pv (PR.move rfl) ?_
            refine Jl.on rfl rfl ?_
            refine Jl.pv (PR.move rfl) ?_
            refine Jl.on rfl rfl ?_
            refine Jl.pv (PR.neq false rfl rfl (by simp; omega)) ?_
            refine Jl.pv (PR.pickF rfl rfl) ?_
            refine Jl.pv (PR.move rfl) ?_
            refine Jl.on rfl rfl ?_
            refine Jl.pv (PR.move rfl) ?_
            refine Jl.on rfl rfl ?_
            refine Jl.pv (PR.move rfl) ?_
            refine Jl.on rfl rfl ?_
            refine Jl.call (same_at b b rfl rfl) en9 (by rfl) (by repeat (first | exact Take.nil | apply Take.cons (by repeat (first | exact Del.here | apply Del.there)))) (by repeat (first | exact trivial | refine And.intro (by repeat (first | exact Mem.here | apply Mem.there)) ?_)) ?_
            rintro ⟨⟩
            refine Jl.as (.bool true) (congrArg Value.bool (by simp)) ?_
            refine Jl.on rfl rfl ?_
            refine Jl.pv (PR.not rfl) ?_
            refine Jl.pv (PR.pickF rfl rfl) ?_
            refine Jl.pv (PR.move rfl) ?_
            refine Jl.on rfl rfl ?_
            refine Jl.pv (PR.move rfl) ?_
            refine Jl.on rfl rfl ?_
            refine Jl.pv (PR.len rfl tsl23) ?_
            refine Jl.on rfl rfl ?_
            refine Jl.pv (PR.move rfl) ?_
            refine Jl.on rfl rfl ?_
            refine Jl.call (long_ct n) en10 (by rfl) (by repeat (first | exact Take.nil | apply Take.cons (by repeat (first | exact Del.here | apply Del.there)))) (by repeat (first | exact trivial | refine And.intro (by repeat (first | exact Mem.here | apply Mem.there)) ?_)) ?_
            rintro ⟨⟩
            refine Jl.on rfl rfl ?_
            refine Jl.pv (PR.neq false rfl rfl (by rw [longZ_len hfn]; simp)) ?_
            refine Jl.pv (PR.pickF rfl rfl) ?_
            refine Jl.pv (PR.move rfl) ?_
            refine Jl.on rfl rfl ?_
            refine Jl.pv (PR.move rfl) ?_
            refine Jl.on rfl rfl ?_
            refine Jl.pv (PR.len rfl tsl23) ?_
            refine Jl.on rfl rfl ?_
            refine Jl.pv (PR.lss false rfl rfl (by simp; omega)) ?_
            refine Jl.pv (PR.pickF rfl rfl) ?_
            refine Jl.pv (PR.move rfl) ?_
            refine Jl.on rfl rfl ?_
            refine Jl.pv (PR.move rfl) ?_
            refine Jl.on rfl rfl ?_
            refine Jl.pv (PR.len rfl tsl23) ?_
            refine Jl.on rfl rfl ?_
            refine Jl.pv (PR.gtr false rfl rfl (by simp; omega)) ?_
            refine Jl.pv (PR.pickF rfl rfl) ?_
            refine Jl.nil ?_
            refine Jq.thenN ?_
            refine Jc.condF rfl ?_
            refine Jc.skip ?_
            exact Jq.mid () (by exact ⟨rfl, rfl, trivial⟩) rfl (by exact ⟨(by repeat (first | exact Mem.here | apply Mem.there)), (by repeat (first | exact Mem.here | apply Mem.there)), trivial⟩)
      · rintro ⟨⟩
        refine Jc.seq ?_
        refine Jc.region ?_
        refine Jl.pv (PR.move rfl) ?_
        refine Jl.pv (PR.len rfl tsl30) ?_
        refine Jl.pv (PR.leq _ rfl rfl rfl) ?_
        refine Jl.pv (PR.assign rfl) ?_
        refine Jl.nil ?_
        refine Jq.thenN ?_
        refine Jc.seq ?_
        refine Jc.seq ?_
        refine Jc.region ?_
        refine Jl.pv (PR.assign rfl) ?_
        refine Jl.nil ?_
        refine Jq.thenN ?_
        refine Jc.block ?_
        refine Jc.loop (σ := { k : Nat // k ≤ l.length }) (fun s => [(13, .int .i64 (s.1 : Int)), (12, .bool (okTo l s.1)), (1, .slice A l.length c), (2, .slice B b.length d)]) (fun _ => []) (fun _ => [.rd A (l.map (Value.int .i64)), .rd B (u8s b)]) (fun s => l.length - s.1) ⟨0, Nat.zero_le _⟩ (by exact ⟨rfl, by simp only [okTo, List.take_zero, List.all_nil, Bool.and_true]; exact congrArg (fun x => some (Value.bool x)) (decide_eq_decide.2 (by omega)), rfl, rfl, trivial⟩) rfl (by exact ⟨(by repeat (first | exact Mem.here | apply Mem.there)), (by repeat (first | exact Mem.here | apply Mem.there)), trivial⟩) ?_
        rintro ⟨k, hk⟩
        show Jc _ _ _ _ _ _ [(13, Value.int .i64 (k : Int)), (12, .bool (okTo l k)), (1, .slice A l.length c), (2, .slice B b.length d)] [] [.rd A (l.map (Value.int .i64)), .rd B (u8s b)]
        refine Jc.seq ?_
        refine Jc.seq ?_
        refine Jc.region ?_
        refine Jl.pv (PR.move rfl) ?_
        refine Jl.pv (PR.move rfl) ?_
        refine Jl.pv (PR.len rfl tsl30) ?_
        refine Jl.pv (PR.lss _ rfl rfl rfl) ?_
        refine Jl.nil ?_
        refine Jq.thenN ?_
        refine Jc.cond rfl (fun hlt => ?_) (fun hlt => ?_)
        · try replace hlt := of_decide_eq_true hlt
          have hlt' : k < l.length := by omega
          have hst := okTo_step l k hlt'
          refine Jc.skip ?_
          refine Jq.thenN ?_
          refine Jc.seq ?_
          refine Jc.block ?_
          refine Jc.region ?_
          refine Jl.pv (PR.move rfl) ?_
          refine Jl.pv (PR.move rfl) ?_
          refine Jl.bsplit (fun g105 => ?_) (fun g105 => ?_)
          · try replace g105 := of_decide_eq_true g105
            refine Jl.on rfl rfl ?_
            refine Jl.pv (PR.move rfl) ?_
            refine Jl.on rfl rfl ?_
            refine Jl.pv (PR.move rfl) ?_
            refine Jl.on rfl rfl ?_
            refine Jl.pv (PR.idx1 k rfl rfl tsl30 (by repeat (first | exact Mem.here | apply Mem.there)) (by simp) rfl hlt') ?_
            refine Jl.on rfl rfl ?_
            refine Jl.pv (PR.loadR rfl tsh3 (by repeat (first | exact Mem.here | apply Mem.there)) (getm hlt')) ?_
            refine Jl.on rfl rfl ?_
            refine Jl.pv (PR.geq _ rfl rfl rfl) ?_
            refine Jl.pv (PR.pickT rfl rfl) ?_
            refine Jl.pv (PR.move rfl) ?_
            refine Jl.bsplit (fun g112 => ?_) (fun g112 => ?_)
            · try replace g112 := of_decide_eq_true g112
              refine Jl.on rfl rfl ?_
              refine Jl.pv (PR.move rfl) ?_
              refine Jl.on rfl rfl ?_
              refine Jl.pv (PR.move rfl) ?_
              refine Jl.on rfl rfl ?_
              refine Jl.pv (PR.idx1 k rfl rfl tsl30 (by repeat (first | exact Mem.here | apply Mem.there)) (by simp) rfl hlt') ?_
              refine Jl.on rfl rfl ?_
              refine Jl.pv (PR.loadR rfl tsh3 (by repeat (first | exact Mem.here | apply Mem.there)) (getm hlt')) ?_
              refine Jl.on rfl rfl ?_
              refine Jl.pv (PR.leq _ rfl rfl rfl) ?_
              refine Jl.pv (PR.pickT rfl rfl) ?_
              refine Jl.pv (PR.assign rfl) ?_
              refine Jl.nil ?_
              refine Jq.blkN ?_
              refine Jq.thenN ?_
              refine Jc.region ?_
              refine Jl.pv (PR.move rfl) ?_
              refine Jl.pv (PR.add ((k + 1 : Nat) : Int) rfl rfl (by rw [w64 (by omega) (by omega)]; rfl)) ?_
              refine Jl.pv (PR.assign rfl) ?_
              refine Jl.nil ?_
              have hB : okTo l (k + 1) = decide (l[k] ≤ 1099511627776) := by
                rw [hst, g105, Bool.true_and, fineN]; exact decide_eq_decide.2 (by omega)
              refine Jq.again ⟨k + 1, hlt'⟩ (by simp only; omega) (by exact ⟨rfl, by rw [hB]; rfl, rfl, rfl, trivial⟩) rfl (by exact ⟨(by repeat (first | exact Mem.here | apply Mem.there)), (by repeat (first | exact Mem.here | apply Mem.there)), trivial⟩)
            · try replace g112 := of_decide_eq_false g112
              refine Jl.off rfl rfl rfl rfl ?_
              refine Jl.off rfl rfl rfl rfl ?_
              refine Jl.off rfl rfl rfl rfl ?_
              refine Jl.off rfl rfl rfl rfl ?_
              refine Jl.off rfl rfl rfl rfl ?_
              refine Jl.pv (PR.pickF rfl rfl) ?_
              refine Jl.pv (PR.assign rfl) ?_
              refine Jl.nil ?_
              refine Jq.blkN ?_
              refine Jq.thenN ?_
              refine Jc.region ?_
              refine Jl.pv (PR.move rfl) ?_
              refine Jl.pv (PR.add ((k + 1 : Nat) : Int) rfl rfl (by rw [w64 (by omega) (by omega)]; rfl)) ?_
              refine Jl.pv (PR.assign rfl) ?_
              refine Jl.nil ?_
              have hB : okTo l (k + 1) = false := by
                rw [hst, g105, Bool.true_and, fineN]; exact decide_eq_false (by omega)
              refine Jq.again ⟨k + 1, hlt'⟩ (by simp only; omega) (by exact ⟨rfl, by rw [hB]; rfl, rfl, rfl, trivial⟩) rfl (by exact ⟨(by repeat (first | exact Mem.here | apply Mem.there)), (by repeat (first | exact Mem.here | apply Mem.there)), trivial⟩)
          · try replace g105 := of_decide_eq_false g105
            refine Jl.off rfl rfl rfl rfl ?_
            refine Jl.off rfl rfl rfl rfl ?_
            refine Jl.off rfl rfl rfl rfl ?_
            refine Jl.off rfl rfl rfl rfl ?_
            refine Jl.off rfl rfl rfl rfl ?_
            refine Jl.pv (PR.pickF rfl rfl) ?_
            refine Jl.pv (PR.move rfl) ?_
            refine Jl.off rfl rfl rfl rfl ?_
            refine Jl.off rfl rfl rfl rfl ?_
            refine Jl.off rfl rfl rfl rfl ?_
            refine Jl.off rfl rfl rfl rfl ?_
            refine Jl.off rfl rfl rfl rfl ?_
            refine Jl.pv (PR.pickF rfl rfl) ?_
            refine Jl.pv (PR.assign rfl) ?_
            refine Jl.nil ?_
            refine Jq.blkN ?_
            refine Jq.thenN ?_
            refine Jc.region ?_
            refine Jl.pv (PR.move rfl) ?_
            refine Jl.pv (PR.add ((k + 1 : Nat) : Int) rfl rfl (by rw [w64 (by omega) (by omega)]; rfl)) ?_
            refine Jl.pv (PR.assign rfl) ?_
            refine Jl.nil ?_
            have hB : okTo l (k + 1) = false := by rw [hst, g105, Bool.false_and]
            refine Jq.again ⟨k + 1, hlt'⟩ (by simp only; omega) (by exact ⟨rfl, by rw [hB]; rfl, rfl, rfl, trivial⟩) rfl (by exact ⟨(by repeat (first | exact Mem.here | apply Mem.there)), (by repeat (first | exact Mem.here | apply Mem.there)), trivial⟩)
        · try replace hlt := of_decide_eq_false hlt
          rw [okTo_all l k (by omega)]
          refine Jc.exit ?_
          refine Jq.thenX ?_
          refine Jq.thenX ?_
          refine Jq.blkX ?_
          refine Jq.thenN ?_
          refine Jc.seq ?_
          refine Jc.region ?_
          refine Jl.pv (PR.move rfl) ?_
          refine Jl.call (row_ct A c l (by omega)) en11 (by rfl) (by repeat (first | exact Take.nil | apply Take.cons (by repeat (first | exact Del.here | apply Del.there)))) (by repeat (first | exact trivial | refine And.intro (by repeat (first | exact Mem.here | apply Mem.there)) ?_)) ?_
          rintro ⟨A121, c121⟩
          refine Jl.sealC (by repeat (first | exact Del.here | apply Del.there)) (fun hc121 => ?_)
          refine Jl.pv (PR.move rfl) ?_
          refine Jl.pv (PR.extract rfl (by rfl)) ?_
          refine Jl.pv (PR.extract rfl (by rfl)) ?_
          refine Jl.pv (PR.assign rfl) ?_
          refine Jl.pv (PR.assign rfl) ?_
          refine Jl.nil ?_
          refine Jq.thenN ?_
          refine Jc.seq ?_
          refine Jc.seq ?_
          refine Jc.region ?_
          refine Jl.pv (PR.move rfl) ?_
          refine Jl.pv (PR.not rfl) ?_
          refine Jl.nil ?_
          refine Jq.thenN ?_
          refine Jc.cond rfl (fun h3 => ?_) (fun h3 => ?_)
          · try replace h3 := of_decide_eq_true h3
            have hok : ¬ rowOk l = true := by simpa using h3
            refine Jc.seq ?_
            refine Jc.region ?_
            refine Jl.pv (PR.move rfl) ?_
            refine Jl.pv (PR.eql true rfl rfl (by rw [rowR, if_neg hok]; rfl)) ?_
            refine Jl.pv (PR.move rfl) ?_
            refine Jl.on rfl rfl ?_
            refine Jl.pv (PR.move rfl) ?_
            refine Jl.on rfl rfl ?_
            refine Jl.pv (PR.len rfl tsl23) ?_
            refine Jl.on rfl rfl ?_
            refine Jl.pv (PR.eql true rfl rfl (by rw [rowN, if_neg hok]; rfl)) ?_
            refine Jl.pv (PR.pickT rfl rfl) ?_
            refine Jl.pv (PR.move rfl) ?_
            refine Jl.on rfl rfl ?_
            refine Jl.call wakes_ct en7 (by rfl) (by repeat (first | exact Take.nil | apply Take.cons (by repeat (first | exact Del.here | apply Del.there)))) (by repeat (first | exact trivial | refine And.intro (by repeat (first | exact Mem.here | apply Mem.there)) ?_)) ?_
            rintro ⟨⟩
            refine Jl.pv (PR.pickT rfl rfl) ?_
            refine Jl.pv (PR.assign rfl) ?_
            refine Jl.nil ?_
            refine Jq.thenN ?_
            refine Jc.ret ?_
            refine Jq.thenR ?_
            exact Jq.fin () (.inl rfl) rfl (RetVs.tmp rfl RetVs.nil) rfl (by repeat (first | exact Take.nil | apply Take.cons (by repeat (first | exact Del.here | apply Del.there)))) (by repeat (first | exact trivial | refine And.intro (by repeat (first | exact Mem.here | apply Mem.there)) ?_))
          · try replace h3 := of_decide_eq_false h3
            have hok : rowOk l = true := by simpa using h3
            have hof := rowOk_fine hok
            have hrl := rowsB_len hof.1
            rw [show rowN l = rowsB l from if_pos hok, show rowR l = 0 from if_pos hok]
            refine Jc.skip ?_
            refine Jq.thenN ?_
            refine Jc.seq ?_
            refine Jc.region ?_
            refine Jl.buildSlice (by rfl) tsl23 tzr23_0 (by rfl) (by rfl) ?_
            intro b137
            refine Jl.pv (PR.move rfl) ?_
            refine Jl.toRow 1 0 (by repeat (first | exact Swap.here | apply Swap.there)) (by rfl) (by rfl) ?_
            refine Jl.append (rowsB l).length (u8s (rowsB l)) rfl rfl rfl tsl23 tze5 (by rfl) (by decide) tby5 (fun _ _ => (by repeat (first | exact Swap.here | apply Swap.there))) (by repeat (first | exact Mem.here | apply Mem.there)) (by omega) rfl (by simp [u8s]) (u8s_one _) (by omega) (by decide) ?_
            intro A139 c139
            refine Jl.pv (PR.move rfl) ?_
            refine Jl.append (rowsB l ++ b).length (u8s (rowsB l ++ b)) rfl rfl rfl tsl23 tze5 (by rfl) (by decide) tby5 (fun _ _ => (by repeat (first | exact Swap.here | apply Swap.there))) (by repeat (first | exact Mem.here | apply Mem.there)) (by rw [List.length_append]) (u8s_app _ _) (by simp [u8s]) (u8s_one _) (by omega) (by decide) ?_
            intro A141 c141
            refine Jl.sealC (by repeat (first | exact Del.here | apply Del.there)) (fun hc141 => ?_)
            refine Jl.call (takeRow_len (t := (l.map Int.toNat, b, 0)) (rowsB l ++ b) rfl (takeRow_put hok b) (by rw [List.length_append]; omega) hc141) en13 (by rfl) (by repeat (first | exact Take.nil | apply Take.cons (by repeat (first | exact Del.here | apply Del.there)))) (by repeat (first | exact trivial | refine And.intro (by repeat (first | exact Mem.here | apply Mem.there)) ?_)) ?_
            rintro ⟨⟨A142, c142⟩, ⟨B142, d142⟩⟩
            rw [natI_fine hof.2]
            refine Jl.sealC (by repeat (first | exact Del.here | apply Del.there)) (fun hc142 => ?_)
            refine Jl.pv (PR.move rfl) ?_
            refine Jl.pv (PR.extract rfl (by rfl)) ?_
            refine Jl.pv (PR.extract rfl (by rfl)) ?_
            refine Jl.pv (PR.extract rfl (by rfl)) ?_
            refine Jl.pv (PR.assign rfl) ?_
            refine Jl.pv (PR.assign rfl) ?_
            refine Jl.pv (PR.assign rfl) ?_
            refine Jl.nil ?_
            refine Jq.thenN ?_
            refine Jc.seq ?_
            refine Jc.region ?_
            refine Jl.pv (PR.move rfl) ?_
            refine Jl.pv (PR.eql true rfl rfl rfl) ?_
            refine Jl.pv (PR.move rfl) ?_
            refine Jl.on rfl rfl ?_
            refine Jl.pv (PR.move rfl) ?_
            refine Jl.on rfl rfl ?_
            refine Jl.pv (PR.eql true rfl rfl rfl) ?_
            refine Jl.pv (PR.pickT rfl rfl) ?_
            refine Jl.pv (PR.move rfl) ?_
            refine Jl.on rfl rfl ?_
            refine Jl.pv (PR.move rfl) ?_
            refine Jl.on rfl rfl ?_
            refine Jl.pv (PR.move rfl) ?_
            refine Jl.on rfl rfl ?_
            refine Jl.call (ints_len (n := (l.map Int.toNat).length) l l (by simp) rfl (by simp; omega)) en14 (by rfl) (by repeat (first | exact Take.nil | apply Take.cons (by repeat (first | exact Del.here | apply Del.there)))) (by repeat (first | exact trivial | refine And.intro (by repeat (first | exact Mem.here | apply Mem.there)) ?_)) ?_
            rintro ⟨⟩
            refine Jl.as (.bool true) (congrArg Value.bool (by simp)) ?_
            refine Jl.pv (PR.pickT rfl rfl) ?_
            refine Jl.pv (PR.move rfl) ?_
            refine Jl.on rfl rfl ?_
            refine Jl.pv (PR.move rfl) ?_
            refine Jl.on rfl rfl ?_
            refine Jl.pv (PR.move rfl) ?_
            refine Jl.on rfl rfl ?_
            refine Jl.call (same_at b b rfl rfl) en9 (by rfl) (by repeat (first | exact Take.nil | apply Take.cons (by repeat (first | exact Del.here | apply Del.there)))) (by repeat (first | exact trivial | refine And.intro (by repeat (first | exact Mem.here | apply Mem.there)) ?_)) ?_
            rintro ⟨⟩
            refine Jl.as (.bool true) (congrArg Value.bool (by simp)) ?_
            refine Jl.pv (PR.pickT rfl rfl) ?_
            refine Jl.pv (PR.move rfl) ?_
            refine Jl.on rfl rfl ?_
            refine Jl.call wakes_ct en7 (by rfl) (by repeat (first | exact Take.nil | apply Take.cons (by repeat (first | exact Del.here | apply Del.there)))) (by repeat (first | exact trivial | refine And.intro (by repeat (first | exact Mem.here | apply Mem.there)) ?_)) ?_
            rintro ⟨⟩
            refine Jl.pv (PR.pickT rfl rfl) ?_
            refine Jl.pv (PR.assign rfl) ?_
            refine Jl.nil ?_
            refine Jq.thenN ?_
            refine Jc.ret ?_
            exact Jq.fin () (.inl rfl) rfl (RetVs.tmp rfl RetVs.nil) rfl (by repeat (first | exact Take.nil | apply Take.cons (by repeat (first | exact Del.here | apply Del.there)))) (by repeat (first | exact trivial | refine And.intro (by repeat (first | exact Mem.here | apply Mem.there)) ?_))
  -- hint not used: at13.99
end Go.Proofs.Ytghedmholhhadaa
