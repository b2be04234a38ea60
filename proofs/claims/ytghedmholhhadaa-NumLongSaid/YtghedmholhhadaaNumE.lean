/-
The law NumLong answers true.
-/
import Derived.Test.YtghedmholhhadaaNumC
namespace Go.Proofs.Ytghedmholhhadaa
open Go.RowKit
attribute [local irreducible] Res.blk Res.row Fact.rd

theorem long_at {n r : Int} (h : longZ n = r) : Ct Try.prog 10 [.int .i64 n] [] [] (fun _ : Unit => .int .i64 r) (fun _ => []) (fun _ => []) := by subst h; exact long_ct n
theorem shl7 (k : Nat) (hk : k ≤ 6) : IntKind.i64.wrap (1 * 2 ^ (min (7 * (k : Int)).toNat IntKind.i64.bits)) = ((128 ^ k : Nat) : Int) := by
  have e : min (7 * (k : Int)).toNat IntKind.i64.bits = 7 * k := by show min (7 * (k : Int)).toNat 64 = _; omega
  have h1 : 128 ^ k ≤ 128 ^ 6 := Nat.pow_le_pow_right (by omega) hk
  have h2 : (128 : Nat) ^ 6 = 4398046511104 := by decide
  rw [p128] at h1
  rw [e, p128, show (1 : Int) * 2 ^ (7 * k) = ((2 ^ (7 * k) : Nat) : Int) by rw [Int.one_mul, Int.natCast_pow]; rfl]
  generalize 2 ^ (7 * k) = x at *
  exact w64 (by omega) (by omega)
def rowPre (l : List Int) (k : Nat) : List UInt8 := putB l.length ++ (l.take k).flatMap putB
theorem rowPre_len (l : List Int) (k : Nat) (h : l.length ≤ 40) : (rowPre l k).length ≤ 410 := by
  have h1 := flat_len (l.take k)
  have h2 := putB_len (l.length : Int)
  have h3 : (l.take k).length ≤ l.length := by simp; omega
  simp only [rowPre, List.length_append]; omega
theorem rowPre_step (l : List Int) (k : Nat) (h : k < l.length) : ((rowPre l (k + 1)).length : Int) = (rowPre l k).length + (putB l[k]).length := by
  simp only [rowPre]
  rw [List.take_succ_eq_append_getElem h]
  simp only [List.flatMap_append, List.length_append, List.flatMap_cons, List.flatMap_nil, List.length_nil]
  omega
theorem rowPre_all (l : List Int) (k : Nat) (h : k = l.length) : rowPre l k = rowsB l := by subst h; simp [rowPre, rowsB]
theorem rowOk_of {l : List Int} (h : l.length ≤ 40) (hf : ∀ j, (h : j < l.length) → fineN l[j] = true) : rowOk l = true := by
  simp only [rowOk, Bool.and_eq_true, decide_eq_true_eq, Bool.not_eq_true', List.any_eq_false]
  refine ⟨h, fun x hx => ?_⟩
  obtain ⟨j, hj, rfl⟩ := List.mem_iff_getElem.1 hx
  simp [hf j hj]

theorem numLong_ct (n : Int) (A : Option Addr) (c : Nat) (l : List Int) : Ct Try.prog 4 [.int .i64 n, .slice A l.length c] [] [.rd A (l.map (Value.int .i64))] (fun _ : Unit => .bool true) (fun _ => []) (fun _ => []) := by
  refine Ct.of _ Try.func4 Try.ntmps4 rfl rfl (fun X W => ?_)
  refine Jc.seq ?_
  refine Jc.region ?_
  refine Jl.pv (PR.assign rfl) ?_
  refine Jl.nil ?_
  refine Jq.thenN ?_
  refine Jc.seq ?_
  refine Jc.seq ?_
  refine Jc.region ?_
  refine Jl.pv (PR.move rfl) ?_
  refine Jl.pv (PR.lss _ rfl rfl rfl) ?_
  refine Jl.pv (PR.move rfl) ?_
  refine Jl.bsplit (fun g12 => ?_) (fun g12 => ?_)
  · try replace g12 := of_decide_eq_true g12
    refine Jl.off rfl rfl rfl rfl ?_
    refine Jl.off rfl rfl rfl rfl ?_
    refine Jl.pv (PR.pickT rfl rfl) ?_
    refine Jl.pv (PR.move rfl) ?_
    refine Jl.off rfl rfl rfl rfl ?_
    refine Jl.off rfl rfl rfl rfl ?_
    refine Jl.off rfl rfl rfl rfl ?_
    refine Jl.pv (PR.pickT rfl rfl) ?_
    refine Jl.nil ?_
    refine Jq.thenN ?_
    refine Jc.condT rfl ?_
    refine Jc.seq ?_
    refine Jc.region ?_
    refine Jl.call wakes_ct en7 (by rfl) (by repeat (first | exact Take.nil | apply Take.cons (by repeat (first | exact Del.here | apply Del.there)))) (by repeat (first | exact trivial | refine And.intro (by repeat (first | exact Mem.here | apply Mem.there)) ?_)) ?_
    rintro ⟨⟩
    refine Jl.pv (PR.assign rfl) ?_
    refine Jl.nil ?_
    refine Jq.thenN ?_
    refine Jc.ret ?_
    refine Jq.thenR ?_
    exact Jq.fin () (.inl rfl) rfl (RetVs.tmp rfl RetVs.nil) rfl (by repeat (first | exact Take.nil | apply Take.cons (by repeat (first | exact Del.here | apply Del.there)))) (by repeat (first | exact trivial | refine And.intro (by repeat (first | exact Mem.here | apply Mem.there)) ?_))
  · try replace g12 := of_decide_eq_false g12
    refine Jl.on rfl rfl ?_
    refine Jl.pv (PR.move rfl) ?_
    refine Jl.on rfl rfl ?_
    refine Jl.pv (PR.gtr _ rfl rfl rfl) ?_
    refine Jl.pv (PR.pickF rfl rfl) ?_
    refine Jl.pv (PR.move rfl) ?_
    refine Jl.bsplit (fun g16 => ?_) (fun g16 => ?_)
    · try replace g16 := of_decide_eq_true g16
      refine Jl.off rfl rfl rfl rfl ?_
      refine Jl.off rfl rfl rfl rfl ?_
      refine Jl.off rfl rfl rfl rfl ?_
      refine Jl.pv (PR.pickT rfl rfl) ?_
      refine Jl.nil ?_
      refine Jq.thenN ?_
      refine Jc.condT rfl ?_
      refine Jc.seq ?_
      refine Jc.region ?_
      refine Jl.call wakes_ct en7 (by rfl) (by repeat (first | exact Take.nil | apply Take.cons (by repeat (first | exact Del.here | apply Del.there)))) (by repeat (first | exact trivial | refine And.intro (by repeat (first | exact Mem.here | apply Mem.there)) ?_)) ?_
      rintro ⟨⟩
      refine Jl.pv (PR.assign rfl) ?_
      refine Jl.nil ?_
      refine Jq.thenN ?_
      refine Jc.ret ?_
      refine Jq.thenR ?_
      exact Jq.fin () (.inl rfl) rfl (RetVs.tmp rfl RetVs.nil) rfl (by repeat (first | exact Take.nil | apply Take.cons (by repeat (first | exact Del.here | apply Del.there)))) (by repeat (first | exact trivial | refine And.intro (by repeat (first | exact Mem.here | apply Mem.there)) ?_))
    · try replace g16 := of_decide_eq_false g16
      refine Jl.on rfl rfl ?_
      refine Jl.pv (PR.move rfl) ?_
      refine Jl.on rfl rfl ?_
      refine Jl.pv (PR.len rfl tsl30) ?_
      refine Jl.on rfl rfl ?_
      refine Jl.pv (PR.gtr _ rfl rfl rfl) ?_
      refine Jl.pv (PR.pickF rfl rfl) ?_
      refine Jl.nil ?_
      refine Jq.thenN ?_
      refine Jc.cond rfl (fun h0 => ?_) (fun h0 => ?_)
      · try replace h0 := of_decide_eq_true h0
        refine Jc.seq ?_
        refine Jc.region ?_
        refine Jl.call wakes_ct en7 (by rfl) (by repeat (first | exact Take.nil | apply Take.cons (by repeat (first | exact Del.here | apply Del.there)))) (by repeat (first | exact trivial | refine And.intro (by repeat (first | exact Mem.here | apply Mem.there)) ?_)) ?_
        rintro ⟨⟩
        refine Jl.pv (PR.assign rfl) ?_
        refine Jl.nil ?_
        refine Jq.thenN ?_
        refine Jc.ret ?_
        refine Jq.thenR ?_
        exact Jq.fin () (.inl rfl) rfl (RetVs.tmp rfl RetVs.nil) rfl (by repeat (first | exact Take.nil | apply Take.cons (by repeat (first | exact Del.here | apply Del.there)))) (by repeat (first | exact trivial | refine And.intro (by repeat (first | exact Mem.here | apply Mem.there)) ?_))
      · try replace h0 := of_decide_eq_false h0
        obtain ⟨m, rfl⟩ : ∃ m : Nat, n = m := ⟨n.toNat, by omega⟩
        have hm : m ≤ 1099511627776 := by omega
        have hl40 : l.length ≤ 40 := by omega
        have hfm : fineN (m : Int) = true := by simp [fineN]; omega
        obtain ⟨k, hk⟩ : ∃ k, k = dlen 10 m := ⟨_, rfl⟩
        have hk1 : 1 ≤ k := by rw [hk]; exact dlen0 m
        have hk6 : k ≤ 6 := by rw [hk]; exact dlen6 m hm
        have hup : m < 128 ^ k := by rw [hk]; exact dlen_up 10 m (p128_10 m hm)
        have hdn : 1 < k → 128 ^ (k - 1) ≤ m := by rw [hk]; exact dlen_down 10 m
        have hsub : ((k - 1 : Nat) : Int) = (k : Int) - 1 := by omega
        refine Jc.skip ?_
        refine Jq.thenN ?_
        refine Jc.seq ?_
        refine Jc.region ?_
        refine Jl.pv (PR.move rfl) ?_
        refine Jl.call (long_at (n := m) (r := k) (by rw [hk, longZ, if_pos hfm]; rfl)) en10 (by rfl) (by repeat (first | exact Take.nil | apply Take.cons (by repeat (first | exact Del.here | apply Del.there)))) (by repeat (first | exact trivial | refine And.intro (by repeat (first | exact Mem.here | apply Mem.there)) ?_)) ?_
        rintro ⟨⟩
        refine Jl.pv (PR.assign rfl) ?_
        refine Jl.nil ?_
        refine Jq.thenN ?_
        refine Jc.mid (σ := Unit) (fun _ => [(1, .slice A l.length c)]) (fun _ => []) (fun _ => [.rd A (l.map (Value.int .i64))]) ?_ ?_
        · refine Jc.seq ?_
          refine Jc.region ?_
          refine Jl.pv (PR.move rfl) ?_
          refine Jl.pv (PR.lss false rfl rfl (by simp; omega)) ?_
          refine Jl.pv (PR.move rfl) ?_
          refine Jl.on rfl rfl ?_
          refine Jl.pv (PR.move rfl) ?_
          refine Jl.on rfl rfl ?_
          refine Jl.pv (PR.gtr false rfl rfl (by simp; omega)) ?_
          refine Jl.pv (PR.pickF rfl rfl) ?_
          refine Jl.pv (PR.move rfl) ?_
          refine Jl.on rfl rfl ?_
          refine Jl.pv (PR.move rfl) ?_
          refine Jl.on rfl rfl ?_
          refine Jl.pv (PR.move rfl) ?_
          refine Jl.on rfl rfl ?_
          refine Jl.pv (PR.mul (7 * (k : Int)) rfl rfl (w64 (by omega) (by omega))) ?_
          refine Jl.on rfl rfl ?_
          refine Jl.pv (PR.conv (7 * (k : Int)) rfl Try.underlying3 Try.underlying31 (by rw [IntKind.wrap_u64]; omega)) ?_
          refine Jl.on rfl rfl ?_
          refine Jl.pv (PR.shl ((128 ^ k : Nat) : Int) rfl rfl (by simp; omega) (shl7 k hk6)) ?_
          refine Jl.on rfl rfl ?_
          refine Jl.pv (PR.geq false rfl rfl (decide_eq_false fun h => absurd (Int.ofNat_le.1 h) (Nat.not_le.2 hup))) ?_
          refine Jl.pv (PR.pickF rfl rfl) ?_
          refine Jl.pv (PR.move rfl) ?_
          refine Jl.on rfl rfl ?_
          refine Jl.pv (PR.move rfl) ?_
          refine Jl.on rfl rfl ?_
          refine Jl.pv (PR.gtr _ rfl rfl rfl) ?_
          refine Jl.on rfl rfl ?_
          refine Jl.pv (PR.move rfl) ?_
          refine Jl.bsplit (fun g41 => ?_) (fun g41 => ?_)
          · try replace g41 := of_decide_eq_true g41
            have hd2 := hdn (by omega)
            refine Jl.on rfl rfl ?_
            refine Jl.pv (PR.move rfl) ?_
            refine Jl.on rfl rfl ?_
            refine Jl.pv (PR.move rfl) ?_
            refine Jl.on rfl rfl ?_
            refine Jl.pv (PR.sub ((k - 1 : Nat) : Int) rfl rfl (by rw [hsub]; exact w64 (by omega) (by omega))) ?_
            refine Jl.on rfl rfl ?_
            refine Jl.pv (PR.mul (7 * ((k - 1 : Nat) : Int)) rfl rfl (w64 (by omega) (by omega))) ?_
            refine Jl.on rfl rfl ?_
            refine Jl.pv (PR.conv (7 * ((k - 1 : Nat) : Int)) rfl Try.underlying3 Try.underlying31 (by rw [IntKind.wrap_u64]; omega)) ?_
            refine Jl.on rfl rfl ?_
            refine Jl.pv (PR.shl ((128 ^ (k - 1) : Nat) : Int) rfl rfl (by simp; omega) (shl7 (k - 1) (by omega))) ?_
            refine Jl.on rfl rfl ?_
            refine Jl.pv (PR.lss false rfl rfl (decide_eq_false fun h => absurd (Int.ofNat_lt.1 h) (Nat.not_lt.2 hd2))) ?_
            refine Jl.on rfl rfl ?_
            refine Jl.pv (PR.pickT rfl rfl) ?_
            refine Jl.pv (PR.pickF rfl rfl) ?_
            refine Jl.nil ?_
            refine Jq.thenN ?_
            refine Jc.condF rfl ?_
            refine Jc.skip ?_
            exact Jq.mid () (by exact ⟨rfl, trivial⟩) rfl (by exact ⟨(by repeat (first | exact Mem.here | apply Mem.there)), trivial⟩)
          · try replace g41 := of_decide_eq_false g41
            refine Jl.off rfl rfl rfl rfl ?_
            refine Jl.off rfl rfl rfl rfl ?_
            refine Jl.off rfl rfl rfl rfl ?_
            refine Jl.off rfl rfl rfl rfl ?_
            refine Jl.off rfl rfl rfl rfl ?_
            refine Jl.off rfl rfl rfl rfl ?_
            refine Jl.off rfl rfl rfl rfl ?_
            refine Jl.on rfl rfl ?_
            refine Jl.pv (PR.pickF rfl rfl) ?_
            refine Jl.pv (PR.pickF rfl rfl) ?_
            refine Jl.nil ?_
            refine Jq.thenN ?_
            refine Jc.condF rfl ?_
            refine Jc.skip ?_
            exact Jq.mid () (by exact ⟨rfl, trivial⟩) rfl (by exact ⟨(by repeat (first | exact Mem.here | apply Mem.there)), trivial⟩)
        · rintro ⟨⟩
          refine Jc.seq ?_
          refine Jc.region ?_
          refine Jl.pv (PR.move rfl) ?_
          refine Jl.pv (PR.len rfl tsl30) ?_
          refine Jl.call (long_at (n := (l.length : Int)) (r := ((rowPre l 0).length : Int)) (by rw [longZ_len (by simp [fineN]; omega)]; simp [rowPre])) en10 (by rfl) (by repeat (first | exact Take.nil | apply Take.cons (by repeat (first | exact Del.here | apply Del.there)))) (by repeat (first | exact trivial | refine And.intro (by repeat (first | exact Mem.here | apply Mem.there)) ?_)) ?_
          rintro ⟨⟩
          refine Jl.pv (PR.assign rfl) ?_
          refine Jl.nil ?_
          refine Jq.thenN ?_
          refine Jc.seq ?_
          refine Jc.seq ?_
          refine Jc.region ?_
          refine Jl.pv (PR.assign rfl) ?_
          refine Jl.nil ?_
          refine Jq.thenN ?_
          refine Jc.block ?_
          refine Jc.loop (σ := { k : Nat // k ≤ l.length ∧ ∀ j, (h : j < k) → (h' : j < l.length) → fineN l[j] = true }) (fun s => [(7, .int .i64 (s.1 : Int)), (6, .int .i64 ((rowPre l s.1).length : Int)), (1, .slice A l.length c)]) (fun _ => []) (fun _ => [.rd A (l.map (Value.int .i64))]) (fun s => l.length - s.1) ⟨0, Nat.zero_le _, fun _ h => by omega⟩ (by exact ⟨rfl, rfl, rfl, trivial⟩) rfl (by exact ⟨(by repeat (first | exact Mem.here | apply Mem.there)), trivial⟩) ?_
          rintro ⟨k, hk, hq⟩
          show Jc _ _ _ _ _ _ [(7, Value.int .i64 (k : Int)), (6, .int .i64 ((rowPre l k).length : Int)), (1, .slice A l.length c)] [] [.rd A (l.map (Value.int .i64))]
          have hrp := rowPre_len l k hl40
          refine Jc.seq ?_
          refine Jc.seq ?_
          refine Jc.region ?_
          refine Jl.pv (PR.move rfl) ?_
          refine Jl.pv (PR.move rfl) ?_
          refine Jl.pv (PR.len rfl tsl30) ?_
          refine Jl.pv (PR.lss _ rfl rfl rfl) ?_
          refine Jl.nil ?_
          refine Jq.thenN ?_
          refine Jc.cond rfl (fun hlt => ?_) (fun hlt => ?_)
          · try replace hlt := of_decide_eq_true hlt
            have hlt' : k < l.length := by omega
            have hst := rowPre_step l k hlt'
            have hrp2 := rowPre_len l (k + 1) hl40
            refine Jc.skip ?_
            refine Jq.thenN ?_
            refine Jc.seq ?_
            refine Jc.block ?_
            refine Jc.seq ?_
            refine Jc.seq ?_
            refine Jc.region ?_
            refine Jl.pv (PR.move rfl) ?_
            refine Jl.pv (PR.move rfl) ?_
            refine Jl.pv (PR.idx1 k rfl rfl tsl30 (by repeat (first | exact Mem.here | apply Mem.there)) (by simp) rfl hlt') ?_
            refine Jl.pv (PR.loadR rfl tsh3 (by repeat (first | exact Mem.here | apply Mem.there)) (getm hlt')) ?_
            refine Jl.pv (PR.lss _ rfl rfl rfl) ?_
            refine Jl.pv (PR.move rfl) ?_
            refine Jl.bsplit (fun g65 => ?_) (fun g65 => ?_)
            · try replace g65 := of_decide_eq_true g65
              refine Jl.off rfl rfl rfl rfl ?_
              refine Jl.off rfl rfl rfl rfl ?_
              refine Jl.off rfl rfl rfl rfl ?_
              refine Jl.off rfl rfl rfl rfl ?_
              refine Jl.off rfl rfl rfl rfl ?_
              refine Jl.pv (PR.pickT rfl rfl) ?_
              refine Jl.nil ?_
              refine Jq.thenN ?_
              refine Jc.condT rfl ?_
              refine Jc.seq ?_
              refine Jc.region ?_
              refine Jl.call wakes_ct en7 (by rfl) (by repeat (first | exact Take.nil | apply Take.cons (by repeat (first | exact Del.here | apply Del.there)))) (by repeat (first | exact trivial | refine And.intro (by repeat (first | exact Mem.here | apply Mem.there)) ?_)) ?_
              rintro ⟨⟩
              refine Jl.pv (PR.assign rfl) ?_
              refine Jl.nil ?_
              refine Jq.thenN ?_
              refine Jc.ret ?_
              refine Jq.thenR ?_
              refine Jq.blkR ?_
              refine Jq.thenR ?_
              refine Jq.thenR ?_
              refine Jq.blkR ?_
              refine Jq.thenR ?_
              exact Jq.fin () (.inl rfl) rfl (RetVs.tmp rfl RetVs.nil) rfl (by repeat (first | exact Take.nil | apply Take.cons (by repeat (first | exact Del.here | apply Del.there)))) (by repeat (first | exact trivial | refine And.intro (by repeat (first | exact Mem.here | apply Mem.there)) ?_))
            · try replace g65 := of_decide_eq_false g65
              refine Jl.on rfl rfl ?_
              refine Jl.pv (PR.move rfl) ?_
              refine Jl.on rfl rfl ?_
              refine Jl.pv (PR.move rfl) ?_
              refine Jl.on rfl rfl ?_
              refine Jl.pv (PR.idx1 k rfl rfl tsl30 (by repeat (first | exact Mem.here | apply Mem.there)) (by simp) rfl hlt') ?_
              refine Jl.on rfl rfl ?_
              refine Jl.pv (PR.loadR rfl tsh3 (by repeat (first | exact Mem.here | apply Mem.there)) (getm hlt')) ?_
              refine Jl.on rfl rfl ?_
              refine Jl.pv (PR.gtr _ rfl rfl rfl) ?_
              refine Jl.pv (PR.pickF rfl rfl) ?_
              refine Jl.nil ?_
              refine Jq.thenN ?_
              refine Jc.cond rfl (fun h2 => ?_) (fun h2 => ?_)
              · try replace h2 := of_decide_eq_true h2
                refine Jc.seq ?_
                refine Jc.region ?_
                refine Jl.call wakes_ct en7 (by rfl) (by repeat (first | exact Take.nil | apply Take.cons (by repeat (first | exact Del.here | apply Del.there)))) (by repeat (first | exact trivial | refine And.intro (by repeat (first | exact Mem.here | apply Mem.there)) ?_)) ?_
                rintro ⟨⟩
                refine Jl.pv (PR.assign rfl) ?_
                refine Jl.nil ?_
                refine Jq.thenN ?_
                refine Jc.ret ?_
                refine Jq.thenR ?_
                refine Jq.blkR ?_
                refine Jq.thenR ?_
                refine Jq.thenR ?_
                refine Jq.blkR ?_
                refine Jq.thenR ?_
                exact Jq.fin () (.inl rfl) rfl (RetVs.tmp rfl RetVs.nil) rfl (by repeat (first | exact Take.nil | apply Take.cons (by repeat (first | exact Del.here | apply Del.there)))) (by repeat (first | exact trivial | refine And.intro (by repeat (first | exact Mem.here | apply Mem.there)) ?_))
              · try replace h2 := of_decide_eq_false h2
                have hfk : fineN l[k] = true := by simp [fineN]; omega
                refine Jc.skip ?_
                refine Jq.thenN ?_
                refine Jc.region ?_
                refine Jl.pv (PR.move rfl) ?_
                refine Jl.pv (PR.move rfl) ?_
                refine Jl.pv (PR.move rfl) ?_
                refine Jl.pv (PR.idx1 k rfl rfl tsl30 (by repeat (first | exact Mem.here | apply Mem.there)) (by simp) rfl hlt') ?_
                refine Jl.pv (PR.loadR rfl tsh3 (by repeat (first | exact Mem.here | apply Mem.there)) (getm hlt')) ?_
                refine Jl.call (long_at (longZ_len hfk)) en10 (by rfl) (by repeat (first | exact Take.nil | apply Take.cons (by repeat (first | exact Del.here | apply Del.there)))) (by repeat (first | exact trivial | refine And.intro (by repeat (first | exact Mem.here | apply Mem.there)) ?_)) ?_
                rintro ⟨⟩
                refine Jl.pv (PR.add ((rowPre l (k + 1)).length : Int) rfl rfl (by rw [w64 (by omega) (by omega)]; exact hst.symm)) ?_
                refine Jl.pv (PR.assign rfl) ?_
                refine Jl.nil ?_
                refine Jq.blkN ?_
                refine Jq.thenN ?_
                refine Jc.region ?_
                refine Jl.pv (PR.move rfl) ?_
                refine Jl.pv (PR.add ((k + 1 : Nat) : Int) rfl rfl (by rw [w64 (by omega) (by omega)]; rfl)) ?_
                refine Jl.pv (PR.assign rfl) ?_
                refine Jl.nil ?_
                refine Jq.again ⟨k + 1, hlt', fun j h h' => ?_⟩ (by simp only; omega) (by exact ⟨rfl, rfl, rfl, trivial⟩) rfl (by exact ⟨(by repeat (first | exact Mem.here | apply Mem.there)), trivial⟩)
                rcases Nat.lt_or_ge j k with h1 | h1
                · exact hq j h1 h'
                · obtain rfl : j = k := by omega
                  exact hfk
          · try replace hlt := of_decide_eq_false hlt
            have hkl : k = l.length := by omega
            have hok := rowOk_of hl40 fun j hj => hq j (by omega) hj
            rw [rowPre_all l k hkl]
            refine Jc.exit ?_
            refine Jq.thenX ?_
            refine Jq.thenX ?_
            refine Jq.blkX ?_
            refine Jq.thenN ?_
            refine Jc.seq ?_
            refine Jc.region ?_
            refine Jl.pv (PR.move rfl) ?_
            refine Jl.call (row_at (l := l) (m := rowsB l) (r := 0) (by omega) (if_pos hok) (if_pos hok)) en11 (by rfl) (by repeat (first | exact Take.nil | apply Take.cons (by repeat (first | exact Del.here | apply Del.there)))) (by repeat (first | exact trivial | refine And.intro (by repeat (first | exact Mem.here | apply Mem.there)) ?_)) ?_
            rintro ⟨A82, c82⟩
            refine Jl.pv (PR.move rfl) ?_
            refine Jl.pv (PR.extract rfl (by rfl)) ?_
            refine Jl.pv (PR.extract rfl (by rfl)) ?_
            refine Jl.pv (PR.assign rfl) ?_
            refine Jl.pv (PR.assign rfl) ?_
            refine Jl.nil ?_
            refine Jq.thenN ?_
            refine Jc.seq ?_
            refine Jc.region ?_
            refine Jl.pv (PR.move rfl) ?_
            refine Jl.pv (PR.eql true rfl rfl rfl) ?_
            refine Jl.pv (PR.move rfl) ?_
            refine Jl.on rfl rfl ?_
            refine Jl.pv (PR.move rfl) ?_
            refine Jl.on rfl rfl ?_
            refine Jl.pv (PR.len rfl tsl23) ?_
            refine Jl.on rfl rfl ?_
            refine Jl.pv (PR.move rfl) ?_
            refine Jl.on rfl rfl ?_
            refine Jl.pv (PR.eql true rfl rfl (by simp)) ?_
            refine Jl.pv (PR.pickT rfl rfl) ?_
            refine Jl.pv (PR.move rfl) ?_
            refine Jl.on rfl rfl ?_
            refine Jl.call wakes_ct en7 (by rfl) (by repeat (first | exact Take.nil | apply Take.cons (by repeat (first | exact Del.here | apply Del.there)))) (by repeat (first | exact trivial | refine And.intro (by repeat (first | exact Mem.here | apply Mem.there)) ?_)) ?_
            rintro ⟨⟩
            refine Jl.pv (PR.pickT rfl rfl) ?_
            refine Jl.pv (PR.assign rfl) ?_
            refine Jl.nil ?_
            refine Jq.thenN ?_
            refine Jc.ret ?_
            exact Jq.fin () (.inl rfl) rfl (RetVs.tmp rfl RetVs.nil) rfl (by repeat (first | exact Take.nil | apply Take.cons (by repeat (first | exact Del.here | apply Del.there)))) (by repeat (first | exact trivial | refine And.intro (by repeat (first | exact Mem.here | apply Mem.there)) ?_))
end Go.Proofs.Ytghedmholhhadaa
