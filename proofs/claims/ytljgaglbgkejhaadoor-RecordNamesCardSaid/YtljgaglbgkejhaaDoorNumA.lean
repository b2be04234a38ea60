/-
Contracts of herd/num: Long, Take; slices' Clone of bytes.
-/
import Derived.Test.YtljgaglbgkejhaaDoorTy
import Derived.Test.YtljgaglbgkejhaaDoorNumP
namespace Go.Proofs.YtljgaglbgkejhaaDoor
set_option linter.unusedVariables false
open Go.RowKit
attribute [local irreducible] Res.blk Res.row Fact.rd
abbrev OA := Option Addr × Nat
def natI (l : List Nat) : List Value := l.map fun n : Nat => Value.int .i64 (n : Int)
theorem shr7 (n : Int) (h : 0 ≤ n) : Int.fdiv n (2 ^ 7) = n / 128 := by rw [Int.fdiv_eq_ediv_of_nonneg _ (by decide)]; rfl
theorem sl_end (b : List UInt8) (k : Nat) : ((u8s b).drop (k * 1)).take ((b.length - k) * 1) = u8s (b.drop k) := by
  rw [List.take_of_length_le (by simp [u8s])]; simp [u8s, List.map_drop]
theorem getu {b : List UInt8} {k : Nat} (h : k < b.length) : (u8s b)[k]? = some (.int .u8 b[k].toNat) := by simp [u8s, h]
/-- What Long has counted, and what is left. -/
def LongI (n : Nat) (s : Nat × Nat) : Prop := s.1 + dlen (10 - s.1) s.2 = dlen 10 n ∧ s.2 < 128 ^ (10 - s.1) ∧ s.1 < 10
abbrev LongS (n : Nat) := { s : Nat × Nat // LongI n s }
theorem longI_step {n : Nat} {s : Nat × Nat} (h : LongI n s) (hd : 0 < s.2 / 128) : LongI n (s.1 + 1, s.2 / 128) := by
  obtain ⟨h1, h2, h3⟩ := h
  obtain ⟨f, hf⟩ : ∃ f, 10 - s.1 = f + 1 := ⟨9 - s.1, by omega⟩
  rw [hf] at h1 h2
  have e : dlen (f + 1) s.2 = 1 + dlen f (s.2 / 128) := by
    conv => lhs; unfold dlen
    rw [if_neg (by omega)]
  have a1 : s.2 / 128 < 128 ^ f := by rw [Nat.div_lt_iff_lt_mul (by omega)]; rw [Nat.pow_succ] at h2; exact h2
  have hf0 : 0 < f := by
    rcases Nat.eq_zero_or_pos f with e | e
    · subst e; simp at a1; omega
    · exact e
  refine ⟨?_, ?_, ?_⟩ <;> simp only [show 10 - (s.1 + 1) = f by omega]
  · omega
  · exact a1
  · omega
theorem longI_end {n : Nat} {s : Nat × Nat} (h : LongI n s) (hd : s.2 / 128 = 0) : ((s.1 + 1 : Nat) : Int) = dlen 10 n := by
  obtain ⟨h1, h2, h3⟩ := h
  obtain ⟨f, hf⟩ : ∃ f, 10 - s.1 = f + 1 := ⟨9 - s.1, by omega⟩
  rw [hf] at h1
  have e : dlen (f + 1) s.2 = 1 := by
    unfold dlen
    rw [if_pos (by omega)]
  omega

theorem long_ct (n : Int) : Ct Tryd.prog 38 [.int .i64 n] [] [] (fun _ : Unit => .int .i64 (longZ n)) (fun _ => []) (fun _ => []) := by
  by_cases hfn : fineN n = true
  · have hf : 0 ≤ n ∧ n ≤ 1099511627776 := by simpa [fineN] using hfn
    obtain ⟨m, rfl⟩ : ∃ m : Nat, n = m := ⟨n.toNat, by omega⟩
    have hz : longZ (m : Int) = dlen 10 m := by simp [longZ, hfn]
    refine Ct.of _ Tryd.func38 Tryd.ntmps38 rfl rfl (fun X W => ?_)
    refine Jc.seq ?_
    refine Jc.region ?_
    refine Jl.pv (PR.assign rfl) ?_
    refine Jl.nil ?_
    refine Jq.thenN ?_
    refine Jc.scope (σ := LongS m) (fun s => [(0, .int .i64 (s.1.2 : Int)), (2, .int .i64 (s.1.1 : Int))]) (fun _ => []) (fun _ => []) (fun s => 10 - s.1.1) (l := 0) rfl ?_ ?_
    · rintro ⟨⟨k, q⟩, hs⟩
      show Jc _ _ _ _ _ _ [(0, Value.int .i64 (q : Int)), (2, Value.int .i64 (k : Int))] [] []
      have hk : k < 10 := hs.2.2
      refine Jc.seq ?_
      refine Jc.region ?_
      refine Jl.pv (PR.move rfl) ?_
      refine Jl.pv (PR.add ((k + 1 : Nat) : Int) rfl rfl (by rw [w64 (by omega) (by omega)]; rfl)) ?_
      refine Jl.pv (PR.assign rfl) ?_
      refine Jl.nil ?_
      refine Jq.thenN ?_
      refine Jc.seq ?_
      refine Jc.seq ?_
      refine Jc.region ?_
      refine Jl.pv (PR.move rfl) ?_
      refine Jl.pv (PR.shr ((q / 128 : Nat) : Int) rfl rfl (by decide) (by show Int.fdiv _ (2 ^ 7) = _; rw [shr7 _ (by omega)]; rfl)) ?_
      refine Jl.pv (PR.assign rfl) ?_
      refine Jl.nil ?_
      refine Jq.thenN ?_
      refine Jc.seq ?_
      refine Jc.region ?_
      refine Jl.pv (PR.move rfl) ?_
      refine Jl.pv (PR.gtr _ rfl rfl rfl) ?_
      refine Jl.nil ?_
      refine Jq.thenN ?_
      refine Jc.cond rfl (fun h0 => ?_) (fun h0 => ?_)
      · try replace h0 := of_decide_eq_true h0
        have hq : 0 < q / 128 := by omega
        refine Jc.goto ?_
        refine Jq.thenG ?_
        exact Jq.jmpB ⟨(k + 1, q / 128), longI_step hs hq⟩ (by simp only; omega) (by exact ⟨rfl, rfl, trivial⟩) rfl trivial
      · try replace h0 := of_decide_eq_false h0
        have hq : q / 128 = 0 := by omega
        refine Jc.skip ?_
        refine Jq.thenN ?_
        refine Jc.seq ?_
        refine Jc.region ?_
        refine Jl.pv (PR.move rfl) ?_
        refine Jl.pv (PR.assign rfl) ?_
        refine Jl.nil ?_
        refine Jq.thenN ?_
        refine Jc.ret ?_
        refine Jq.jmpR ?_
        have he := longI_end hs hq
        exact Jq.fin () (.inl rfl) rfl (RetVs.tmp rfl RetVs.nil) (by rw [hz]; exact congrArg (Value.int .i64) he.symm) (by repeat (first | exact Take.nil | apply Take.cons (by repeat (first | exact Del.here | apply Del.there)))) (by repeat (first | exact trivial | refine And.intro (by repeat (first | exact Mem.here | apply Mem.there)) ?_))
    · intro hfirst0
      refine Jc.seq ?_
      refine Jc.seq ?_
      refine Jc.region ?_
      refine Jl.pv (PR.move rfl) ?_
      refine Jl.pv (PR.lss false rfl rfl (by simp)) ?_
      refine Jl.pv (PR.move rfl) ?_
      refine Jl.on rfl rfl ?_
      refine Jl.pv (PR.move rfl) ?_
      refine Jl.on rfl rfl ?_
      refine Jl.pv (PR.gtr false rfl rfl (by simp; omega)) ?_
      refine Jl.pv (PR.pickF rfl rfl) ?_
      refine Jl.nil ?_
      refine Jq.thenN ?_
      refine Jc.condF rfl ?_
      refine Jc.skip ?_
      refine Jq.thenN ?_
      refine Jc.seq ?_
      refine Jc.label ?_
      refine Jq.thenN ?_
      exact Jc.at_ hfirst0 ⟨(0, m), by simp [LongI]; omega⟩ (by exact ⟨rfl, rfl, trivial⟩) rfl trivial
  · have hz : longZ n = 0 := by simp [longZ, hfn]
    have hf : n < 0 ∨ 1099511627776 < n := by simp [fineN] at hfn; omega
    by_cases h0 : n < 0
    · skip
      refine Ct.of _ Tryd.func38 Tryd.ntmps38 rfl rfl (fun X W => ?_)
      refine Jc.seq ?_
      refine Jc.region ?_
      refine Jl.pv (PR.assign rfl) ?_
      refine Jl.nil ?_
      refine Jq.thenN ?_
      refine Jc.scope (σ := Empty) (fun s => s.elim) (fun _ => []) (fun _ => []) (fun _ => 0) (l := 0) rfl ?_ ?_
      · exact fun s => s.elim
      · intro hfirst0
        refine Jc.seq ?_
        refine Jc.seq ?_
        refine Jc.region ?_
        refine Jl.pv (PR.move rfl) ?_
        refine Jl.pv (PR.lss true rfl rfl (by simpa using h0)) ?_
        refine Jl.pv (PR.move rfl) ?_
        refine Jl.offS rfl rfl rfl ?_
        refine Jl.offS rfl rfl rfl ?_
        refine Jl.pv (PR.pickT rfl rfl) ?_
        refine Jl.nil ?_
        refine Jq.thenN ?_
        refine Jc.condT rfl ?_
        refine Jc.seq ?_
        refine Jc.region ?_
        refine Jl.pv (PR.assign rfl) ?_
        refine Jl.nil ?_
        refine Jq.thenN ?_
        refine Jc.ret ?_
        refine Jq.thenR ?_
        refine Jq.jmpR ?_
        exact Jq.fin () (.inl rfl) rfl (RetVs.tmp rfl RetVs.nil) (by rw [hz]; rfl) (by repeat (first | exact Take.nil | apply Take.cons (by repeat (first | exact Del.here | apply Del.there)))) (by repeat (first | exact trivial | refine And.intro (by repeat (first | exact Mem.here | apply Mem.there)) ?_))
    · skip
      refine Ct.of _ Tryd.func38 Tryd.ntmps38 rfl rfl (fun X W => ?_)
      refine Jc.seq ?_
      refine Jc.region ?_
      refine Jl.pv (PR.assign rfl) ?_
      refine Jl.nil ?_
      refine Jq.thenN ?_
      refine Jc.scope (σ := Empty) (fun s => s.elim) (fun _ => []) (fun _ => []) (fun _ => 0) (l := 0) rfl ?_ ?_
      · exact fun s => s.elim
      · intro hfirst0
        refine Jc.seq ?_
        refine Jc.seq ?_
        refine Jc.region ?_
        refine Jl.pv (PR.move rfl) ?_
        refine Jl.pv (PR.lss false rfl rfl (by simpa using h0)) ?_
        refine Jl.pv (PR.move rfl) ?_
        refine Jl.on rfl rfl ?_
        refine Jl.pv (PR.move rfl) ?_
        refine Jl.on rfl rfl ?_
        refine Jl.pv (PR.gtr true rfl rfl (by simp; omega)) ?_
        refine Jl.pv (PR.pickF rfl rfl) ?_
        refine Jl.nil ?_
        refine Jq.thenN ?_
        refine Jc.condT rfl ?_
        refine Jc.seq ?_
        refine Jc.region ?_
        refine Jl.pv (PR.assign rfl) ?_
        refine Jl.nil ?_
        refine Jq.thenN ?_
        refine Jc.ret ?_
        refine Jq.thenR ?_
        refine Jq.jmpR ?_
        exact Jq.fin () (.inl rfl) rfl (RetVs.tmp rfl RetVs.nil) (by rw [hz]; rfl) (by repeat (first | exact Take.nil | apply Take.cons (by repeat (first | exact Del.here | apply Del.there)))) (by repeat (first | exact trivial | refine And.intro (by repeat (first | exact Mem.here | apply Mem.there)) ?_))

/-- Bytes copied. -/
theorem clone_ct (A : Option Addr) (c : Nat) (l : List UInt8) (hn : l.length ≤ 10000000) :
    Ct Tryd.prog 49 [.slice A l.length c] [] [.rd A (u8s l)] (fun x : Option Addr × Nat => .slice x.1 l.length x.2) (fun x => [.row 5 1 (.slice x.1 l.length x.2) l.length (u8s l)]) (fun _ => []) := by
  cases A with
  | none =>
    refine Ct.of _ Tryd.func49 Tryd.ntmps49 rfl rfl (fun X W => ?_)
    refine Jc.pure (p := l = []) Mem.here (fun X W h => ?_) ?_
    · cases l with
      | nil => rfl
      | cons x l => exact absurd (Fact.rd_none h) (by simp [u8s])
    rintro rfl
    refine Jc.seq ?_
    refine Jc.region ?_
    refine Jl.pv (PR.assign rfl) ?_
    refine Jl.nil ?_
    refine Jq.thenN ?_
    refine Jc.seq ?_
    refine Jc.seq ?_
    refine Jc.region ?_
    refine Jl.pv (PR.move rfl) ?_
    refine Jl.pv (PR.eqlNil true rfl tsl26 rfl) ?_
    refine Jl.nil ?_
    refine Jq.thenN ?_
    refine Jc.condT rfl ?_
    refine Jc.seq ?_
    refine Jc.region ?_
    refine Jl.pv (PR.assign rfl) ?_
    refine Jl.nil ?_
    refine Jq.thenN ?_
    refine Jc.ret ?_
    refine Jq.thenR ?_
    refine Jq.nilRow 5 1 ?_
    exact Jq.fin (none, 0) (.inl rfl) rfl (RetVs.tmp rfl RetVs.nil) rfl (by repeat (first | exact Take.nil | apply Take.cons (by repeat (first | exact Del.here | apply Del.there)))) (by repeat (first | exact trivial | refine And.intro (by repeat (first | exact Mem.here | apply Mem.there)) ?_))
  | some a =>
    refine Ct.of _ Tryd.func49 Tryd.ntmps49 rfl rfl (fun X W => ?_)
    refine Jc.seq ?_
    refine Jc.region ?_
    refine Jl.pv (PR.assign rfl) ?_
    refine Jl.nil ?_
    refine Jq.thenN ?_
    refine Jc.seq ?_
    refine Jc.seq ?_
    refine Jc.region ?_
    refine Jl.pv (PR.move rfl) ?_
    refine Jl.pv (PR.eqlNil false rfl tsl26 rfl) ?_
    refine Jl.nil ?_
    refine Jq.thenN ?_
    refine Jc.condF rfl ?_
    refine Jc.skip ?_
    refine Jq.thenN ?_
    refine Jc.seq ?_
    refine Jc.region ?_
    refine Jl.buildSlice (by rfl) tsl26 tzr26_0 (by rfl) (by rfl) ?_
    intro b5
    refine Jl.pv (PR.move rfl) ?_
    refine Jl.toRow 1 0 (by repeat (first | exact Swap.here | apply Swap.there)) (by rfl) (by rfl) ?_
    refine Jl.append l.length (u8s l) rfl rfl rfl tsl26 tze5 (by rfl) (by decide) tby5 (fun _ _ => (by repeat (first | exact Swap.here | apply Swap.there))) (by repeat (first | exact Mem.here | apply Mem.there)) (by omega) rfl (by simp [u8s]) (u8s_one _) (by omega) (by decide) ?_
    intro A7 c7
    refine Jl.pv (PR.assign rfl) ?_
    refine Jl.nil ?_
    refine Jq.thenN ?_
    refine Jc.ret ?_
    exact Jq.fin (A7, c7) (.inl rfl) rfl (RetVs.tmp rfl RetVs.nil) rfl (by repeat (first | exact Take.nil | apply Take.cons (by repeat (first | exact Del.here | apply Del.there)))) (by repeat (first | exact trivial | refine And.intro (by repeat (first | exact Mem.here | apply Mem.there)) ?_))

/-- Take. -/
def takeV (t : Nat × List UInt8 × Nat) (x : Option Addr × Nat) : Value := .tuple #[.int .i64 t.1, .slice x.1 t.2.1.length x.2, .int .i64 t.2.2]
def rowU (l : List UInt8) (x : Option Addr × Nat) : List Res := [.row 5 1 (.slice x.1 l.length x.2) l.length (u8s l)]
theorem take_ct (A : Option Addr) (c : Nat) (b : List UInt8) (hn : b.length ≤ 1000000) (hc : b.length ≤ c) :
    Ct Tryd.prog 42 [.slice A b.length c] [] [.rd A (u8s b)] (takeV (takeN b)) (rowU (takeN b).2.1) (fun _ => []) := by
  refine Ct.of _ Tryd.func42 Tryd.ntmps42 rfl rfl (fun X W => ?_)
  refine Jc.seq ?_
  refine Jc.region ?_
  refine Jl.pv (PR.assign rfl) ?_
  refine Jl.pv (PR.assign rfl) ?_
  refine Jl.pv (PR.assign rfl) ?_
  refine Jl.nil ?_
  refine Jq.thenN ?_
  refine Jc.scope (σ := { s : Nat × Nat // TakeI b s.1 s.2 }) (fun s => [(0, .slice A b.length c), (2, .int .i64 (s.1.2 : Int)), (5, .int .i64 (s.1.1 : Int))]) (fun _ => []) (fun _ => [.rd A (u8s b)]) (fun s => 6 - s.1.1) (l := 0) rfl ?_ ?_
  · rintro ⟨⟨i, acc⟩, hs0⟩
    have hs : TakeI b i acc := hs0
    show Jc _ _ _ _ _ _ [(0, Value.slice A b.length c), (2, .int .i64 (acc : Int)), (5, .int .i64 (i : Int))] [] [.rd A (u8s b)]
    have hlt6 := hs.lt
    have hle := hs.le
    refine Jc.seq ?_
    refine Jc.block ?_
    refine Jc.seq ?_
    refine Jc.region ?_
    refine Jl.pv (PR.move rfl) ?_
    refine Jl.pv (PR.move rfl) ?_
    refine Jl.pv (PR.len rfl tsl26) ?_
    refine Jl.pv (PR.eql _ rfl rfl rfl) ?_
    refine Jl.pv (PR.assign rfl) ?_
    refine Jl.nil ?_
    refine Jq.thenN ?_
    refine Jc.cond rfl (fun h0 => ?_) (fun h0 => ?_)
    · try replace h0 := of_decide_eq_true h0
      refine Jc.seq ?_
      refine Jc.region ?_
      refine Jl.pv (PR.assign rfl) ?_
      refine Jl.pv (PR.assign rfl) ?_
      refine Jl.pv (PR.assign rfl) ?_
      refine Jl.nil ?_
      refine Jq.thenN ?_
      refine Jc.ret ?_
      refine Jq.blkR ?_
      refine Jq.thenR ?_
      refine Jq.jmpR ?_
      refine Jq.nilRow 5 1 ?_
      rw [hs.short (by omega)]
      exact Jq.fin (none, 0) (.inl rfl) rfl (RetVs.tmp rfl (RetVs.tmp rfl (RetVs.tmp rfl RetVs.nil))) rfl (by repeat (first | exact Take.nil | apply Take.cons (by repeat (first | exact Del.here | apply Del.there)))) (by repeat (first | exact trivial | refine And.intro (by repeat (first | exact Mem.here | apply Mem.there)) ?_))
    · try replace h0 := of_decide_eq_false h0
      have hi : i < b.length := by omega
      have hm128 : b[i].toNat % 128 < 128 := Nat.mod_lt _ (by omega)
      have hbig := hs.big _ hm128
      have hbb := b[i].toNat_lt
      refine Jc.seq ?_
      refine Jc.region ?_
      refine Jl.pv (PR.move rfl) ?_
      refine Jl.pv (PR.eql false rfl rfl (by simp; omega)) ?_
      refine Jl.pv (PR.assign rfl) ?_
      refine Jl.nil ?_
      refine Jq.thenN ?_
      refine Jc.condF rfl ?_
      refine Jc.skip ?_
      refine Jq.blkN ?_
      refine Jq.thenN ?_
      refine Jc.seq ?_
      refine Jc.region ?_
      refine Jl.pv (PR.move rfl) ?_
      refine Jl.pv (PR.move rfl) ?_
      refine Jl.pv (PR.move rfl) ?_
      refine Jl.pv (PR.idx1 i rfl rfl tsl26 (by repeat (first | exact Mem.here | apply Mem.there)) (by simp [u8s]) rfl hi) ?_
      refine Jl.pv (PR.loadR rfl tsh5 (by repeat (first | exact Mem.here | apply Mem.there)) (getu hi)) ?_
      refine Jl.pv (PR.and ((b[i].toNat % 128 : Nat) : Int) rfl rfl (and127 _)) ?_
      refine Jl.pv (PR.conv ((b[i].toNat % 128 : Nat) : Int) rfl Tryd.underlying5 Tryd.underlying3 (w64 (by omega) (by omega))) ?_
      refine Jl.pv (PR.move rfl) ?_
      refine Jl.pv (PR.mul (7 * (i : Int)) rfl rfl (w64 (by omega) (by omega))) ?_
      refine Jl.pv (PR.shl _ rfl rfl (by simp; omega) (take_shl hs _ hm128)) ?_
      refine Jl.pv (PR.or _ rfl rfl (take_or hs _ hm128)) ?_
      refine Jl.pv (PR.assign rfl) ?_
      refine Jl.nil ?_
      refine Jq.thenN ?_
      refine Jc.seq ?_
      refine Jc.region ?_
      refine Jl.pv (PR.move rfl) ?_
      refine Jl.pv (PR.add ((i + 1 : Nat) : Int) rfl rfl (by rw [w64 (by omega) (by omega)]; rfl)) ?_
      refine Jl.pv (PR.assign rfl) ?_
      refine Jl.nil ?_
      refine Jq.thenN ?_
      refine Jc.seq ?_
      refine Jc.seq ?_
      refine Jc.region ?_
      refine Jl.pv (PR.move rfl) ?_
      refine Jl.pv (PR.move rfl) ?_
      refine Jl.pv (PR.sub (i : Int) rfl rfl (by rw [w64 (by omega) (by omega)]; omega)) ?_
      refine Jl.pv (PR.idx1 i rfl rfl tsl26 (by repeat (first | exact Mem.here | apply Mem.there)) (by simp [u8s]) rfl hi) ?_
      refine Jl.pv (PR.loadR rfl tsh5 (by repeat (first | exact Mem.here | apply Mem.there)) (getu hi)) ?_
      refine Jl.pv (PR.geq _ rfl rfl rfl) ?_
      refine Jl.pv (PR.move rfl) ?_
      refine Jl.bsplit (fun g33 => ?_) (fun g33 => ?_)
      · try replace g33 := of_decide_eq_true g33
        refine Jl.on rfl rfl ?_
        refine Jl.pv (PR.move rfl) ?_
        refine Jl.on rfl rfl ?_
        refine Jl.pv (PR.lss _ rfl rfl rfl) ?_
        refine Jl.pv (PR.pickT rfl rfl) ?_
        refine Jl.nil ?_
        refine Jq.thenN ?_
        refine Jc.cond rfl (fun h1 => ?_) (fun h1 => ?_)
        · try replace h1 := of_decide_eq_true h1
          refine Jc.goto ?_
          refine Jq.thenG ?_
          exact Jq.jmpB ⟨(i + 1, acc + b[i].toNat % 128 * 128 ^ i), hs.next hi (by omega) (by omega)⟩ (by simp only; omega) (by exact ⟨rfl, rfl, rfl, trivial⟩) rfl (by exact ⟨Mem.here, trivial⟩)
        · try replace h1 := of_decide_eq_false h1
          refine Jc.skip ?_
          refine Jq.thenN ?_
          refine Jc.seq ?_
          refine Jc.seq ?_
          refine Jc.region ?_
          refine Jl.pv (PR.move rfl) ?_
          refine Jl.pv (PR.move rfl) ?_
          refine Jl.pv (PR.sub (i : Int) rfl rfl (by rw [w64 (by omega) (by omega)]; omega)) ?_
          refine Jl.pv (PR.idx1 i rfl rfl tsl26 (by repeat (first | exact Mem.here | apply Mem.there)) (by simp [u8s]) rfl hi) ?_
          refine Jl.pv (PR.loadR rfl tsh5 (by repeat (first | exact Mem.here | apply Mem.there)) (getu hi)) ?_
          refine Jl.pv (PR.geq true rfl rfl (by simpa using g33)) ?_
          refine Jl.pv (PR.move rfl) ?_
          refine Jl.offS rfl rfl rfl ?_
          refine Jl.offS rfl rfl rfl ?_
          refine Jl.offS rfl rfl rfl ?_
          refine Jl.offS rfl rfl rfl ?_
          refine Jl.offS rfl rfl rfl ?_
          refine Jl.offS rfl rfl rfl ?_
          refine Jl.offS rfl rfl rfl ?_
          refine Jl.offUS rfl rfl ?_
          refine Jl.offUS rfl rfl ?_
          refine Jl.offS rfl rfl rfl ?_
          refine Jl.pv (PR.pickT rfl rfl) ?_
          refine Jl.pv (PR.move rfl) ?_
          refine Jl.offS rfl rfl rfl ?_
          refine Jl.offS rfl rfl rfl ?_
          refine Jl.pv (PR.pickT rfl rfl) ?_
          refine Jl.nil ?_
          refine Jq.thenN ?_
          refine Jc.condT rfl ?_
          refine Jc.seq ?_
          refine Jc.region ?_
          refine Jl.pv (PR.assign rfl) ?_
          refine Jl.pv (PR.assign rfl) ?_
          refine Jl.pv (PR.assign rfl) ?_
          refine Jl.nil ?_
          refine Jq.thenN ?_
          refine Jc.ret ?_
          refine Jq.thenR ?_
          refine Jq.jmpR ?_
          refine Jq.nilRow 5 1 ?_
          rw [hs.bad hi (by omega)]
          exact Jq.fin (none, 0) (.inl rfl) rfl (RetVs.tmp rfl (RetVs.tmp rfl (RetVs.tmp rfl RetVs.nil))) rfl (by repeat (first | exact Take.nil | apply Take.cons (by repeat (first | exact Del.here | apply Del.there)))) (by repeat (first | exact trivial | refine And.intro (by repeat (first | exact Mem.here | apply Mem.there)) ?_))
      · try replace g33 := of_decide_eq_false g33
        refine Jl.offS rfl rfl rfl ?_
        refine Jl.offS rfl rfl rfl ?_
        refine Jl.pv (PR.pickF rfl rfl) ?_
        refine Jl.nil ?_
        refine Jq.thenN ?_
        refine Jc.condF rfl ?_
        refine Jc.skip ?_
        refine Jq.thenN ?_
        refine Jc.seq ?_
        refine Jc.seq ?_
        refine Jc.region ?_
        refine Jl.pv (PR.move rfl) ?_
        refine Jl.pv (PR.move rfl) ?_
        refine Jl.pv (PR.sub (i : Int) rfl rfl (by rw [w64 (by omega) (by omega)]; omega)) ?_
        refine Jl.pv (PR.idx1 i rfl rfl tsl26 (by repeat (first | exact Mem.here | apply Mem.there)) (by simp [u8s]) rfl hi) ?_
        refine Jl.pv (PR.loadR rfl tsh5 (by repeat (first | exact Mem.here | apply Mem.there)) (getu hi)) ?_
        refine Jl.pv (PR.geq false rfl rfl (by simpa using g33)) ?_
        refine Jl.pv (PR.move rfl) ?_
        refine Jl.on rfl rfl ?_
        refine Jl.pv (PR.move rfl) ?_
        refine Jl.on rfl rfl ?_
        refine Jl.pv (PR.move rfl) ?_
        refine Jl.on rfl rfl ?_
        refine Jl.pv (PR.sub (i : Int) rfl rfl (by rw [w64 (by omega) (by omega)]; omega)) ?_
        refine Jl.on rfl rfl ?_
        refine Jl.pv (PR.idx1 i rfl rfl tsl26 (by repeat (first | exact Mem.here | apply Mem.there)) (by simp [u8s]) rfl hi) ?_
        refine Jl.on rfl rfl ?_
        refine Jl.pv (PR.loadR rfl tsh5 (by repeat (first | exact Mem.here | apply Mem.there)) (getu hi)) ?_
        refine Jl.on rfl rfl ?_
        refine Jl.pv (PR.eql _ rfl rfl rfl) ?_
        refine Jl.on rfl rfl ?_
        refine Jl.pv (PR.move rfl) ?_
        refine Jl.bsplit (fun g50 => ?_) (fun g50 => ?_)
        · try replace g50 := of_decide_eq_true g50
          refine Jl.on rfl rfl ?_
          refine Jl.pv (PR.move rfl) ?_
          refine Jl.on rfl rfl ?_
          refine Jl.pv (PR.gtr _ rfl rfl rfl) ?_
          refine Jl.on rfl rfl ?_
          refine Jl.pv (PR.pickT rfl rfl) ?_
          refine Jl.pv (PR.pickF rfl rfl) ?_
          refine Jl.pv (PR.move rfl) ?_
          refine Jl.bsplit (fun g55 => ?_) (fun g55 => ?_)
          · try replace g55 := of_decide_eq_true g55
            refine Jl.offS rfl rfl rfl ?_
            refine Jl.offS rfl rfl rfl ?_
            refine Jl.pv (PR.pickT rfl rfl) ?_
            refine Jl.nil ?_
            refine Jq.thenN ?_
            refine Jc.condT rfl ?_
            refine Jc.seq ?_
            refine Jc.region ?_
            refine Jl.pv (PR.assign rfl) ?_
            refine Jl.pv (PR.assign rfl) ?_
            refine Jl.pv (PR.assign rfl) ?_
            refine Jl.nil ?_
            refine Jq.thenN ?_
            refine Jc.ret ?_
            refine Jq.thenR ?_
            refine Jq.jmpR ?_
            refine Jq.nilRow 5 1 ?_
            rw [hs.bad hi (by omega)]
            exact Jq.fin (none, 0) (.inl rfl) rfl (RetVs.tmp rfl (RetVs.tmp rfl (RetVs.tmp rfl RetVs.nil))) rfl (by repeat (first | exact Take.nil | apply Take.cons (by repeat (first | exact Del.here | apply Del.there)))) (by repeat (first | exact trivial | refine And.intro (by repeat (first | exact Mem.here | apply Mem.there)) ?_))
          · try replace g55 := of_decide_eq_false g55
            refine Jl.on rfl rfl ?_
            refine Jl.pv (PR.move rfl) ?_
            refine Jl.on rfl rfl ?_
            refine Jl.pv (PR.gtr _ rfl rfl rfl) ?_
            refine Jl.pv (PR.pickF rfl rfl) ?_
            refine Jl.nil ?_
            refine Jq.thenN ?_
            refine Jc.cond rfl (fun h2 => ?_) (fun h2 => ?_)
            · try replace h2 := of_decide_eq_true h2
              refine Jc.seq ?_
              refine Jc.region ?_
              refine Jl.pv (PR.assign rfl) ?_
              refine Jl.pv (PR.assign rfl) ?_
              refine Jl.pv (PR.assign rfl) ?_
              refine Jl.nil ?_
              refine Jq.thenN ?_
              refine Jc.ret ?_
              refine Jq.thenR ?_
              refine Jq.jmpR ?_
              refine Jq.nilRow 5 1 ?_
              rw [hs.bad hi (by omega)]
              exact Jq.fin (none, 0) (.inl rfl) rfl (RetVs.tmp rfl (RetVs.tmp rfl (RetVs.tmp rfl RetVs.nil))) rfl (by repeat (first | exact Take.nil | apply Take.cons (by repeat (first | exact Del.here | apply Del.there)))) (by repeat (first | exact trivial | refine And.intro (by repeat (first | exact Mem.here | apply Mem.there)) ?_))
            · try replace h2 := of_decide_eq_false h2
              refine Jc.skip ?_
              refine Jq.thenN ?_
              refine Jc.seq ?_
              refine Jc.region ?_
              refine Jl.pv (PR.move rfl) ?_
              refine Jl.pv (PR.move rfl) ?_
              refine Jl.pv (PR.move rfl) ?_
              refine Jl.slice (i + 1) b.length (b.length - (i + 1)) (u8s (b.drop (i + 1))) rfl tsl26 rfl rfl (by repeat (first | exact Mem.here | apply Mem.there)) (by omega) (Nat.le_refl _) hc rfl (sl_end b (i + 1)) ?_
              intro A62 c62 hc62
              clear hc62
              rw [show b.length - (i + 1) = (b.drop (i + 1)).length by simp]
              refine Jl.call (clone_ct A62 c62 (b.drop (i + 1)) (by simp; omega)) en49 (by rfl) (by repeat (first | exact Take.nil | apply Take.cons (by repeat (first | exact Del.here | apply Del.there)))) (by repeat (first | exact trivial | refine And.intro (by repeat (first | exact Mem.here | apply Mem.there)) ?_)) ?_
              rintro ⟨A63, c63⟩
              refine Jl.pv (PR.assign rfl) ?_
              refine Jl.pv (PR.assign rfl) ?_
              refine Jl.pv (PR.assign rfl) ?_
              refine Jl.nil ?_
              refine Jq.thenN ?_
              refine Jc.ret ?_
              refine Jq.jmpR ?_
              rw [hs.good hi (by omega) (by omega) (by omega)]
              exact Jq.fin (A63, c63) (.inl rfl) rfl (RetVs.tmp rfl (RetVs.tmp rfl (RetVs.tmp rfl RetVs.nil))) rfl (by repeat (first | exact Take.nil | apply Take.cons (by repeat (first | exact Del.here | apply Del.there)))) (by repeat (first | exact trivial | refine And.intro (by repeat (first | exact Mem.here | apply Mem.there)) ?_))
        · try replace g50 := of_decide_eq_false g50
          refine Jl.offS rfl rfl rfl ?_
          refine Jl.offS rfl rfl rfl ?_
          refine Jl.on rfl rfl ?_
          refine Jl.pv (PR.pickF rfl rfl) ?_
          refine Jl.pv (PR.pickF rfl rfl) ?_
          refine Jl.pv (PR.move rfl) ?_
          refine Jl.on rfl rfl ?_
          refine Jl.pv (PR.move rfl) ?_
          refine Jl.on rfl rfl ?_
          refine Jl.pv (PR.gtr _ rfl rfl rfl) ?_
          refine Jl.pv (PR.pickF rfl rfl) ?_
          refine Jl.nil ?_
          refine Jq.thenN ?_
          refine Jc.cond rfl (fun h3 => ?_) (fun h3 => ?_)
          · try replace h3 := of_decide_eq_true h3
            refine Jc.seq ?_
            refine Jc.region ?_
            refine Jl.pv (PR.assign rfl) ?_
            refine Jl.pv (PR.assign rfl) ?_
            refine Jl.pv (PR.assign rfl) ?_
            refine Jl.nil ?_
            refine Jq.thenN ?_
            refine Jc.ret ?_
            refine Jq.thenR ?_
            refine Jq.jmpR ?_
            refine Jq.nilRow 5 1 ?_
            rw [hs.bad hi (by omega)]
            exact Jq.fin (none, 0) (.inl rfl) rfl (RetVs.tmp rfl (RetVs.tmp rfl (RetVs.tmp rfl RetVs.nil))) rfl (by repeat (first | exact Take.nil | apply Take.cons (by repeat (first | exact Del.here | apply Del.there)))) (by repeat (first | exact trivial | refine And.intro (by repeat (first | exact Mem.here | apply Mem.there)) ?_))
          · try replace h3 := of_decide_eq_false h3
            refine Jc.skip ?_
            refine Jq.thenN ?_
            refine Jc.seq ?_
            refine Jc.region ?_
            refine Jl.pv (PR.move rfl) ?_
            refine Jl.pv (PR.move rfl) ?_
            refine Jl.pv (PR.move rfl) ?_
            refine Jl.slice (i + 1) b.length (b.length - (i + 1)) (u8s (b.drop (i + 1))) rfl tsl26 rfl rfl (by repeat (first | exact Mem.here | apply Mem.there)) (by omega) (Nat.le_refl _) hc rfl (sl_end b (i + 1)) ?_
            intro A62 c62 hc62
            clear hc62
            rw [show b.length - (i + 1) = (b.drop (i + 1)).length by simp]
            refine Jl.call (clone_ct A62 c62 (b.drop (i + 1)) (by simp; omega)) en49 (by rfl) (by repeat (first | exact Take.nil | apply Take.cons (by repeat (first | exact Del.here | apply Del.there)))) (by repeat (first | exact trivial | refine And.intro (by repeat (first | exact Mem.here | apply Mem.there)) ?_)) ?_
            rintro ⟨A63, c63⟩
            refine Jl.pv (PR.assign rfl) ?_
            refine Jl.pv (PR.assign rfl) ?_
            refine Jl.pv (PR.assign rfl) ?_
            refine Jl.nil ?_
            refine Jq.thenN ?_
            refine Jc.ret ?_
            refine Jq.jmpR ?_
            rw [hs.good hi (by omega) (by omega) (by omega)]
            exact Jq.fin (A63, c63) (.inl rfl) rfl (RetVs.tmp rfl (RetVs.tmp rfl (RetVs.tmp rfl RetVs.nil))) rfl (by repeat (first | exact Take.nil | apply Take.cons (by repeat (first | exact Del.here | apply Del.there)))) (by repeat (first | exact trivial | refine And.intro (by repeat (first | exact Mem.here | apply Mem.there)) ?_))
  · intro hfirst0
    refine Jc.seq ?_
    refine Jc.region ?_
    refine Jl.pv (PR.assign rfl) ?_
    refine Jl.nil ?_
    refine Jq.thenN ?_
    refine Jc.seq ?_
    refine Jc.label ?_
    refine Jq.thenN ?_
    exact Jc.at_ hfirst0 ⟨(0, 0), TakeI.zero b⟩ (by exact ⟨rfl, rfl, rfl, trivial⟩) rfl (by exact ⟨Mem.here, trivial⟩)

end Go.Proofs.YtljgaglbgkejhaaDoor
