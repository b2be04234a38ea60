/-
Contracts of herd/record.
-/
import Derived.Test.YtljgaglbgkejhaaDoorSlC
import Derived.Test.YtljgaglbgkejhaaDoorSlE
import Derived.Test.YtljgaglbgkejhaaDoorSlG
import Derived.Test.YtljgaglbgkejhaaDoorNumR
import Derived.Test.YtljgaglbgkejhaaDoorRcP
namespace Go.Proofs.YtljgaglbgkejhaaDoor
set_option linter.unusedVariables false
open Go.RowKit
attribute [local irreducible] Res.blk Res.row Fact.rd
/-- The table of how many numbers kinds have. -/
def manyV (m : Nat → AdC) : List Value := (List.range 17).map fun i => if i = 0 then .slice none 0 0 else .slice (m i).1 2 (m i).2
theorem many_at (m : Nat → AdC) {k : Nat} (h : k < 17) : (manyV m)[k * 1]? = some (if k = 0 then .slice none 0 0 else .slice (m k).1 2 (m k).2) := by
  rw [Nat.mul_one, manyV, List.getElem?_map, List.getElem?_range h]; rfl
def bndV (k : Nat) : List Value := [.int .i64 (((bndAt k).1 : Nat) : Int), .int .i64 (((bndAt k).2 : Nat) : Int)]
def Fact.many (m : Nat → AdC) : Fact := ⟨fun X W => (Fact.rd (some ⟨0, 0, none⟩) (manyV m)).p X W ∧ ∀ i, 1 ≤ i → i < 17 → (Fact.rd (m i).1 (bndV i)).p X W, fun X X' W W' h hf hx =>
  ⟨(Fact.rd (some ⟨0, 0, none⟩) (manyV m)).fr X X' W W' h.1 hf hx, fun i h1 h2 => (Fact.rd (m i).1 (bndV i)).fr X X' W W' (h.2 i h1 h2) hf hx⟩⟩
theorem numbers_ct (r : Rc) (x : AdC) : Ct Tryd.prog 30 [r.v x] [] [] (fun b : Nat => .func (.func 44) #[] #[.pointer (some ⟨b, 0, none⟩)]) (fun b => [.blk b 24 (r.cs x)]) (fun _ => []) := by
  refine Ct.of _ Tryd.func30 Tryd.ntmps30 rfl rfl (fun X W => ?_)
  refine Jc.seq ?_
  refine Jc.region ?_
  refine Jl.box rfl (by rfl) ?_
  intro b1
  refine Jl.pv (PR.assign rfl) ?_
  refine Jl.nil ?_
  refine Jq.thenN ?_
  refine Jc.seq ?_
  refine Jc.region ?_
  refine Jl.pv (PR.makeFunc rfl rfl) ?_
  refine Jl.pv (PR.assign rfl) ?_
  refine Jl.nil ?_
  refine Jq.thenN ?_
  refine Jc.ret ?_
  exact Jq.fin b1 (.inl rfl) rfl (RetVs.tmp rfl RetVs.nil) rfl (by repeat (first | exact Take.nil | apply Take.cons (by repeat (first | exact Del.here | apply Del.there)))) (by repeat (first | exact trivial | refine And.intro (by repeat (first | exact Mem.here | apply Mem.there)) ?_))
def nvals (l : List Int) (k : Nat) : List Value := [.bool (fineN (l.getD k 0))]
theorem fineN_if {n : Int} {a b : Bool} (h1 : a = decide (0 ≤ n)) (h2 : b = decide (n ≤ 1099511627776)) : fineN n = (a && b) := by subst h1 h2; simp [fineN]
theorem numbers1_it (r : Rc) (x : AdC) (b : Nat) (hn : r.l.length ≤ 1000000) : It Tryd.prog 44 [.pointer (some ⟨b, 0, none⟩)] [.blk b 24 (r.cs x)] [.rd x.1 (i64s r.l)] r.l.length (nvals r.l) := by
  refine It.of _ Tryd.func44 Tryd.ntmps44 rfl rfl (by rfl) (by simp only [List.mem_singleton]; rintro φ rfl; exact Fact.rd_old _ _) (fun W l cl clx hy => ?_)
  refine Jc.seq ?_
  refine Jc.region ?_
  refine Jl.pv (PR.fieldAddr rfl tfl24_1) ?_
  refine Jl.pv (PR.load1 rfl tsh22 (by repeat (first | exact Has.here | apply Has.there)) (by rfl)) ?_
  refine Jl.pv (PR.len rfl tsl22) ?_
  refine Jl.pv (PR.move rfl) ?_
  refine Jl.nil ?_
  refine Jq.thenN ?_
  refine Jc.block ?_
  refine Jc.loop (σ := { k : Nat // k ≤ r.l.length }) (fun s => [(8, .int .i64 (s.1 : Int)), (7, .int .i64 (r.l.length : Int)), (6, .slice x.1 r.l.length x.2), (0, .func (.yield l) #[] #[])]) (fun _ => [.blk b 24 (r.cs x)]) (fun s => [cl s.1, .rd x.1 (i64s r.l)]) (fun s => r.l.length - s.1) ⟨0, Nat.zero_le _⟩ (by repeat (first | exact trivial | refine And.intro rfl ?_)) rfl (by repeat (first | exact trivial | refine And.intro (by repeat (first | exact Mem.here | apply Mem.there)) ?_)) ?_
  rintro ⟨k, hk⟩
  show Jc _ _ _ _ _ _ [(8, Value.int .i64 (k : Int)), (7, .int .i64 (r.l.length : Int)), (6, .slice x.1 r.l.length x.2), (0, .func (.yield l) #[] #[])] [.blk b 24 (r.cs x)] [cl k, .rd x.1 (i64s r.l)]
  refine Jc.seq ?_
  refine Jc.region ?_
  refine Jl.pv (PR.lss _ rfl rfl rfl) ?_
  refine Jl.nil ?_
  refine Jq.thenN ?_
  refine Jc.seq ?_
  refine Jc.cond rfl (fun hlt => ?_) (fun hlt => ?_)
  · try replace hlt := of_decide_eq_true hlt
    have hlt' : k < r.l.length := by omega
    refine Jc.skip ?_
    refine Jq.thenN ?_
    refine Jc.seq ?_
    refine Jc.block ?_
    refine Jc.seq ?_
    refine Jc.region ?_
    refine Jl.pv (PR.idx1 k rfl rfl tsl22 (by repeat (first | exact Mem.here | apply Mem.there)) (by simp) rfl hlt') ?_
    refine Jl.pv (PR.loadR rfl tsh3 (by repeat (first | exact Mem.here | apply Mem.there)) (getd hlt')) ?_
    refine Jl.pv (PR.assign rfl) ?_
    refine Jl.nil ?_
    refine Jq.thenN ?_
    refine Jc.seq ?_
    refine Jc.region ?_
    refine Jl.pv (PR.move rfl) ?_
    refine Jl.pv (PR.move rfl) ?_
    refine Jl.pv (PR.geq _ rfl rfl rfl) ?_
    refine Jl.pv (PR.move rfl) ?_
    refine Jl.bsplit (fun g15 => ?_) (fun g15 => ?_)
    · try replace g15 := of_decide_eq_true g15
      have hv : nvals r.l k = [.bool (decide (r.l.getD k 0 ≤ 1099511627776))] := by rw [nvals, fineN_if rfl rfl, decide_eq_true g15, Bool.true_and]
      refine Jl.on rfl rfl ?_
      refine Jl.pv (PR.move rfl) ?_
      refine Jl.on rfl rfl ?_
      refine Jl.pv (PR.leq _ rfl rfl rfl) ?_
      refine Jl.pv (PR.pickT rfl rfl) ?_
      refine hy _ _ _ _ _ _ _ _ _ _ _ _ _ _ k hlt' rfl (by rw [hv]; rfl) (by repeat (first | exact Mem.here | apply Mem.there)) rfl ?_ ?_
      · refine Jl.pv (PR.not rfl) ?_
        refine Jl.nil ?_
        refine Jq.thenN ?_
        refine Jc.condF rfl ?_
        refine Jc.skip ?_
        refine Jq.blkN ?_
        refine Jq.thenN ?_
        refine Jc.region ?_
        refine Jl.pv (PR.add ((k + 1 : Nat) : Int) rfl rfl (by rw [w64 (by omega) (by omega)]; rfl)) ?_
        refine Jl.pv (PR.move rfl) ?_
        refine Jl.nil ?_
        refine Jq.again ⟨k + 1, hlt'⟩ (by simp only; omega) (by repeat (first | exact trivial | refine And.intro rfl ?_)) rfl (by repeat (first | exact trivial | refine And.intro (by repeat (first | exact Mem.here | apply Mem.there)) ?_))
      · refine Jl.pv (PR.not rfl) ?_
        refine Jl.nil ?_
        refine Jq.thenN ?_
        refine Jc.condT rfl ?_
        refine Jc.ret ?_
        refine Jq.blkR ?_
        refine Jq.thenR ?_
        refine Jq.thenR ?_
        refine Jq.blkR ?_
        exact Jq.itStop (.inl rfl) hlt' (by repeat (first | exact Mem.here | apply Mem.there))
    · try replace g15 := of_decide_eq_false g15
      have hv : nvals r.l k = [.bool false] := by rw [nvals, fineN_if rfl rfl, decide_eq_false g15, Bool.false_and]
      refine Jl.offS rfl rfl rfl ?_
      refine Jl.offS rfl rfl rfl ?_
      refine Jl.pv (PR.pickF rfl rfl) ?_
      refine hy _ _ _ _ _ _ _ _ _ _ _ _ _ _ k hlt' rfl (by rw [hv]; rfl) (by repeat (first | exact Mem.here | apply Mem.there)) rfl ?_ ?_
      · refine Jl.pv (PR.not rfl) ?_
        refine Jl.nil ?_
        refine Jq.thenN ?_
        refine Jc.condF rfl ?_
        refine Jc.skip ?_
        refine Jq.blkN ?_
        refine Jq.thenN ?_
        refine Jc.region ?_
        refine Jl.pv (PR.add ((k + 1 : Nat) : Int) rfl rfl (by rw [w64 (by omega) (by omega)]; rfl)) ?_
        refine Jl.pv (PR.move rfl) ?_
        refine Jl.nil ?_
        refine Jq.again ⟨k + 1, hlt'⟩ (by simp only; omega) (by repeat (first | exact trivial | refine And.intro rfl ?_)) rfl (by repeat (first | exact trivial | refine And.intro (by repeat (first | exact Mem.here | apply Mem.there)) ?_))
      · refine Jl.pv (PR.not rfl) ?_
        refine Jl.nil ?_
        refine Jq.thenN ?_
        refine Jc.condT rfl ?_
        refine Jc.ret ?_
        refine Jq.blkR ?_
        refine Jq.thenR ?_
        refine Jq.thenR ?_
        refine Jq.blkR ?_
        exact Jq.itStop (.inl rfl) hlt' (by repeat (first | exact Mem.here | apply Mem.there))
  · try replace hlt := of_decide_eq_false hlt
    refine Jc.exit ?_
    refine Jq.thenX ?_
    refine Jq.thenX ?_
    refine Jq.blkX ?_
    rw [show k = r.l.length by omega]; exact Jq.itDone (.inr rfl) (by repeat (first | exact Mem.here | apply Mem.there))
theorem right_ct (r : Rc) (x : AdC) (m : Nat → AdC) (hn : r.l.length ≤ 1000000) : Ct Tryd.prog 16 [r.v x] [] [.rd x.1 (i64s r.l), .many m] (fun _ : Unit => .bool r.ok) (fun _ => []) (fun _ => []) := by
  obtain ⟨A, cA⟩ := x
  have hno : okLen r.k.toNat r.l.length = false → r.ok = false := fun h => by rw [Rc.ok, h]; rfl
  obtain ⟨k, hk⟩ : ∃ k, k = r.k.toNat := ⟨_, rfl⟩
  rw [← hk] at hno
  by_cases h17 : 17 ≤ k
  · rw [hno (by rw [Bool.eq_false_iff, ne_eq, okLen_iff]; omega)]
    refine Ct.of _ Tryd.func16 Tryd.ntmps16 rfl rfl (fun X W => ?_)
    refine Jc.seq ?_
    refine Jc.region ?_
    refine Jl.box rfl (by rfl) ?_
    intro b1
    refine Jl.alloc tze4 ?_
    intro b2
    refine Jl.nil ?_
    refine Jq.thenN ?_
    refine Jc.seq ?_
    refine Jc.seq ?_
    refine Jc.drawn [0, 1, 3, 7, 15, 31, 63, 127, 255, 511, 1023, 2047, 4095, 8191, 2047, 18431, 51199, 116735, 247807, 509951, 1048575, 2097151, 4194303, 8388607, 16777215, 33554431, 8388607, 75497471, 209715199, 478150655, 1015021567, 2088763391, 4294967295, 8589934591] ([(0, false), (1, false), (2, false), (3, false), (4, false), (5, false), (6, false), (7, false), (8, false), (9, false), (10, false), (11, false), (12, false), (13, false), (14, false), (15, false), (16, false), (17, false), (18, false), (19, false), (20, false), (21, false), (22, false), (23, false), (24, false), (25, false), (26, false), (27, false), (28, false), (29, false), (30, false), (31, false), (32, false), (33, false)], []) [] tmx (by kernel_rfl) ?_
    refine Dh.JH.nil ?_
    refine Dh.JB.pv rfl trivial (fun _ => PR.fieldAddr rfl tfl24_0) ?_
    refine Dh.JB.rd [.blk _ _ _] rfl trivial (by repeat (first | exact Take.nil | apply Take.cons (by repeat (first | exact Del.here | apply Del.there)))) (fun _ => PR.load1 rfl tsh5 Has.here (by rfl)) ?_
    refine Dh.JB.pv rfl trivial (fun _ => PR.geq true rfl rfl (by simp; omega)) ?_
    refine Dh.JB.pv rfl trivial (fun _ => PR.move rfl) ?_
    refine Dh.JB.off rfl ⟨_, rfl, .inr rfl⟩ ?_
    refine Dh.JB.off rfl ⟨_, rfl, .inr rfl⟩ ?_
    refine Dh.JB.off rfl ⟨_, rfl, .inr rfl⟩ ?_
    refine Dh.JB.off rfl ⟨_, rfl, .inr rfl⟩ ?_
    refine Dh.JB.off rfl ⟨_, rfl, .inr rfl⟩ ?_
    refine Dh.JB.pv rfl trivial (fun _ => PR.pickT rfl rfl) ?_
    refine Dh.JB.pv rfl trivial (fun _ => PR.move rfl) ?_
    refine Dh.JB.off rfl ⟨_, rfl, .inr rfl⟩ ?_
    refine Dh.JB.off rfl ⟨_, rfl, .inr rfl⟩ ?_
    refine Dh.JB.off rfl ⟨_, rfl, .inr rfl⟩ ?_
    refine Dh.JB.off rfl ⟨_, rfl, .inr rfl⟩ ?_
    refine Dh.JB.off rfl ⟨_, rfl, .inr rfl⟩ ?_
    refine Dh.JB.off rfl ⟨_, rfl, .inr rfl⟩ ?_
    refine Dh.JB.off rfl ⟨_, rfl, .inr rfl⟩ ?_
    refine Dh.JB.off rfl ⟨_, rfl, .inr rfl⟩ ?_
    refine Dh.JB.off rfl ⟨_, rfl, .inr rfl⟩ ?_
    refine Dh.JB.off rfl ⟨_, rfl, .inr rfl⟩ ?_
    refine Dh.JB.pv rfl trivial (fun _ => PR.pickT rfl rfl) ?_
    refine Dh.JB.pv rfl trivial (fun _ => PR.move rfl) ?_
    refine Dh.JB.off rfl ⟨_, rfl, .inr rfl⟩ ?_
    refine Dh.JB.off rfl ⟨_, rfl, .inr rfl⟩ ?_
    refine Dh.JB.off rfl ⟨_, rfl, .inr rfl⟩ ?_
    refine Dh.JB.off rfl ⟨_, rfl, .inr rfl⟩ ?_
    refine Dh.JB.off rfl ⟨_, rfl, .inr rfl⟩ ?_
    refine Dh.JB.off rfl ⟨_, rfl, .inr rfl⟩ ?_
    refine Dh.JB.off rfl ⟨_, rfl, .inr rfl⟩ ?_
    refine Dh.JB.off rfl ⟨_, rfl, .inr rfl⟩ ?_
    refine Dh.JB.off rfl ⟨_, rfl, .inr rfl⟩ ?_
    refine Dh.JB.off rfl ⟨_, rfl, .inr rfl⟩ ?_
    refine Dh.JB.pv rfl trivial (fun _ => PR.pickT rfl rfl) ?_
    refine Dh.JB.nil ?_
    refine Dh.JL.nil ?_
    refine Jq.thenN ?_
    refine Jc.condT rfl ?_
    refine Jc.seq ?_
    refine Jc.region ?_
    refine Jl.store1 rfl tsh4 rfl (by rfl) (by repeat (first | exact Swap.here | apply Swap.there)) (by rfl) ?_
    refine Jl.nil ?_
    refine Jq.thenN ?_
    refine Jc.ret ?_
    refine Jq.thenR ?_
    exact Jq.fin () (.inl rfl) rfl (RetVs.cell1 rfl (by repeat (first | exact Has.here | apply Has.there)) tsh4 (by rfl) RetVs.nil) rfl (by repeat (first | exact Take.nil | apply Take.cons (by repeat (first | exact Del.here | apply Del.there)))) (by repeat (first | exact trivial | refine And.intro (by repeat (first | exact Mem.here | apply Mem.there)) ?_))
  · by_cases h0 : k = 0
    · rw [hno (by rw [Bool.eq_false_iff, ne_eq, okLen_iff]; omega)]
      refine Ct.of _ Tryd.func16 Tryd.ntmps16 rfl rfl (fun X W => ?_)
      refine Jc.fact (.rd (some ⟨0, 0, none⟩) (manyV m)) (φ := .many m) (by repeat (first | exact Mem.here | apply Mem.there)) (fun X W h => h.1) ?_
      refine Jc.seq ?_
      refine Jc.region ?_
      refine Jl.box rfl (by rfl) ?_
      intro b1
      refine Jl.alloc tze4 ?_
      intro b2
      refine Jl.nil ?_
      refine Jq.thenN ?_
      refine Jc.seq ?_
      refine Jc.seq ?_
      refine Jc.drawn [0, 1, 3, 7, 15, 31, 63, 127, 255, 511, 1023, 2047, 4095, 8191, 2047, 18431, 51199, 116735, 247807, 509951, 1048575, 2097151, 4194303, 8388607, 16777215, 33554431, 8388607, 75497471, 209715199, 478150655, 1015021567, 2088763391, 4294967295, 8589934591] ([(0, false), (1, false), (2, false), (3, false), (4, false), (5, false), (6, false), (7, false), (8, false), (9, false), (10, false), (11, false), (12, false), (13, false), (14, false), (15, false), (16, false), (17, false), (18, false), (19, false), (20, false), (21, false), (22, false), (23, false), (24, false), (25, false), (26, false), (27, false), (28, false), (29, false), (30, false), (31, false), (32, false), (33, false)], []) [] tmx (by kernel_rfl) ?_
      refine Dh.JH.nil ?_
      refine Dh.JB.pv rfl trivial (fun _ => PR.fieldAddr rfl tfl24_0) ?_
      refine Dh.JB.rd [.blk _ _ _] rfl trivial (by repeat (first | exact Take.nil | apply Take.cons (by repeat (first | exact Del.here | apply Del.there)))) (fun _ => PR.load1 rfl tsh5 Has.here (by rfl)) ?_
      refine Dh.JB.pv rfl trivial (fun _ => PR.geq false rfl rfl (by simp; omega)) ?_
      refine Dh.JB.pv rfl trivial (fun _ => PR.move rfl) ?_
      refine Dh.JB.pv rfl ⟨_, rfl, rfl⟩ (fun _ => PR.fieldAddr rfl tfl24_0) ?_
      refine Dh.JB.rd [.blk _ _ _] rfl ⟨_, rfl, rfl⟩ (by repeat (first | exact Take.nil | apply Take.cons (by repeat (first | exact Del.here | apply Del.there)))) (fun _ => PR.load1 rfl tsh5 Has.here (by rfl)) ?_
      refine Dh.JB.pv rfl ⟨_, rfl, rfl⟩ (fun _ => PR.idxRA r.k.toNat rfl rfl tar47 rfl (by omega)) ?_
      refine Dh.JB.pv rfl ⟨_, rfl, rfl⟩ (fun _ => PR.loadR rfl tsh22 (by repeat (first | exact Mem.here | apply Mem.there)) ((many_at m (by omega)).trans (by rw [← hk, if_pos h0]))) ?_
      refine Dh.JB.pv rfl ⟨_, rfl, rfl⟩ (fun _ => PR.eqlNil true rfl tsl22 rfl) ?_
      refine Dh.JB.pv rfl trivial (fun _ => PR.pickF rfl rfl) ?_
      refine Dh.JB.pv rfl trivial (fun _ => PR.move rfl) ?_
      refine Dh.JB.off rfl ⟨_, rfl, .inr rfl⟩ ?_
      refine Dh.JB.off rfl ⟨_, rfl, .inr rfl⟩ ?_
      refine Dh.JB.off rfl ⟨_, rfl, .inr rfl⟩ ?_
      refine Dh.JB.off rfl ⟨_, rfl, .inr rfl⟩ ?_
      refine Dh.JB.off rfl ⟨_, rfl, .inr rfl⟩ ?_
      refine Dh.JB.off rfl ⟨_, rfl, .inr rfl⟩ ?_
      refine Dh.JB.off rfl ⟨_, rfl, .inr rfl⟩ ?_
      refine Dh.JB.off rfl ⟨_, rfl, .inr rfl⟩ ?_
      refine Dh.JB.off rfl ⟨_, rfl, .inr rfl⟩ ?_
      refine Dh.JB.off rfl ⟨_, rfl, .inr rfl⟩ ?_
      refine Dh.JB.pv rfl trivial (fun _ => PR.pickT rfl rfl) ?_
      refine Dh.JB.pv rfl trivial (fun _ => PR.move rfl) ?_
      refine Dh.JB.off rfl ⟨_, rfl, .inr rfl⟩ ?_
      refine Dh.JB.off rfl ⟨_, rfl, .inr rfl⟩ ?_
      refine Dh.JB.off rfl ⟨_, rfl, .inr rfl⟩ ?_
      refine Dh.JB.off rfl ⟨_, rfl, .inr rfl⟩ ?_
      refine Dh.JB.off rfl ⟨_, rfl, .inr rfl⟩ ?_
      refine Dh.JB.off rfl ⟨_, rfl, .inr rfl⟩ ?_
      refine Dh.JB.off rfl ⟨_, rfl, .inr rfl⟩ ?_
      refine Dh.JB.off rfl ⟨_, rfl, .inr rfl⟩ ?_
      refine Dh.JB.off rfl ⟨_, rfl, .inr rfl⟩ ?_
      refine Dh.JB.off rfl ⟨_, rfl, .inr rfl⟩ ?_
      refine Dh.JB.pv rfl trivial (fun _ => PR.pickT rfl rfl) ?_
      refine Dh.JB.nil ?_
      refine Dh.JL.nil ?_
      refine Jq.thenN ?_
      refine Jc.condT rfl ?_
      refine Jc.seq ?_
      refine Jc.region ?_
      refine Jl.store1 rfl tsh4 rfl (by rfl) (by repeat (first | exact Swap.here | apply Swap.there)) (by rfl) ?_
      refine Jl.nil ?_
      refine Jq.thenN ?_
      refine Jc.ret ?_
      refine Jq.thenR ?_
      exact Jq.fin () (.inl rfl) rfl (RetVs.cell1 rfl (by repeat (first | exact Has.here | apply Has.there)) tsh4 (by rfl) RetVs.nil) rfl (by repeat (first | exact Take.nil | apply Take.cons (by repeat (first | exact Del.here | apply Del.there)))) (by repeat (first | exact trivial | refine And.intro (by repeat (first | exact Mem.here | apply Mem.there)) ?_))
    · have hb := bnd_le (show k < 17 by omega)
      refine Ct.of _ Tryd.func16 Tryd.ntmps16 rfl rfl (fun X W => ?_)
      refine Jc.fact (.rd (some ⟨0, 0, none⟩) (manyV m)) (φ := .many m) (by repeat (first | exact Mem.here | apply Mem.there)) (fun X W h => h.1) ?_
      refine Jc.fact (.rd (m k).1 (bndV k)) (φ := .many m) (by repeat (first | exact Mem.here | apply Mem.there)) (fun X W h => h.2 k (by omega) (by omega)) ?_
      refine Jc.pure (p := (m k).1.isNone = false) (φ := .rd (m k).1 (bndV k)) (by repeat (first | exact Mem.here | apply Mem.there)) (fun X W h => ?_) fun hsome => ?_
      · cases hm : (m k).1 with
        | some a => rfl
        | none => rw [hm] at h; exact absurd (Fact.rd_none h) (by simp [bndV])
      refine Jc.seq ?_
      refine Jc.region ?_
      refine Jl.box rfl (by rfl) ?_
      intro b1
      refine Jl.alloc tze4 ?_
      intro b2
      refine Jl.nil ?_
      refine Jq.thenN ?_
      refine Jc.seq ?_
      refine Jc.seq ?_
      refine Jc.drawn [0, 1, 3, 7, 15, 31, 63, 127, 255, 511, 1023, 2047, 4095, 8191, 2047, 18431, 51199, 116735, 247807, 509951, 1048575, 2097151, 4194303, 8388607, 16777215, 33554431, 8388607, 75497471, 209715199, 478150655, 1015021567, 2088763391, 4294967295, 8589934591] ([(0, false), (1, false), (2, false), (3, false), (4, false), (5, false), (6, false), (7, false), (8, false), (9, false), (10, false), (11, false), (12, false), (13, false), (14, false), (15, false), (16, false), (17, false), (18, false), (19, false), (20, false), (21, false), (22, false), (23, false), (24, false), (25, false), (26, false), (27, false), (28, false), (29, false), (30, false), (31, false), (32, false), (33, false)], []) [] tmx (by kernel_rfl) ?_
      refine Dh.JH.nil ?_
      refine Dh.JB.pv rfl trivial (fun _ => PR.fieldAddr rfl tfl24_0) ?_
      refine Dh.JB.rd [.blk _ _ _] rfl trivial (by repeat (first | exact Take.nil | apply Take.cons (by repeat (first | exact Del.here | apply Del.there)))) (fun _ => PR.load1 rfl tsh5 Has.here (by rfl)) ?_
      refine Dh.JB.pv rfl trivial (fun _ => PR.geq false rfl rfl (by simp; omega)) ?_
      refine Dh.JB.pv rfl trivial (fun _ => PR.move rfl) ?_
      refine Dh.JB.pv rfl ⟨_, rfl, rfl⟩ (fun _ => PR.fieldAddr rfl tfl24_0) ?_
      refine Dh.JB.rd [.blk _ _ _] rfl ⟨_, rfl, rfl⟩ (by repeat (first | exact Take.nil | apply Take.cons (by repeat (first | exact Del.here | apply Del.there)))) (fun _ => PR.load1 rfl tsh5 Has.here (by rfl)) ?_
      refine Dh.JB.pv rfl ⟨_, rfl, rfl⟩ (fun _ => PR.idxRA r.k.toNat rfl rfl tar47 rfl (by omega)) ?_
      refine Dh.JB.pv rfl ⟨_, rfl, rfl⟩ (fun _ => PR.loadR rfl tsh22 (by repeat (first | exact Mem.here | apply Mem.there)) ((many_at m (by omega)).trans (by rw [← hk, if_neg h0]))) ?_
      refine Dh.JB.pv rfl ⟨_, rfl, rfl⟩ (fun _ => PR.eqlNil false rfl tsl22 hsome) ?_
      refine Dh.JB.pv rfl trivial (fun _ => PR.pickF rfl rfl) ?_
      refine Dh.JB.pv rfl trivial (fun _ => PR.move rfl) ?_
      refine Dh.JB.pv rfl ⟨_, rfl, rfl⟩ (fun _ => PR.fieldAddr rfl tfl24_1) ?_
      refine Dh.JB.rd [.blk _ _ _] rfl ⟨_, rfl, rfl⟩ (by repeat (first | exact Take.nil | apply Take.cons (by repeat (first | exact Del.here | apply Del.there)))) (fun _ => PR.load1 rfl tsh22 Has.here (by rfl)) ?_
      refine Dh.JB.pv rfl ⟨_, rfl, rfl⟩ (fun _ => PR.len rfl tsl22) ?_
      refine Dh.JB.pv rfl ⟨_, rfl, rfl⟩ (fun _ => PR.fieldAddr rfl tfl24_0) ?_
      refine Dh.JB.rd [.blk _ _ _] rfl ⟨_, rfl, rfl⟩ (by repeat (first | exact Take.nil | apply Take.cons (by repeat (first | exact Del.here | apply Del.there)))) (fun _ => PR.load1 rfl tsh5 Has.here (by rfl)) ?_
      refine Dh.JB.pv rfl ⟨_, rfl, rfl⟩ (fun _ => PR.idxRA r.k.toNat rfl rfl tar47 rfl (by omega)) ?_
      refine Dh.JB.pv rfl ⟨_, rfl, rfl⟩ (fun _ => PR.loadR rfl tsh22 (by repeat (first | exact Mem.here | apply Mem.there)) ((many_at m (by omega)).trans (by rw [← hk, if_neg h0]))) ?_
      refine Dh.JB.pv rfl ⟨_, rfl, rfl⟩ (fun _ => PR.idx1 0 rfl rfl tsl22 (by repeat (first | exact Mem.here | apply Mem.there)) (by simp [bndV]) rfl (by omega)) ?_
      refine Dh.JB.pv rfl ⟨_, rfl, rfl⟩ (fun _ => PR.loadR rfl tsh3 (by repeat (first | exact Mem.here | apply Mem.there)) rfl) ?_
      refine Dh.JB.pv rfl ⟨_, rfl, rfl⟩ (fun _ => PR.lss _ rfl rfl rfl) ?_
      refine Dh.JB.pv rfl trivial (fun _ => PR.pickF rfl rfl) ?_
      refine Dh.JB.pv rfl trivial (fun _ => PR.move rfl) ?_
      refine Dh.JB.bsplit (fun g26 => ?_) (fun g26 => ?_)
      · try replace g26 := of_decide_eq_true g26
        have hro : r.ok = false := hno (by rw [Bool.eq_false_iff, ne_eq, okLen_iff]; omega)
        refine Dh.JB.off rfl ⟨_, rfl, .inr rfl⟩ ?_
        refine Dh.JB.off rfl ⟨_, rfl, .inr rfl⟩ ?_
        refine Dh.JB.off rfl ⟨_, rfl, .inr rfl⟩ ?_
        refine Dh.JB.off rfl ⟨_, rfl, .inr rfl⟩ ?_
        refine Dh.JB.off rfl ⟨_, rfl, .inr rfl⟩ ?_
        refine Dh.JB.off rfl ⟨_, rfl, .inr rfl⟩ ?_
        refine Dh.JB.off rfl ⟨_, rfl, .inr rfl⟩ ?_
        refine Dh.JB.off rfl ⟨_, rfl, .inr rfl⟩ ?_
        refine Dh.JB.off rfl ⟨_, rfl, .inr rfl⟩ ?_
        refine Dh.JB.off rfl ⟨_, rfl, .inr rfl⟩ ?_
        refine Dh.JB.pv rfl trivial (fun _ => PR.pickT rfl rfl) ?_
        refine Dh.JB.nil ?_
        refine Dh.JL.nil ?_
        refine Jq.thenN ?_
        refine Jc.condT rfl ?_
        refine Jc.seq ?_
        refine Jc.region ?_
        refine Jl.store1 rfl tsh4 rfl (by rfl) (by repeat (first | exact Swap.here | apply Swap.there)) (by rfl) ?_
        refine Jl.nil ?_
        refine Jq.thenN ?_
        refine Jc.ret ?_
        refine Jq.thenR ?_
        exact Jq.fin () (.inl rfl) rfl (RetVs.cell1 rfl (by repeat (first | exact Has.here | apply Has.there)) tsh4 (by rfl) RetVs.nil) (by rw [hro]; rfl) (by repeat (first | exact Take.nil | apply Take.cons (by repeat (first | exact Del.here | apply Del.there)))) (by repeat (first | exact trivial | refine And.intro (by repeat (first | exact Mem.here | apply Mem.there)) ?_))
      · try replace g26 := of_decide_eq_false g26
        refine Dh.JB.pv rfl ⟨_, rfl, rfl⟩ (fun _ => PR.fieldAddr rfl tfl24_1) ?_
        refine Dh.JB.rd [.blk _ _ _] rfl ⟨_, rfl, rfl⟩ (by repeat (first | exact Take.nil | apply Take.cons (by repeat (first | exact Del.here | apply Del.there)))) (fun _ => PR.load1 rfl tsh22 Has.here (by rfl)) ?_
        refine Dh.JB.pv rfl ⟨_, rfl, rfl⟩ (fun _ => PR.len rfl tsl22) ?_
        refine Dh.JB.pv rfl ⟨_, rfl, rfl⟩ (fun _ => PR.fieldAddr rfl tfl24_0) ?_
        refine Dh.JB.rd [.blk _ _ _] rfl ⟨_, rfl, rfl⟩ (by repeat (first | exact Take.nil | apply Take.cons (by repeat (first | exact Del.here | apply Del.there)))) (fun _ => PR.load1 rfl tsh5 Has.here (by rfl)) ?_
        refine Dh.JB.pv rfl ⟨_, rfl, rfl⟩ (fun _ => PR.idxRA r.k.toNat rfl rfl tar47 rfl (by omega)) ?_
        refine Dh.JB.pv rfl ⟨_, rfl, rfl⟩ (fun _ => PR.loadR rfl tsh22 (by repeat (first | exact Mem.here | apply Mem.there)) ((many_at m (by omega)).trans (by rw [← hk, if_neg h0]))) ?_
        refine Dh.JB.pv rfl ⟨_, rfl, rfl⟩ (fun _ => PR.idx1 1 rfl rfl tsl22 (by repeat (first | exact Mem.here | apply Mem.there)) (by simp [bndV]) rfl (by omega)) ?_
        refine Dh.JB.pv rfl ⟨_, rfl, rfl⟩ (fun _ => PR.loadR rfl tsh3 (by repeat (first | exact Mem.here | apply Mem.there)) rfl) ?_
        refine Dh.JB.pv rfl ⟨_, rfl, rfl⟩ (fun _ => PR.gtr _ rfl rfl rfl) ?_
        refine Dh.JB.pv rfl trivial (fun _ => PR.pickF rfl rfl) ?_
        refine Dh.JB.nil ?_
        refine Dh.JL.nil ?_
        refine Jq.thenN ?_
        refine Jc.cond rfl (fun h1 => ?_) (fun h1 => ?_)
        · try replace h1 := of_decide_eq_true h1
          have hro : r.ok = false := hno (by rw [Bool.eq_false_iff, ne_eq, okLen_iff]; omega)
          refine Jc.seq ?_
          refine Jc.region ?_
          refine Jl.store1 rfl tsh4 rfl (by rfl) (by repeat (first | exact Swap.here | apply Swap.there)) (by rfl) ?_
          refine Jl.nil ?_
          refine Jq.thenN ?_
          refine Jc.ret ?_
          refine Jq.thenR ?_
          exact Jq.fin () (.inl rfl) rfl (RetVs.cell1 rfl (by repeat (first | exact Has.here | apply Has.there)) tsh4 (by rfl) RetVs.nil) (by rw [hro]; rfl) (by repeat (first | exact Take.nil | apply Take.cons (by repeat (first | exact Del.here | apply Del.there)))) (by repeat (first | exact trivial | refine And.intro (by repeat (first | exact Mem.here | apply Mem.there)) ?_))
        · try replace h1 := of_decide_eq_false h1
          have hol : okLen r.k.toNat r.l.length = true := by rw [okLen_iff, ← hk]; omega
          refine Jc.skip ?_
          refine Jq.thenN ?_
          refine Jc.seq ?_
          refine Jc.seq ?_
          refine Jc.region ?_
          refine Jl.pv (PR.loadW rfl tsh24 (by repeat (first | exact Has.here | apply Has.there)) (by rfl)) ?_
          refine Jl.call (numbers_ct r (A, cA)) en30 (by rfl) (by repeat (first | exact Take.nil | apply Take.cons (by repeat (first | exact Del.here | apply Del.there)))) (by repeat (first | exact trivial | refine And.intro (by repeat (first | exact Mem.here | apply Mem.there)) ?_)) ?_
          rintro b39
          refine Jl.nil ?_
          refine Jq.thenN ?_
          refine Jc.block ?_
          refine Jc.range (σ := Unit) (τ := Unit) (Inv := fun k _ => ∀ j, j < k → fineN (r.l.getD j 0) = true) (Rs := fun _ => [.blk b2 4 [.bool false], .blk b1 24 (r.cs (A, cA))]) (Φs := fun _ => []) (InvX := fun e _ _ => e = .ret ∧ r.ok = false) (RsX := fun _ => [.blk b2 4 [.bool false], .blk b1 24 (r.cs (A, cA))]) (ΦsX := fun _ => []) (vals := nvals r.l) rfl en44 (numbers1_it r (A, cA) b39 hn) (by repeat (first | exact Take.nil | apply Take.cons (by repeat (first | exact Del.here | apply Del.there)))) (by repeat (first | exact trivial | refine And.intro (by repeat (first | exact Mem.here | apply Mem.there)) ?_)) (fun _ => rfl) rfl () (fun _ h => by omega) rfl (by repeat (first | exact trivial | refine And.intro (by repeat (first | exact Mem.here | apply Mem.there)) ?_)) ?_ ?_ ?_
          · rintro j ⟨⟩ hj hI l C1
            show Jc _ _ _ _ _ _ (psetL [40] [.bool (fineN (r.l.getD j 0))] _) [.blk b2 4 [.bool false], .blk b1 24 (r.cs (A, cA))] []
            refine Jc.region ?_
            refine Jl.pv (PR.assign rfl) ?_
            refine Jl.nil ?_
            refine Jq.assigned (fun C2 => ?_)
            refine Jc.block ?_
            refine Jc.seq ?_
            refine Jc.region ?_
            refine Jl.pv (PR.move rfl) ?_
            refine Jl.pv (PR.not rfl) ?_
            refine Jl.nil ?_
            refine Jq.thenN ?_
            refine Jc.cond rfl (fun h2 => ?_) (fun h2 => ?_)
            · try replace h2 := of_decide_eq_true h2
              replace h2 := not_true h2
              refine Jc.seq ?_
              refine Jc.region ?_
              refine Jl.store1 rfl tsh4 rfl (by rfl) (by repeat (first | exact Swap.here | apply Swap.there)) (by rfl) ?_
              refine Jl.nil ?_
              refine Jq.thenN ?_
              refine Jc.ret ?_
              refine Jq.blkR ?_
              exact Jq.nextR () ⟨rfl, by rw [Bool.eq_false_iff]; intro h; have := (Rc.ok_iff.1 h).2 (r.l.getD j 0) (by rw [getDE hj]; exact List.getElem_mem _); rw [h2] at this; cases this⟩ rfl (by repeat (first | exact trivial | refine And.intro (by repeat (first | exact Mem.here | apply Mem.there)) ?_))
            · try replace h2 := of_decide_eq_false h2
              replace h2 := not_false h2
              refine Jc.skip ?_
              refine Jq.blkN ?_
              exact Jq.next () (fun i hi => (Nat.lt_succ_iff_lt_or_eq.1 hi).elim (hI i) (fun e => by rw [e]; exact h2)) rfl (by repeat (first | exact trivial | refine And.intro (by repeat (first | exact Mem.here | apply Mem.there)) ?_))
          · rintro ⟨⟩ D0 hI
            have hro : r.ok = true := Rc.ok_iff.2 ⟨hol, fun n hn => by
              obtain ⟨j, hj, rfl⟩ := List.mem_iff_getElem.1 hn
              rw [← getDE hj]; exact hI j hj⟩
            refine Jq.blkN ?_
            refine Jq.thenN ?_
            refine Jc.seq ?_
            refine Jc.region ?_
            refine Jl.store1 rfl tsh4 rfl (by rfl) (by repeat (first | exact Swap.here | apply Swap.there)) (by rfl) ?_
            refine Jl.nil ?_
            refine Jq.thenN ?_
            refine Jc.ret ?_
            exact Jq.finM (Ds := [D0]) () (.inl rfl) rfl (by repeat (first | exact Take.nil | apply Take.cons (by repeat (first | exact Del.here | apply Del.there)))) (RetVs.cell1 rfl (by repeat (first | exact Has.here | apply Has.there)) tsh4 (by rfl) RetVs.nil) (by rw [hro]; rfl) (by repeat (first | exact Take.nil | apply Take.cons (by repeat (first | exact Del.here | apply Del.there)))) (by repeat (first | exact trivial | refine And.intro (by repeat (first | exact Mem.here | apply Mem.there)) ?_))
          · rintro e j t D0 hj ⟨rfl, hro⟩
            skip
            refine Jc.ret ?_
            refine Jq.blkR ?_
            refine Jq.thenR ?_
            exact Jq.finM (Ds := [D0]) () (.inl rfl) rfl (by repeat (first | exact Take.nil | apply Take.cons (by repeat (first | exact Del.here | apply Del.there)))) (RetVs.cell1 rfl (by repeat (first | exact Has.here | apply Has.there)) tsh4 (by rfl) RetVs.nil) (by rw [hro]; rfl) (by repeat (first | exact Take.nil | apply Take.cons (by repeat (first | exact Del.here | apply Del.there)))) (by repeat (first | exact trivial | refine And.intro (by repeat (first | exact Mem.here | apply Mem.there)) ?_))
theorem of_ct (k : UInt8) (A : Option Addr) (c : Nat) (l : List Int) (hn : l.length ≤ 1000000) : Ct Tryd.prog 23 [.int .u8 k.toNat, .slice A l.length c] [] [.rd A (i64s l)] (⟨k, l⟩ : Rc).v (fun x => [(⟨k, l⟩ : Rc).row x]) (fun _ => []) := by
  refine Ct.of _ Tryd.func23 Tryd.ntmps23 rfl rfl (fun X W => ?_)
  refine Jc.seq ?_
  refine Jc.region ?_
  refine Jl.alloc tze24 ?_
  intro b4
  refine Jl.nil ?_
  refine Jq.thenN ?_
  refine Jc.seq ?_
  refine Jc.region ?_
  refine Jl.pv (PR.move rfl) ?_
  refine Jl.pv (PR.move rfl) ?_
  refine Jl.call (iclone_ct A c l (by omega)) en35 (by rfl) (by repeat (first | exact Take.nil | apply Take.cons (by repeat (first | exact Del.here | apply Del.there)))) (by repeat (first | exact trivial | refine And.intro (by repeat (first | exact Mem.here | apply Mem.there)) ?_)) ?_
  rintro ⟨A7, c7⟩
  refine Jl.pv (PR.build (by rfl) tze24 tpl24_0_1 (by rfl)) ?_
  refine Jl.storeW rfl tsh24 rfl (by rfl) (by simp [Value.oneCell']) (by repeat (first | exact Swap.here | apply Swap.there)) (by rfl) ?_
  refine Jl.nil ?_
  refine Jq.thenN ?_
  refine Jc.ret ?_
  exact Jq.fin (A7, c7) (.inl rfl) rfl (RetVs.cellA rfl (by repeat (first | exact Has.here | apply Has.there)) tsh24 (by rfl) RetVs.nil) rfl (by repeat (first | exact Take.nil | apply Take.cons (by repeat (first | exact Del.here | apply Del.there)))) (by repeat (first | exact trivial | refine And.intro (by repeat (first | exact Mem.here | apply Mem.there)) ?_))
theorem same1_ct (a b : Rc) (x y : AdC) (hn : a.l.length ≤ 1000000) : Ct Tryd.prog 20 [a.v x, b.v y] [] [.rd x.1 (i64s a.l), .rd y.1 (i64s b.l)] (fun _ : Unit => .bool (sameR a b)) (fun _ => []) (fun _ => []) := by
  refine Ct.of _ Tryd.func20 Tryd.ntmps20 rfl rfl (fun X W => ?_)
  refine Jc.seq ?_
  refine Jc.region ?_
  refine Jl.box rfl (by rfl) ?_
  intro b2
  refine Jl.box rfl (by rfl) ?_
  intro b3
  refine Jl.pv (PR.assign rfl) ?_
  refine Jl.nil ?_
  refine Jq.thenN ?_
  refine Jc.seq ?_
  refine Jc.region ?_
  refine Jl.pv (PR.fieldAddr rfl tfl24_0) ?_
  refine Jl.pv (PR.load1 rfl tsh5 (by repeat (first | exact Has.here | apply Has.there)) (by rfl)) ?_
  refine Jl.pv (PR.fieldAddr rfl tfl24_0) ?_
  refine Jl.pv (PR.load1 rfl tsh5 (by repeat (first | exact Has.here | apply Has.there)) (by rfl)) ?_
  refine Jl.pv (PR.eql _ rfl rfl rfl) ?_
  refine Jl.pv (PR.move rfl) ?_
  refine Jl.bsplit (fun g10 => ?_) (fun g10 => ?_)
  · try replace g10 := of_decide_eq_true g10
    replace g10 := u8_eq.1 g10
    refine Jl.on rfl rfl ?_
    refine Jl.pv (PR.fieldAddr rfl tfl24_1) ?_
    refine Jl.on rfl rfl ?_
    refine Jl.pv (PR.load1 rfl tsh22 (by repeat (first | exact Has.here | apply Has.there)) (by rfl)) ?_
    refine Jl.on rfl rfl ?_
    refine Jl.pv (PR.fieldAddr rfl tfl24_1) ?_
    refine Jl.on rfl rfl ?_
    refine Jl.pv (PR.load1 rfl tsh22 (by repeat (first | exact Has.here | apply Has.there)) (by rfl)) ?_
    refine Jl.on rfl rfl ?_
    refine Jl.call (iequal_ct x.1 y.1 x.2 y.2 a.l b.l hn) en32 (by rfl) (by repeat (first | exact Take.nil | apply Take.cons (by repeat (first | exact Del.here | apply Del.there)))) (by repeat (first | exact trivial | refine And.intro (by repeat (first | exact Mem.here | apply Mem.there)) ?_)) ?_
    rintro ⟨⟩
    refine Jl.pv (PR.pickT rfl rfl) ?_
    refine Jl.pv (PR.assign rfl) ?_
    refine Jl.nil ?_
    refine Jq.thenN ?_
    refine Jc.ret ?_
    exact Jq.fin () (.inl rfl) rfl (RetVs.tmp rfl RetVs.nil) (by simp [retval, sameR, g10]) (by repeat (first | exact Take.nil | apply Take.cons (by repeat (first | exact Del.here | apply Del.there)))) (by repeat (first | exact trivial | refine And.intro (by repeat (first | exact Mem.here | apply Mem.there)) ?_))
  · try replace g10 := of_decide_eq_false g10
    replace g10 := fun h => g10 (u8_eq.2 h)
    refine Jl.offS rfl rfl rfl ?_
    refine Jl.offS rfl rfl rfl ?_
    refine Jl.offS rfl rfl rfl ?_
    refine Jl.offS rfl rfl rfl ?_
    refine Jl.offS rfl rfl rfl ?_
    refine Jl.pv (PR.pickF rfl rfl) ?_
    refine Jl.pv (PR.assign rfl) ?_
    refine Jl.nil ?_
    refine Jq.thenN ?_
    refine Jc.ret ?_
    exact Jq.fin () (.inl rfl) rfl (RetVs.tmp rfl RetVs.nil) (by simp [retval, sameR, show ¬ a.k = b.k from g10]) (by repeat (first | exact Take.nil | apply Take.cons (by repeat (first | exact Del.here | apply Del.there)))) (by repeat (first | exact trivial | refine And.intro (by repeat (first | exact Mem.here | apply Mem.there)) ?_))
theorem put1_ct (r : Rc) (x : AdC) (m : Nat → AdC) (hn : r.l.length ≤ 1000000) : Ct Tryd.prog 11 [r.v x] [] [.rd x.1 (i64s r.l), .many m] (fun x : AdC => .tuple #[.slice x.1 r.bytes.length x.2, .int .i64 r.putE]) (fun x => [.row 5 1 (.slice x.1 r.bytes.length x.2) r.bytes.length (u8s r.bytes)]) (fun _ => []) := by
  obtain ⟨A, cA⟩ := x
  by_cases hok : r.ok = true
  · have e1 : r.bytes = rowsB r.nums := if_pos hok
    have e2 : r.putE = 0 := if_pos hok
    have hl := Rc.ok_len hok
    have hro := rc_rowOk hok
    rw [e1, e2]
    refine Ct.of _ Tryd.func11 Tryd.ntmps11 rfl rfl (fun X W => ?_)
    refine Jc.seq ?_
    refine Jc.region ?_
    refine Jl.box rfl (by rfl) ?_
    intro b1
    refine Jl.pv (PR.assign rfl) ?_
    refine Jl.pv (PR.assign rfl) ?_
    refine Jl.nil ?_
    refine Jq.thenN ?_
    refine Jc.seq ?_
    refine Jc.seq ?_
    refine Jc.region ?_
    refine Jl.pv (PR.loadW rfl tsh24 (by repeat (first | exact Has.here | apply Has.there)) (by rfl)) ?_
    refine Jl.call (right_ct r (A, cA) m hn) en16 (by rfl) (by repeat (first | exact Take.nil | apply Take.cons (by repeat (first | exact Del.here | apply Del.there)))) (by repeat (first | exact trivial | refine And.intro (by repeat (first | exact Mem.here | apply Mem.there)) ?_)) ?_
    rintro ⟨⟩
    refine Jl.as (.bool true) (congrArg Value.bool hok) ?_
    refine Jl.pv (PR.not rfl) ?_
    refine Jl.nil ?_
    refine Jq.thenN ?_
    refine Jc.condF rfl ?_
    refine Jc.skip ?_
    refine Jq.thenN ?_
    refine Jc.seq ?_
    refine Jc.region ?_
    refine Jl.pv (PR.fieldAddr rfl tfl24_0) ?_
    refine Jl.pv (PR.load1 rfl tsh5 (by repeat (first | exact Has.here | apply Has.there)) (by rfl)) ?_
    refine Jl.pv (PR.conv ((r.k.toNat : Nat) : Int) rfl Tryd.underlying5 Tryd.underlying3 (w64 (by omega) (by omega))) ?_
    refine Jl.buildSlice (by rfl) tsl22 tzr22_1 (by rfl) (by rfl) ?_
    intro b10
    refine Jl.pv (PR.fieldAddr rfl tfl24_1) ?_
    refine Jl.pv (PR.load1 rfl tsh22 (by repeat (first | exact Has.here | apply Has.there)) (by rfl)) ?_
    refine Jl.seal (by repeat (first | exact Del.here | apply Del.there)) ?_
    refine Jl.buildSlice (by rfl) tsl62 tzr62_2 (by rfl) (by rfl) ?_
    intro b13
    refine Jl.seal (by repeat (first | exact Del.here | apply Del.there)) ?_
    refine Jl.slNil ?_
    refine Jl.slCons ((A, cA), r.l.length, i64s r.l) (by repeat (first | exact Mem.here | apply Mem.there)) (by repeat (first | exact Mem.here | apply Mem.there)) ?_
    refine Jl.slCons ((some ⟨b10, 0, none⟩, 1), 1, i64s [((r.k.toNat : Nat) : Int)]) (by repeat (first | exact Mem.here | apply Mem.there)) (by repeat (first | exact Mem.here | apply Mem.there)) ?_
    refine Jl.call (iconcat_at (l := r.nums) [((some ⟨b10, 0, none⟩, 1), 1, i64s [((r.k.toNat : Nat) : Int)]), ((A, cA), r.l.length, i64s r.l)] (by simp) (by simp [sumS]; omega) (by simp) (by simp [i64s, Value.oneCell']) rfl (by simp [flatS, Rc.nums]) (by simp [sumS, Rc.nums]; omega)) en26 (by rfl) (by repeat (first | exact Take.nil | apply Take.cons (by repeat (first | exact Del.here | apply Del.there)))) (by repeat (first | exact trivial | refine And.intro (by repeat (first | exact Mem.here | apply Mem.there)) ?_)) ?_
    rintro ⟨A14, c14⟩
    refine Jl.sealR (by repeat (first | exact Del.here | apply Del.there)) ?_
    refine Jl.call (row_at (l := r.nums) (m := rowsB r.nums) (r := 0) (by simp [Rc.nums]; omega) (if_pos hro) (if_pos hro)) en25 (by rfl) (by repeat (first | exact Take.nil | apply Take.cons (by repeat (first | exact Del.here | apply Del.there)))) (by repeat (first | exact trivial | refine And.intro (by repeat (first | exact Mem.here | apply Mem.there)) ?_)) ?_
    rintro ⟨A15, c15⟩
    refine Jl.pv (PR.extract rfl (by rfl)) ?_
    refine Jl.pv (PR.extract rfl (by rfl)) ?_
    refine Jl.pv (PR.assign rfl) ?_
    refine Jl.pv (PR.assign rfl) ?_
    refine Jl.nil ?_
    refine Jq.thenN ?_
    refine Jc.ret ?_
    exact Jq.fin (A15, c15) (.inl rfl) rfl (RetVs.tmp rfl (RetVs.tmp rfl RetVs.nil)) rfl (by repeat (first | exact Take.nil | apply Take.cons (by repeat (first | exact Del.here | apply Del.there)))) (by repeat (first | exact trivial | refine And.intro (by repeat (first | exact Mem.here | apply Mem.there)) ?_))
  · have e1 : r.bytes = [] := if_neg hok
    have e2 : r.putE = 2 := if_neg hok
    rw [e1, e2]
    refine Ct.of _ Tryd.func11 Tryd.ntmps11 rfl rfl (fun X W => ?_)
    refine Jc.seq ?_
    refine Jc.region ?_
    refine Jl.box rfl (by rfl) ?_
    intro b1
    refine Jl.pv (PR.assign rfl) ?_
    refine Jl.pv (PR.assign rfl) ?_
    refine Jl.nil ?_
    refine Jq.thenN ?_
    refine Jc.seq ?_
    refine Jc.seq ?_
    refine Jc.region ?_
    refine Jl.pv (PR.loadW rfl tsh24 (by repeat (first | exact Has.here | apply Has.there)) (by rfl)) ?_
    refine Jl.call (right_ct r (A, cA) m hn) en16 (by rfl) (by repeat (first | exact Take.nil | apply Take.cons (by repeat (first | exact Del.here | apply Del.there)))) (by repeat (first | exact trivial | refine And.intro (by repeat (first | exact Mem.here | apply Mem.there)) ?_)) ?_
    rintro ⟨⟩
    refine Jl.as (.bool false) (congrArg Value.bool (by simpa using hok)) ?_
    refine Jl.pv (PR.not rfl) ?_
    refine Jl.nil ?_
    refine Jq.thenN ?_
    refine Jc.condT rfl ?_
    refine Jc.seq ?_
    refine Jc.region ?_
    refine Jl.pv (PR.assign rfl) ?_
    refine Jl.pv (PR.assign rfl) ?_
    refine Jl.nil ?_
    refine Jq.thenN ?_
    refine Jc.ret ?_
    refine Jq.thenR ?_
    refine Jq.nilRow 5 1 ?_
    exact Jq.fin (none, 0) (.inl rfl) rfl (RetVs.tmp rfl (RetVs.tmp rfl RetVs.nil)) rfl (by repeat (first | exact Take.nil | apply Take.cons (by repeat (first | exact Del.here | apply Del.there)))) (by repeat (first | exact trivial | refine And.intro (by repeat (first | exact Mem.here | apply Mem.there)) ?_))
theorem rc_one (r : Rc) (x : AdC) : ∀ u ∈ r.cs x, u.oneCell' = true := by simp [Rc.cs, Value.oneCell']
theorem natI_at {l : List Nat} {k : Nat} (h : k < l.length) : (natI l)[k]? = some (.int .i64 ((l.getD k 0 : Nat) : Int)) := by rw [List.getD_eq_getElem?_getD, List.getElem?_eq_getElem h]; simp [natI, h]
theorem natI_drop (l : List Nat) : ((natI l).drop (1 * 1)).take ((((l.drop 1).map Int.ofNat).length) * 1) = i64s ((l.drop 1).map Int.ofNat) := by
  rw [List.take_of_length_le (by simp [natI])]
  rw [natI, i64s, ← List.map_drop, List.map_map, Nat.mul_one]; rfl
theorem takeRow_40 (b : List UInt8) : (takeRowN b).1.length ≤ 40 := by
  by_cases h : (takeRowN b).2.2 = 0
  · have h1 := takeRow_only (b := b) (l := (takeRowN b).1) (r := (takeRowN b).2.1) (by rw [← h])
    have := (rowOk_fine h1.1).1
    simpa using this
  · rw [(takeRow_bad h).1]; simp
theorem take1_ct (A : Option Addr) (cA : Nat) (b : List UInt8) (m : Nat → AdC) (hn : b.length ≤ 1000000) (hc : b.length ≤ cA) : Ct Tryd.prog 13 [.slice A b.length cA] [] [.rd A (u8s b), .many m] (fun x : AdC => .tuple #[(rcOf b).v x, .int .i64 (rcE b)]) (fun x => [(rcOf b).row x]) (fun _ => []) := by
  obtain ⟨tl, tr, te, ht⟩ : ∃ tl tr te, takeRowN b = (tl, tr, te) := ⟨_, _, _, rfl⟩
  have htr : Ct Tryd.prog 28 [.slice A b.length cA] [] [.rd A (u8s b)] (fun x : OA × OA => .tuple #[.slice x.1.1 tl.length x.1.2, .slice x.2.1 tr.length x.2.2, .int .i64 te]) (fun x => [.row 3 1 (.slice x.1.1 tl.length x.1.2) tl.length (natI tl)]) (fun x => [.rd x.2.1 (u8s tr), .is (tr.length ≤ x.2.2)]) := by
    have h0 := takeRow_ct A cA b hn hc
    rw [ht] at h0
    exact h0
  have htl : tl.length ≤ 40 := by have := takeRow_40 b; rw [ht] at this; exact this
  have hgd : rcGood (takeRowN b) = ((decide (te = 0) && decide (tr.length = 0)) && ((decide (0 < tl.length) && decide (tl.getD 0 0 < 17)) && (rcRaw tl).ok)) := by rw [ht]; rfl
  have hno : rcGood (takeRowN b) = false → rcOf b = Rc.zero ∧ rcE b = 11 := fun h => ⟨if_neg (by rw [h]; simp), if_neg (by rw [h]; simp)⟩
  have hye : rcGood (takeRowN b) = true → rcOf b = rcRaw tl ∧ rcE b = 0 := fun h => ⟨by rw [rcOf, if_pos h, ht], if_pos h⟩
  refine Ct.of _ Tryd.func13 Tryd.ntmps13 rfl rfl (fun X W => ?_)
  refine Jc.seq ?_
  refine Jc.region ?_
  refine Jl.alloc tze24 ?_
  intro b2
  refine Jl.pv (PR.assign rfl) ?_
  refine Jl.nil ?_
  refine Jq.thenN ?_
  refine Jc.scope (σ := { _u : Unit // rcGood (takeRowN b) = false } × Rc × AdC) (fun _ => [(2, .pointer (some ⟨b2, 0, none⟩))]) (fun s => [.blk b2 24 (s.2.1.cs s.2.2)]) (fun _ => []) (fun _ => 0) (l := 0) rfl ?_ ?_
  · rintro ⟨⟨_, hbad⟩, r0, x0⟩
    refine Jc.seq ?_
    refine Jc.region ?_
    refine Jl.pv (PR.build (by rfl) tze24 tpl24_ (by rfl)) ?_
    refine Jl.storeW rfl tsh24 rfl (by rfl) (by first | exact rc_one _ _ | simp [Value.oneCell']) (by repeat (first | exact Swap.here | apply Swap.there)) (by rfl) ?_
    refine Jl.pv (PR.assign rfl) ?_
    refine Jl.nil ?_
    refine Jq.thenN ?_
    refine Jc.ret ?_
    refine Jq.jmpR ?_
    rw [(hno hbad).1, (hno hbad).2]
    refine Jq.nilRow 3 1 ?_
    exact Jq.fin (none, 0) (.inl rfl) rfl (RetVs.cellA rfl (by repeat (first | exact Has.here | apply Has.there)) tsh24 (by rfl) (RetVs.tmp rfl RetVs.nil)) rfl (by repeat (first | exact Take.nil | apply Take.cons (by repeat (first | exact Del.here | apply Del.there)))) (by repeat (first | exact trivial | refine And.intro (by repeat (first | exact Mem.here | apply Mem.there)) ?_))
  · intro hfirst0
    refine Jc.seq ?_
    refine Jc.region ?_
    refine Jl.pv (PR.move rfl) ?_
    refine Jl.call htr en28 (by rfl) (by repeat (first | exact Take.nil | apply Take.cons (by repeat (first | exact Del.here | apply Del.there)))) (by repeat (first | exact trivial | refine And.intro (by repeat (first | exact Mem.here | apply Mem.there)) ?_)) ?_
    rintro ⟨⟨A9, c9⟩, ⟨B9, d9⟩⟩
    refine Jl.sealC (by repeat (first | exact Del.here | apply Del.there)) (fun hc9 => ?_)
    refine Jl.pv (PR.move rfl) ?_
    refine Jl.pv (PR.extract rfl (by rfl)) ?_
    refine Jl.pv (PR.extract rfl (by rfl)) ?_
    refine Jl.pv (PR.extract rfl (by rfl)) ?_
    refine Jl.pv (PR.assign rfl) ?_
    refine Jl.pv (PR.assign rfl) ?_
    refine Jl.pv (PR.assign rfl) ?_
    refine Jl.nil ?_
    refine Jq.thenN ?_
    refine Jc.seq ?_
    refine Jc.seq ?_
    refine Jc.region ?_
    refine Jl.pv (PR.move rfl) ?_
    refine Jl.pv (PR.neq _ rfl rfl rfl) ?_
    refine Jl.pv (PR.move rfl) ?_
    refine Jl.bsplit (fun g15 => ?_) (fun g15 => ?_)
    · try replace g15 := of_decide_eq_true g15
      have hbad : rcGood (takeRowN b) = false := by rw [hgd, decide_eq_false (by omega)]; rfl
      refine Jl.offS rfl rfl rfl ?_
      refine Jl.offS rfl rfl rfl ?_
      refine Jl.offS rfl rfl rfl ?_
      refine Jl.pv (PR.pickT rfl rfl) ?_
      refine Jl.pv (PR.move rfl) ?_
      refine Jl.offS rfl rfl rfl ?_
      refine Jl.offS rfl rfl rfl ?_
      refine Jl.offS rfl rfl rfl ?_
      refine Jl.pv (PR.pickT rfl rfl) ?_
      refine Jl.pv (PR.move rfl) ?_
      refine Jl.offS rfl rfl rfl ?_
      refine Jl.offS rfl rfl rfl ?_
      refine Jl.offS rfl rfl rfl ?_
      refine Jl.offS rfl rfl rfl ?_
      refine Jl.pv (PR.pickT rfl rfl) ?_
      refine Jl.nil ?_
      refine Jq.thenN ?_
      refine Jc.condT rfl ?_
      refine Jc.goto ?_
      refine Jq.thenG ?_
      refine Jq.lessR (rs := [.blk b2 24 (Rc.zero.cs (none, 0))]) (by repeat (first | exact Take.nil | apply Take.cons (by repeat (first | exact Del.here | apply Del.there)))) ?_
      exact Jq.jmpA (⟨(), hbad⟩, Rc.zero, (none, 0)) (by repeat (first | exact trivial | refine And.intro rfl ?_)) rfl trivial
    · try replace g15 := of_decide_eq_false g15
      refine Jl.on rfl rfl ?_
      refine Jl.pv (PR.move rfl) ?_
      refine Jl.on rfl rfl ?_
      refine Jl.pv (PR.len rfl tsl26) ?_
      refine Jl.on rfl rfl ?_
      refine Jl.pv (PR.gtr _ rfl rfl rfl) ?_
      refine Jl.pv (PR.pickF rfl rfl) ?_
      refine Jl.pv (PR.move rfl) ?_
      refine Jl.bsplit (fun g20 => ?_) (fun g20 => ?_)
      · try replace g20 := of_decide_eq_true g20
        have hbad : rcGood (takeRowN b) = false := by rw [hgd, decide_eq_false (p := tr.length = 0) (by omega), Bool.and_false]; rfl
        refine Jl.offS rfl rfl rfl ?_
        refine Jl.offS rfl rfl rfl ?_
        refine Jl.offS rfl rfl rfl ?_
        refine Jl.pv (PR.pickT rfl rfl) ?_
        refine Jl.pv (PR.move rfl) ?_
        refine Jl.offS rfl rfl rfl ?_
        refine Jl.offS rfl rfl rfl ?_
        refine Jl.offS rfl rfl rfl ?_
        refine Jl.offS rfl rfl rfl ?_
        refine Jl.pv (PR.pickT rfl rfl) ?_
        refine Jl.nil ?_
        refine Jq.thenN ?_
        refine Jc.condT rfl ?_
        refine Jc.goto ?_
        refine Jq.thenG ?_
        refine Jq.lessR (rs := [.blk b2 24 (Rc.zero.cs (none, 0))]) (by repeat (first | exact Take.nil | apply Take.cons (by repeat (first | exact Del.here | apply Del.there)))) ?_
        exact Jq.jmpA (⟨(), hbad⟩, Rc.zero, (none, 0)) (by repeat (first | exact trivial | refine And.intro rfl ?_)) rfl trivial
      · try replace g20 := of_decide_eq_false g20
        refine Jl.on rfl rfl ?_
        refine Jl.pv (PR.move rfl) ?_
        refine Jl.on rfl rfl ?_
        refine Jl.pv (PR.len rfl tsl22) ?_
        refine Jl.on rfl rfl ?_
        refine Jl.pv (PR.eql _ rfl rfl rfl) ?_
        refine Jl.pv (PR.pickF rfl rfl) ?_
        refine Jl.pv (PR.move rfl) ?_
        refine Jl.bsplit (fun g25 => ?_) (fun g25 => ?_)
        · try replace g25 := of_decide_eq_true g25
          have hbad : rcGood (takeRowN b) = false := by rw [hgd, decide_eq_false (p := 0 < tl.length) (by omega), Bool.false_and, Bool.false_and, Bool.and_false]
          refine Jl.offS rfl rfl rfl ?_
          refine Jl.offS rfl rfl rfl ?_
          refine Jl.offS rfl rfl rfl ?_
          refine Jl.offS rfl rfl rfl ?_
          refine Jl.pv (PR.pickT rfl rfl) ?_
          refine Jl.nil ?_
          refine Jq.thenN ?_
          refine Jc.condT rfl ?_
          refine Jc.goto ?_
          refine Jq.thenG ?_
          refine Jq.lessR (rs := [.blk b2 24 (Rc.zero.cs (none, 0))]) (by repeat (first | exact Take.nil | apply Take.cons (by repeat (first | exact Del.here | apply Del.there)))) ?_
          exact Jq.jmpA (⟨(), hbad⟩, Rc.zero, (none, 0)) (by repeat (first | exact trivial | refine And.intro rfl ?_)) rfl trivial
        · try replace g25 := of_decide_eq_false g25
          have hlt : 0 < tl.length := by omega
          refine Jl.on rfl rfl ?_
          refine Jl.pv (PR.move rfl) ?_
          refine Jl.on rfl rfl ?_
          refine Jl.pv (PR.idx1 0 rfl rfl tsl22 (by repeat (first | exact Mem.here | apply Mem.there)) (by simp [natI]) rfl hlt) ?_
          refine Jl.on rfl rfl ?_
          refine Jl.pv (PR.loadR rfl tsh3 (by repeat (first | exact Mem.here | apply Mem.there)) (natI_at hlt)) ?_
          refine Jl.on rfl rfl ?_
          refine Jl.pv (PR.geq _ rfl rfl rfl) ?_
          refine Jl.pv (PR.pickF rfl rfl) ?_
          refine Jl.nil ?_
          refine Jq.thenN ?_
          refine Jc.cond rfl (fun h0 => ?_) (fun h0 => ?_)
          · try replace h0 := of_decide_eq_true h0
            have hbad : rcGood (takeRowN b) = false := by rw [hgd, decide_eq_false (p := tl.getD 0 0 < 17) (by omega), Bool.and_false, Bool.false_and, Bool.and_false]
            refine Jc.goto ?_
            refine Jq.thenG ?_
            refine Jq.lessR (rs := [.blk b2 24 (Rc.zero.cs (none, 0))]) (by repeat (first | exact Take.nil | apply Take.cons (by repeat (first | exact Del.here | apply Del.there)))) ?_
            exact Jq.jmpA (⟨(), hbad⟩, Rc.zero, (none, 0)) (by repeat (first | exact trivial | refine And.intro rfl ?_)) rfl trivial
          · try replace h0 := of_decide_eq_false h0
            have h17 : tl.getD 0 0 < 17 := by omega
            have hgd2 : rcGood (takeRowN b) = (rcRaw tl).ok := by rw [hgd, decide_eq_true (by omega), decide_eq_true (p := tr.length = 0) (by omega), decide_eq_true hlt, decide_eq_true h17]; rfl
            refine Jc.skip ?_
            refine Jq.thenN ?_
            refine Jc.seq ?_
            refine Jc.seq ?_
            refine Jc.drawn [0, 1, 3, 7, 0, 16, 63, 127] ([], []) [⟨[(0, false), (1, false), (2, false), (3, false), (4, false), (5, false)], [], 6⟩, ⟨[], [], 7⟩] tmx (by kernel_rfl) ?_
            refine Dh.JH.cons ?_
            refine Dh.JB.pv rfl trivial (fun _ => PR.move rfl) ?_
            refine Dh.JB.pv rfl trivial (fun _ => PR.idx1 0 rfl rfl tsl22 (by repeat (first | exact Mem.here | apply Mem.there)) (by simp [natI]) rfl hlt) ?_
            refine Dh.JB.pv rfl trivial (fun _ => PR.loadR rfl tsh3 (by repeat (first | exact Mem.here | apply Mem.there)) (natI_at hlt)) ?_
            refine Dh.JB.pv rfl trivial (fun _ => PR.conv (((UInt8.ofNat (tl.getD 0 0)).toNat : Nat) : Int) rfl Tryd.underlying3 Tryd.underlying5 (by rw [IntKind.wrap_u8, u8_of (by omega)]; omega)) ?_
            refine Dh.JB.pv rfl trivial (fun _ => PR.move rfl) ?_
            refine Dh.JB.slice 1 tl.length (((tl.drop 1).map Int.ofNat).length) (i64s ((tl.drop 1).map Int.ofNat)) rfl trivial rfl tsl22 rfl rfl (by repeat (first | exact Mem.here | apply Mem.there)) (by omega) (Nat.le_refl _) hc9 (by simp) (natI_drop tl) ?_
            intro A36 c36 hc36
            clear hc36
            refine Dh.JB.nil ?_
            refine Dh.JL.nil ?_
            refine Dh.JE.mk rfl (fun _ h => by cases h) (fun C3_6 => ?_)
            refine Jl.call (of_ct (UInt8.ofNat (tl.getD 0 0)) A36 c36 ((tl.drop 1).map Int.ofNat) (by simp; omega)) en23 (by rfl) (by repeat (first | exact Take.nil | apply Take.cons (by repeat (first | exact Del.here | apply Del.there)))) (by repeat (first | exact trivial | refine And.intro (by repeat (first | exact Mem.here | apply Mem.there)) ?_)) ?_
            rintro ⟨A37, c37⟩
            refine Jl.nil ?_
            refine Dh.Jq.segV (by repeat (first | exact Dh.FExt.refl | apply Dh.FExt.cons | apply Dh.FExt.app)) ?_ (by repeat (first | exact Dh.KeepL.nil | apply Dh.KeepL.anc (by rfl) | apply Dh.KeepL.keep (by repeat (first | exact Take.nil | apply Take.cons (by repeat (first | exact Del.here | apply Del.there))))))
            refine Dh.JH.cons ?_
            refine Dh.JB.nil ?_
            refine Dh.JL.nil ?_
            refine Dh.JE.mk rfl (fun _ h => by cases h) (fun C3_7 => ?_)
            refine Jl.storeW rfl tsh24 rfl (by rfl) (by first | exact rc_one _ _ | simp [Value.oneCell']) (by repeat (first | exact Swap.here | apply Swap.there)) (by rfl) ?_
            refine Jl.nil ?_
            refine Dh.Jq.segN (by repeat (first | exact Dh.FExt.refl | apply Dh.FExt.cons | apply Dh.FExt.app)) ?_ (by repeat (first | exact Dh.KeepL.nil | apply Dh.KeepL.anc (by rfl) | apply Dh.KeepL.keep (by repeat (first | exact Take.nil | apply Take.cons (by repeat (first | exact Del.here | apply Del.there))))))
            refine Dh.JH.nil ?_
            refine Dh.JB.nil ?_
            refine Dh.JL.nil ?_
            refine Jq.thenN ?_
            refine Jc.seq ?_
            refine Jc.region ?_
            refine Jl.pv (PR.loadW rfl tsh24 (by repeat (first | exact Has.here | apply Has.there)) (by rfl)) ?_
            refine Jl.calll (fs := []) (cs := []) (right_ct (rcRaw tl) (A37, c37) m (by simp [rcRaw]; omega)) en16 rfl (by rfl) (by rfl) (by repeat (first | exact Take.nil | apply Take.cons (by repeat (first | exact Del.here | apply Del.there)))) (ls := [(rcRaw tl).row (A37, c37)]) (by repeat (first | exact Take.nil | apply Take.cons (by repeat (first | exact Del.here | apply Del.there)))) (by repeat (first | exact Lends.nil | apply Lends.row | apply Lends.blk)) (by repeat (first | exact trivial | refine And.intro (by repeat (first | exact Mem.here | apply Mem.there)) ?_)) ?_
            rintro ⟨⟩
            refine Jl.nil ?_
            refine Jq.thenN ?_
            refine Jc.cond rfl (fun h1 => ?_) (fun h1 => ?_)
            · try replace h1 := of_decide_eq_true h1
              refine Jc.seq ?_
              refine Jc.region ?_
              refine Jl.pv (PR.loadW rfl tsh24 (by repeat (first | exact Has.here | apply Has.there)) (by rfl)) ?_
              refine Jl.storeW rfl tsh24 rfl (by rfl) (by first | exact rc_one _ _ | simp [Value.oneCell']) (by repeat (first | exact Swap.here | apply Swap.there)) (by rfl) ?_
              refine Jl.pv (PR.assign rfl) ?_
              refine Jl.nil ?_
              refine Jq.thenN ?_
              refine Jc.ret ?_
              refine Jq.thenR ?_
              refine Jq.jmpR ?_
              rw [(hye (hgd2.trans h1)).1, (hye (hgd2.trans h1)).2]
              exact Jq.fin (A37, c37) (.inl rfl) rfl (RetVs.cellA rfl (by repeat (first | exact Has.here | apply Has.there)) tsh24 (by rfl) (RetVs.tmp rfl RetVs.nil)) rfl (by repeat (first | exact Take.nil | apply Take.cons (by repeat (first | exact Del.here | apply Del.there)))) (by repeat (first | exact trivial | refine And.intro (by repeat (first | exact Mem.here | apply Mem.there)) ?_))
            · try replace h1 := of_decide_eq_false h1
              refine Jc.skip ?_
              refine Jq.thenN ?_
              refine Jc.seq ?_
              refine Jc.label ?_
              refine Jq.thenN ?_
              refine Jc.lessR (rs := [.blk b2 24 ((rcRaw tl).cs (A37, c37))]) (by repeat (first | exact Take.nil | apply Take.cons (by repeat (first | exact Del.here | apply Del.there)))) ?_
              exact Jc.at_ hfirst0 (⟨(), hgd2.trans h1⟩, rcRaw tl, (A37, c37)) (by repeat (first | exact trivial | refine And.intro rfl ?_)) rfl trivial
end Go.Proofs.YtljgaglbgkejhaaDoor
