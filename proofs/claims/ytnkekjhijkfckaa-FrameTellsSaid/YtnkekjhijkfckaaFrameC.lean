/-
Contracts of herd/frame: All; of the laws: same, rows, wakes.
-/
import Derived.Test.YtnkekjhijkfckaaFrameB
namespace Go.Proofs.Ytnkekjhijkfckaa
set_option linter.unusedVariables false
open Go.RowKit
attribute [local irreducible] Res.blk Res.row Fact.rd
/-- Slices of bytes, each with where it lies. -/
abbrev Zs := List (OA × List UInt8)
def slv (zs : Zs) : List Value := zs.map fun z => .slice z.1.1 z.2.length z.1.2
def Fact.rds (zs : Zs) : Fact := ⟨fun X W => ∀ z ∈ zs, (Fact.rd z.1.1 (u8s z.2)).p X W, fun X X' W W' h hf hx z hz => (Fact.rd z.1.1 (u8s z.2)).fr X X' W W' (h z hz) hf hx⟩
theorem rds_snoc {zs : Zs} {y : OA} {p : List UInt8} {X : Nat → Prop} {W : World} (h : (Fact.rds zs).p X W) (k : (Fact.rd y.1 (u8s p)).p X W) : (Fact.rds (zs ++ [(y, p)])).p X W := fun z hz => by
  rcases List.mem_append.1 hz with hz | hz
  · exact h z hz
  · obtain rfl : z = (y, p) := by simpa using hz
    exact k
theorem Jl.fact2 {P : Program} {r : Option Nat} {C : Cx} {n : Nat × List Nat} {ops : Array Oper} {Q : Exit → Act → World → Prop} {rest : List Oper} {env : List (Nat × Value)} {R : List Res} {Φ : List Fact} {φ ψ : Fact} (χ : Fact) (hm : Mem φ Φ) (hm2 : Mem ψ Φ) (h : ∀ X W, φ.p X W → ψ.p X W → χ.p X W) (k : Jl P r C n ops Q rest env R (χ :: Φ)) : Jl P r C n ops Q rest env R Φ := fun a W h1 h2 => k a W h1 (h2.add (h _ _ (h2.fact hm) (h2.fact hm2)))
structure AS (b : List UInt8) where
  k : Nat
  zs : Zs
  A : Option Addr
  c : Nat
  hz : zs.map (·.2) = (allP b).take k
theorem AS.len {b : List UInt8} (s : AS b) (hk : s.k ≤ (framesN b).length) : s.zs.length = s.k := by
  have := congrArg List.length s.hz
  simp [allP] at this
  omega
theorem usedN_succ (b : List UInt8) (k : Nat) : usedN b (k + 1) = b.length - (frameAt b k).2.length := by simp [usedN]
theorem allP_take {b p r : List UInt8} {k : Nat} (h : frameAt b k = (p, r)) (hk : k < (framesN b).length) : (allP b).take (k + 1) = (allP b).take k ++ [p] := by
  have hl : k < (allP b).length := by simpa [allP] using hk
  rw [List.take_succ_eq_append_getElem hl]
  congr 1
  simp [allP]
  have : frameAt b k = (framesN b)[k] := by simp [frameAt, hk]
  rw [← this, h]
theorem frameAt_len {b : List UInt8} {k : Nat} (hk : k < (framesN b).length) : (frameAt b k).1.length ≤ 4000 ∧ (frameAt b k).2.length ≤ b.length := by
  have key : ∀ f b, ∀ z ∈ framesF f b, z.1.length ≤ 4000 ∧ z.2.length ≤ b.length := by
    intro f
    induction f with
    | zero => intro b z hz; simp [framesF] at hz
    | succ f ih =>
      intro b z hz
      unfold framesF at hz
      cases hc : cutF b with
      | none => rw [hc] at hz; simp at hz
      | some pr =>
        obtain ⟨p, r⟩ := pr
        rw [hc] at hz
        have h1 := cutF_len hc
        rcases List.mem_cons.1 hz with rfl | hz
        · simp only; omega
        · have := ih r z hz; omega
  have : frameAt b k = (framesN b)[k] := by simp [frameAt, hk]
  rw [this]
  exact key _ _ _ (List.getElem_mem hk)
theorem all_ct (A : Option Addr) (c : Nat) (b : List UInt8) (hn : b.length ≤ 1000000) (hc : b.length ≤ c) :
    Ct Try.prog 13 [.slice A b.length c] [] [.rd A (u8s b)] (fun x : { zs : Zs // zs.map (·.2) = allP b } × OA => .tuple #[.slice x.2.1 (framesN b).length x.2.2, .int .i64 (allU b)])
      (fun x => [.row 22 1 (.slice x.2.1 (framesN b).length x.2.2) (framesN b).length (slv x.1.1)]) (fun x => [.rds x.1.1]) := by
  have hfl := framesN_len b
  refine Ct.of _ Try.func13 Try.ntmps13 rfl rfl (fun X W => ?_)
  refine Jc.seq ?_
  refine Jc.region ?_
  refine Jl.alloc tze29 ?_
  intro b2
  refine Jl.alloc tze3 ?_
  intro b3
  refine Jl.nil ?_
  refine Jq.thenN ?_
  refine Jc.seq ?_
  refine Jc.seq ?_
  refine Jc.region ?_
  refine Jl.pv (PR.move rfl) ?_
  refine Jl.call (frames_ct A c b.length) en26 (by rfl) (by repeat (first | exact Take.nil | apply Take.cons (by repeat (first | exact Del.here | apply Del.there)))) (by repeat (first | exact trivial | refine And.intro (by repeat (first | exact Mem.here | apply Mem.there)) ?_)) ?_
  rintro b7
  refine Jl.nil ?_
  refine Jq.thenN ?_
  refine Jc.block ?_
  refine Jc.nilRow 22 1 ?_
  refine Jc.fact0 (.rds []) (fun X W => by intro z hz; simp at hz) ?_
  refine Jc.rangeY (σ := AS b) (τ := Empty) (Inv := fun k s => s.k = k) (Rs := fun s => [.row 22 1 (.slice s.A s.k s.c) s.k (slv s.zs), .blk b3 3 [.int .i64 (usedN b s.k : Nat)], .blk b2 29 [.slice s.A s.k s.c]]) (Φs := fun s => [.rds s.zs]) (InvX := fun _ _ _ => False) (RsX := fun _ => []) (ΦsX := fun _ => []) (vals := fvals b) (posts := fposts b) rfl en32 (frames1_it A c b hn hc b7) (by repeat (first | exact Take.nil | apply Take.cons (by repeat (first | exact Del.here | apply Del.there)))) (by repeat (first | exact trivial | refine And.intro (by repeat (first | exact Mem.here | apply Mem.there)) ?_)) (fun _ _ => rfl) rfl ⟨0, [], none, 0, rfl⟩ rfl (by simp [slv, usedN]) (by exact ⟨Mem.here, trivial⟩) ?_ ?_ ?_
  · rintro k ⟨j, zs, A', c', hz⟩ y hk hj l C1
    obtain rfl : k = j := hj.symm
    have hfa := frameAt_len hk
    have hzl : zs.length = k := AS.len ⟨k, zs, A', c', hz⟩ (by simp only; omega)
    obtain ⟨p, r, hpr⟩ : ∃ p r, frameAt b k = (p, r) := ⟨_, _, rfl⟩
    rw [hpr] at hfa
    simp only at hfa
    rw [show fvals b k y = [.int .i64 ((b.length : Int) - (r.length : Nat)), .slice y.1 p.length y.2] by rw [fvals, hpr], show fposts b k y = [.rd y.1 (u8s p)] by rw [fposts, hpr]]
    show Jc _ _ _ _ _ _ (psetL [8, 9] [.int .i64 ((b.length : Int) - (r.length : Nat)), .slice y.1 p.length y.2] _) [.row 22 1 (.slice A' k c') k (slv zs), .blk b3 3 [.int .i64 (usedN b k : Nat)], .blk b2 29 [.slice A' k c']] [.rd y.1 (u8s p), .rds zs]
    refine Jc.seq ?_
    refine Jc.region ?_
    refine Jl.pv (PR.assign rfl) ?_
    refine Jl.nil ?_
    refine Jq.thenN ?_
    refine Jc.region ?_
    refine Jl.pv (PR.assign rfl) ?_
    refine Jl.nil ?_
    refine Jq.assigned (fun C2 => ?_)
    refine Jc.block ?_
    refine Jc.drawn [0, 0, 0, 6, 14, 31, 0, 63, 255] ([], []) [⟨[(0, false), (1, true), (2, false), (6, false)], [1], 3⟩, ⟨[(4, true)], [4], 5⟩, ⟨[], [], 7⟩, ⟨[], [], 8⟩] tmx (by kernel_rfl) ?_
    refine Dh.JH.cons ?_
    refine Dh.JB.rd [.blk _ _ _] rfl trivial (by repeat (first | exact Take.nil | apply Take.cons (by repeat (first | exact Del.here | apply Del.there)))) (fun _ => PR.load1 rfl tsh29 Has.here (by rfl)) ?_
    refine Dh.JB.buildSlice rfl trivial (by rfl) tsl22 tzr22_0 (by rfl) (by rfl) ?_
    refine Dh.JB.pv rfl trivial (fun _ => PR.move rfl) ?_
    refine Dh.JB.pv rfl trivial (fun _ => PR.move rfl) ?_
    refine Dh.JB.nil ?_
    refine Dh.JL.sl rfl (by repeat (first | exact Dh.es_here | apply Dh.es_there)) (fun b11 => ?_)
    refine Dh.JL.nil ?_
    refine Dh.JE.mk rfl (fun _ h => by cases h) (fun C4_3 => ?_)
    refine Jl.toRow 1 0 (by repeat (first | exact Swap.here | apply Swap.there)) (by rfl) (by rfl) ?_
    refine Jl.append p.length (u8s p) rfl rfl rfl tsl22 tze5 (by rfl) (by decide) tby5 (fun _ _ => (by repeat (first | exact Swap.here | apply Swap.there))) (by repeat (first | exact Mem.here | apply Mem.there)) (by omega) rfl (by simp [u8s]) (u8s_one _) (by omega) (by decide) ?_
    intro A13 c13
    refine Jl.sealR (by repeat (first | exact Del.here | apply Del.there)) ?_
    refine Jl.fact2 (.rds (zs ++ [((A13, c13), p)])) (φ := .rds zs) (ψ := .rd A13 (u8s p)) (by repeat (first | exact Mem.here | apply Mem.there)) (by repeat (first | exact Mem.here | apply Mem.there)) (fun X W h1 h2 => rds_snoc h1 h2) ?_
    refine Jl.nil ?_
    refine Dh.Jq.segV (by repeat (first | exact Dh.FExt.refl | apply Dh.FExt.cons | apply Dh.FExt.app)) ?_ (by repeat (first | exact Dh.KeepL.nil | apply Dh.KeepL.anc (by rfl) | apply Dh.KeepL.keep (by repeat (first | exact Take.nil | apply Take.cons (by repeat (first | exact Del.here | apply Del.there))))))
    refine Dh.JH.cons ?_
    refine Dh.JB.buildSlice rfl trivial (by rfl) tsl29 tzr29_1 (by rfl) (by rfl) ?_
    refine Dh.JB.nil ?_
    refine Dh.JL.sl rfl (by repeat (first | exact Dh.es_here | apply Dh.es_there)) (fun b14 => ?_)
    refine Dh.JL.nil ?_
    refine Dh.JE.mk rfl (fun _ h => by cases h) (fun C4_5 => ?_)
    refine Jl.seal (by repeat (first | exact Del.here | apply Del.there)) ?_
    refine Jl.append (k + 1) (slv (zs ++ [((A13, c13), p)])) rfl rfl rfl tsl29 tze22 (by rfl) (by decide) tby22 (fun _ _ => (by repeat (first | exact Swap.here | apply Swap.there))) (by repeat (first | exact Mem.here | apply Mem.there)) rfl (by simp [slv]) (by rfl) (by simp [Value.oneCell']) (by omega) (by decide) ?_
    intro A15 c15
    refine Jl.nil ?_
    refine Dh.Jq.segV (by repeat (first | exact Dh.FExt.refl | apply Dh.FExt.cons | apply Dh.FExt.app)) ?_ (by repeat (first | exact Dh.KeepL.nil | apply Dh.KeepL.anc (by rfl) | apply Dh.KeepL.keep (by repeat (first | exact Take.nil | apply Take.cons (by repeat (first | exact Del.here | apply Del.there))))))
    refine Dh.JH.cons ?_
    refine Dh.JB.nil ?_
    refine Dh.JL.nil ?_
    refine Dh.JE.mk rfl (fun _ h => by cases h) (fun C4_7 => ?_)
    refine Jl.store1 rfl tsh29 rfl (by rfl) (by repeat (first | exact Swap.here | apply Swap.there)) (by rfl) ?_
    refine Jl.nil ?_
    refine Dh.Jq.segN (by repeat (first | exact Dh.FExt.refl | apply Dh.FExt.cons | apply Dh.FExt.app)) ?_ (by repeat (first | exact Dh.KeepL.nil | apply Dh.KeepL.anc (by rfl) | apply Dh.KeepL.keep (by repeat (first | exact Take.nil | apply Take.cons (by repeat (first | exact Del.here | apply Del.there))))))
    refine Dh.JH.cons ?_
    refine Dh.JB.nil ?_
    refine Dh.JL.nil ?_
    refine Dh.JE.mk rfl (fun _ h => by cases h) (fun C4_8 => ?_)
    refine Jl.store1 rfl tsh3 rfl (by rfl) (by repeat (first | exact Swap.here | apply Swap.there)) (by rfl) ?_
    refine Jl.nil ?_
    refine Dh.Jq.segN (by repeat (first | exact Dh.FExt.refl | apply Dh.FExt.cons | apply Dh.FExt.app)) ?_ (by repeat (first | exact Dh.KeepL.nil | apply Dh.KeepL.anc (by rfl) | apply Dh.KeepL.keep (by repeat (first | exact Take.nil | apply Take.cons (by repeat (first | exact Del.here | apply Del.there))))))
    refine Dh.JH.nil ?_
    refine Dh.JB.nil ?_
    refine Dh.JL.nil ?_
    refine Jq.blkN ?_
    exact Jq.next ⟨k + 1, zs ++ [((A13, c13), p)], A15, c15, by rw [allP_take hpr hk, List.map_append, hz]; rfl⟩ rfl (by rw [usedN_succ, hpr, Int.ofNat_sub hfa.2]) (by exact ⟨(by repeat (first | exact Mem.here | apply Mem.there)), trivial⟩)
  · rintro ⟨j, zs, A', c', hz⟩ D0 hj
    obtain rfl : j = (framesN b).length := hj
    show Jq _ _ _ .normal _ [.mark D0, .row 22 1 (.slice A' (framesN b).length c') (framesN b).length (slv zs), .blk b3 3 [.int .i64 (usedN b (framesN b).length : Nat)], .blk b2 29 [.slice A' (framesN b).length c']] [.rds zs]
    have hz' : zs.map (·.2) = allP b := by rw [hz, List.take_of_length_le (by simp [allP])]
    refine Jq.blkN ?_
    refine Jq.thenN ?_
    refine Jc.seq ?_
    refine Jc.drawn [0, 0, 1, 7] ([], []) [⟨[(0, false), (1, false)], [], 2⟩, ⟨[], [], 3⟩] tmx (by kernel_rfl) ?_
    refine Dh.JH.cons ?_
    refine Dh.JB.rd [.blk _ _ _] rfl trivial (by repeat (first | exact Take.nil | apply Take.cons (by repeat (first | exact Del.here | apply Del.there)))) (fun _ => PR.load1 rfl tsh29 Has.here (by rfl)) ?_
    refine Dh.JB.rd [.blk _ _ _] rfl trivial (by repeat (first | exact Take.nil | apply Take.cons (by repeat (first | exact Del.here | apply Del.there)))) (fun _ => PR.load1 rfl tsh3 Has.here (by rfl)) ?_
    refine Dh.JB.nil ?_
    refine Dh.JL.nil ?_
    refine Dh.JE.mk rfl (fun _ h => by cases h) (fun C5_2 => ?_)
    refine Jl.store1 rfl tsh29 rfl (by rfl) (by repeat (first | exact Swap.here | apply Swap.there)) (by rfl) ?_
    refine Jl.nil ?_
    refine Dh.Jq.segN (by repeat (first | exact Dh.FExt.refl | apply Dh.FExt.cons | apply Dh.FExt.app)) ?_ (by repeat (first | exact Dh.KeepL.nil | apply Dh.KeepL.anc (by rfl) | apply Dh.KeepL.keep (by repeat (first | exact Take.nil | apply Take.cons (by repeat (first | exact Del.here | apply Del.there))))))
    refine Dh.JH.cons ?_
    refine Dh.JB.nil ?_
    refine Dh.JL.nil ?_
    refine Dh.JE.mk rfl (fun _ h => by cases h) (fun C5_3 => ?_)
    refine Jl.store1 rfl tsh3 rfl (by rfl) (by repeat (first | exact Swap.here | apply Swap.there)) (by rfl) ?_
    refine Jl.nil ?_
    refine Dh.Jq.segN (by repeat (first | exact Dh.FExt.refl | apply Dh.FExt.cons | apply Dh.FExt.app)) ?_ (by repeat (first | exact Dh.KeepL.nil | apply Dh.KeepL.anc (by rfl) | apply Dh.KeepL.keep (by repeat (first | exact Take.nil | apply Take.cons (by repeat (first | exact Del.here | apply Del.there))))))
    refine Dh.JH.nil ?_
    refine Dh.JB.nil ?_
    refine Dh.JL.nil ?_
    refine Jq.thenN ?_
    refine Jc.ret ?_
    exact Jq.finM (Ds := [D0]) (⟨zs, hz'⟩, (A', c')) (.inl rfl) rfl (by repeat (first | exact Take.nil | apply Take.cons (by repeat (first | exact Del.here | apply Del.there)))) (RetVs.cell1 rfl (by repeat (first | exact Has.here | apply Has.there)) tsh29 (by rfl) (RetVs.cell1 rfl (by repeat (first | exact Has.here | apply Has.there)) tsh3 (by rfl) RetVs.nil)) rfl (by repeat (first | exact Take.nil | apply Take.cons (by repeat (first | exact Del.here | apply Del.there)))) (by repeat (first | exact trivial | refine And.intro (by repeat (first | exact Mem.here | apply Mem.there)) ?_))
  · exact fun _ _ t => t.elim
end Go.Proofs.Ytnkekjhijkfckaa
