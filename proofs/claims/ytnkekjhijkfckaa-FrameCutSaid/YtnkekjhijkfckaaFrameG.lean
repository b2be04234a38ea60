/-
The law FrameBack.
-/
import Derived.Test.YtnkekjhijkfckaaFrameE
import Derived.Test.YtnkekjhijkfckaaFrameQ
namespace Go.Proofs.Ytnkekjhijkfckaa
open Go.RowKit
attribute [local irreducible] Res.blk Res.row Fact.rd
theorem framesB_len : ∀ {l : List (List UInt8)}, (∀ p ∈ l, p.length ≤ 60) → (framesB l).length ≤ 74 * l.length
  | [], _ => by simp [framesB]
  | p :: l, h => by
    have h1 := framesB_len (l := l) fun q hq => h q (List.mem_cons_of_mem _ hq)
    have h2 := h p (List.mem_cons_self ..)
    have h3 := putB_len (p.length : Int)
    have e : framesB (p :: l) = frameB p ++ framesB l := by simp [framesB]
    rw [e]
    simp only [List.length_append, frameB, List.length_cons]
    simp only [sumB, List.length_cons, List.length_nil]
    omega
theorem framesB_take {l : List (List UInt8)} {k : Nat} (h : k < l.length) : framesB (l.take (k + 1)) = framesB (l.take k) ++ frameB l[k] := by
  rw [List.take_succ_eq_append_getElem h]; unfold framesB; rw [List.flatMap_append]; simp
theorem frameB_len (p : List UInt8) : (frameB p).length = (putB p.length).length + p.length + 4 := by simp [frameB, sumB]; omega
theorem longF_eq (p : List UInt8) (h : p.length ≤ 4000) : longF p.length = ((frameB p).length : Nat) := by
  rw [longF, if_neg (by omega), frameB_len]; omega
/-- The first k payloads are small. -/
def small (zs : Zs) (k : Nat) : Prop := k ≤ zs.length ∧ ∀ p ∈ (pays zs).take k, p.length ≤ 60
theorem small_len {zs : Zs} {k : Nat} (h : small zs k) (h12 : zs.length ≤ 12) : (framesB ((pays zs).take k)).length ≤ 888 := by
  have h1 := framesB_len h.2
  have h2 : ((pays zs).take k).length ≤ 12 := by simp [pays]; omega
  omega
theorem small_next {zs : Zs} {k : Nat} (h : small zs k) (hk : k < zs.length) (hp : zs[k].2.length ≤ 60) : small zs (k + 1) := by
  refine ⟨hk, fun p hm => ?_⟩
  have hl : k < (pays zs).length := by simpa [pays] using hk
  rw [List.take_succ_eq_append_getElem hl] at hm
  rcases List.mem_append.1 hm with hm | hm
  · exact h.2 p hm
  · obtain rfl : p = (pays zs)[k] := by simpa using hm
    simpa [pays] using hp
theorem frames_step {zs : Zs} {k : Nat} (hk : k < zs.length) : framesB ((pays zs).take (k + 1)) = framesB ((pays zs).take k) ++ frameB zs[k].2 := by
  rw [framesB_take (by simpa [pays] using hk)]; simp [pays]
theorem takeF_put {p : List UInt8} (hp : p.length ≤ 4000) (q : List UInt8) : takeF (frameB p ++ q) = (p, q, 0) := by rw [takeF, cutF_put hp]
theorem frameBack_ct (A B : Option Addr) (c d : Nat) (zs : Zs) (bh : List UInt8) :
    Ct Try.prog 4 [.slice A zs.length c, .slice B bh.length d] [] [.rd A (slv zs), .rds zs, .rd B (u8s bh)] (fun _ : Unit => .bool true) (fun _ => []) (fun _ => []) := by
  refine Ct.of _ Try.func4 Try.ntmps4 rfl rfl (fun X W => ?_)
  refine Jc.seq ?_
  refine Jc.region ?_
  refine Jl.pv (PR.assign rfl) ?_
  refine Jl.nil ?_
  refine Jq.thenN ?_
  refine Jc.seq ?_
  refine Jc.seq ?_
  refine Jc.region ?_
  refine Jl.pv (PR.move rfl) ?_
  refine Jl.pv (PR.len rfl tsl29) ?_
  refine Jl.pv (PR.gtr _ rfl rfl rfl) ?_
  refine Jl.pv (PR.move rfl) ?_
  refine Jl.bsplit (fun g17 => ?_) (fun g17 => ?_)
  · try replace g17 := of_decide_eq_true g17
    refine Jl.off rfl rfl rfl rfl ?_
    refine Jl.off rfl rfl rfl rfl ?_
    refine Jl.off rfl rfl rfl rfl ?_
    refine Jl.pv (PR.pickT rfl rfl) ?_
    refine Jl.nil ?_
    refine Jq.thenN ?_
    refine Jc.condT rfl ?_
    refine Jc.seq ?_
    refine Jc.region ?_
    refine Jl.call fwakes_ct en8 (by rfl) (by repeat (first | exact Take.nil | apply Take.cons (by repeat (first | exact Del.here | apply Del.there)))) (by repeat (first | exact trivial | refine And.intro (by repeat (first | exact Mem.here | apply Mem.there)) ?_)) ?_
    rintro ⟨⟩
    refine Jl.pv (PR.assign rfl) ?_
    refine Jl.nil ?_
    refine Jq.thenN ?_
    refine Jc.ret ?_
    refine Jq.thenR ?_
    exact Jq.fin () (.inl rfl) rfl (RetVs.tmp rfl RetVs.nil) rfl (by repeat (first | exact Take.nil | apply Take.cons (by repeat (first | exact Del.here | apply Del.there)))) (by repeat (first | exact trivial | refine And.intro (by repeat (first | exact Mem.here | apply Mem.there)) ?_))
  · try replace g17 := of_decide_eq_false g17
    refine Jl.on rfl rfl ?_
    refine Jl.pv (PR.move rfl) ?_
    refine Jl.on rfl rfl ?_
    refine Jl.pv (PR.len rfl tsl22) ?_
    refine Jl.on rfl rfl ?_
    refine Jl.pv (PR.gtr _ rfl rfl rfl) ?_
    refine Jl.pv (PR.pickF rfl rfl) ?_
    refine Jl.nil ?_
    refine Jq.thenN ?_
    refine Jc.cond rfl (fun h0 => ?_) (fun h0 => ?_)
    · try replace h0 := of_decide_eq_true h0
      refine Jc.seq ?_
      refine Jc.region ?_
      refine Jl.call fwakes_ct en8 (by rfl) (by repeat (first | exact Take.nil | apply Take.cons (by repeat (first | exact Del.here | apply Del.there)))) (by repeat (first | exact trivial | refine And.intro (by repeat (first | exact Mem.here | apply Mem.there)) ?_)) ?_
      rintro ⟨⟩
      refine Jl.pv (PR.assign rfl) ?_
      refine Jl.nil ?_
      refine Jq.thenN ?_
      refine Jc.ret ?_
      refine Jq.thenR ?_
      exact Jq.fin () (.inl rfl) rfl (RetVs.tmp rfl RetVs.nil) rfl (by repeat (first | exact Take.nil | apply Take.cons (by repeat (first | exact Del.here | apply Del.there)))) (by repeat (first | exact trivial | refine And.intro (by repeat (first | exact Mem.here | apply Mem.there)) ?_))
    · try replace h0 := of_decide_eq_false h0
      refine Jc.skip ?_
      refine Jq.thenN ?_
      refine Jc.seq ?_
      refine Jc.region ?_
      refine Jl.pv (PR.assign rfl) ?_
      refine Jl.nil ?_
      refine Jq.thenN ?_
      refine Jc.seq ?_
      refine Jc.seq ?_
      refine Jc.region ?_
      refine Jl.pv (PR.assign rfl) ?_
      refine Jl.nil ?_
      refine Jq.thenN ?_
      refine Jc.block ?_
      refine Jc.nilRow 5 1 ?_
      refine Jc.loop (σ := { k : Nat // small zs k } × OA) (fun s => [(6, .int .i64 (s.1.1 : Int)), (0, .slice A zs.length c), (1, .slice B bh.length d), (5, .slice s.2.1 (framesB ((pays zs).take s.1.1)).length s.2.2)]) (fun s => rowU (framesB ((pays zs).take s.1.1)) s.2) (fun _ => [.rd A (slv zs), .rds zs, .rd B (u8s bh)]) (fun s => zs.length - s.1.1) (⟨0, Nat.zero_le _, fun p h => by simp at h⟩, (none, 0)) (by exact ⟨rfl, rfl, rfl, rfl, trivial⟩) rfl (by exact ⟨(by repeat (first | exact Mem.here | apply Mem.there)), (by repeat (first | exact Mem.here | apply Mem.there)), (by repeat (first | exact Mem.here | apply Mem.there)), trivial⟩) ?_
      rintro ⟨⟨k, hk⟩, A5, c5⟩
      have hsm := small_len hk (by omega)
      show Jc _ _ _ _ _ _ [(6, Value.int .i64 (k : Int)), (0, .slice A zs.length c), (1, .slice B bh.length d), (5, .slice A5 (framesB ((pays zs).take k)).length c5)] (rowU (framesB ((pays zs).take k)) (A5, c5)) [.rd A (slv zs), .rds zs, .rd B (u8s bh)]
      refine Jc.seq ?_
      refine Jc.seq ?_
      refine Jc.region ?_
      refine Jl.pv (PR.move rfl) ?_
      refine Jl.pv (PR.move rfl) ?_
      refine Jl.pv (PR.len rfl tsl29) ?_
      refine Jl.pv (PR.lss _ rfl rfl rfl) ?_
      refine Jl.nil ?_
      refine Jq.thenN ?_
      refine Jc.cond rfl (fun hlt => ?_) (fun hlt => ?_)
      · try replace hlt := of_decide_eq_true hlt
        have hlt' : k < zs.length := by omega
        refine Jc.skip ?_
        refine Jq.thenN ?_
        refine Jc.seq ?_
        refine Jc.block ?_
        refine Jc.seq ?_
        refine Jc.seq ?_
        refine Jc.rds1 (zs := zs) k hlt' (by repeat (first | exact Mem.here | apply Mem.there)) ?_
        obtain ⟨p, hp⟩ : ∃ p, zs[k].2 = p := ⟨_, rfl⟩
        have hgz : (slv zs)[k]? = some (.slice zs[k].1.1 p.length zs[k].1.2) := by rw [← hp]; exact getz hlt'
        rw [hp]
        refine Jc.region ?_
        refine Jl.pv (PR.move rfl) ?_
        refine Jl.pv (PR.move rfl) ?_
        refine Jl.pv (PR.idx1 k rfl rfl tsl29 (by repeat (first | exact Mem.here | apply Mem.there)) (by simp [slv]) rfl hlt') ?_
        refine Jl.pv (PR.loadR rfl tsh22 (by repeat (first | exact Mem.here | apply Mem.there)) hgz) ?_
        refine Jl.pv (PR.len rfl tsl22) ?_
        refine Jl.pv (PR.gtr _ rfl rfl rfl) ?_
        refine Jl.nil ?_
        refine Jq.thenN ?_
        refine Jc.cond rfl (fun h2 => ?_) (fun h2 => ?_)
        · try replace h2 := of_decide_eq_true h2
          refine Jc.seq ?_
          refine Jc.region ?_
          refine Jl.call fwakes_ct en8 (by rfl) (by repeat (first | exact Take.nil | apply Take.cons (by repeat (first | exact Del.here | apply Del.there)))) (by repeat (first | exact trivial | refine And.intro (by repeat (first | exact Mem.here | apply Mem.there)) ?_)) ?_
          rintro ⟨⟩
          refine Jl.pv (PR.assign rfl) ?_
          refine Jl.nil ?_
          refine Jq.thenN ?_
          refine Jc.ret ?_
          refine Jq.thenR ?_
          refine Jq.blkR ?_
          refine Jq.thenR ?_
          refine Jq.thenR ?_
          refine Jq.blkR ?_
          refine Jq.thenR ?_
          exact Jq.fin () (.inl rfl) rfl (RetVs.tmp rfl RetVs.nil) rfl (by repeat (first | exact Take.nil | apply Take.cons (by repeat (first | exact Del.here | apply Del.there)))) (by repeat (first | exact trivial | refine And.intro (by repeat (first | exact Mem.here | apply Mem.there)) ?_))
        · try replace h2 := of_decide_eq_false h2
          have hp60 : p.length ≤ 60 := by omega
          have hfl := frameB_len p
          have hpb := putB_len (p.length : Int)
          refine Jc.skip ?_
          refine Jq.thenN ?_
          refine Jc.seq ?_
          refine Jc.region ?_
          refine Jl.pv (PR.move rfl) ?_
          refine Jl.pv (PR.move rfl) ?_
          refine Jl.pv (PR.idx1 k rfl rfl tsl29 (by repeat (first | exact Mem.here | apply Mem.there)) (by simp [slv]) rfl hlt') ?_
          refine Jl.pv (PR.loadR rfl tsh22 (by repeat (first | exact Mem.here | apply Mem.there)) hgz) ?_
          refine Jl.call (fput_at (p := p) rfl (by omega) (if_pos (by omega)) (if_pos (by omega))) en9 (by rfl) (by repeat (first | exact Take.nil | apply Take.cons (by repeat (first | exact Del.here | apply Del.there)))) (by repeat (first | exact trivial | refine And.intro (by repeat (first | exact Mem.here | apply Mem.there)) ?_)) ?_
          rintro ⟨A41, c41⟩
          refine Jl.sealC (by repeat (first | exact Del.here | apply Del.there)) (fun hc41 => ?_)
          refine Jl.pv (PR.move rfl) ?_
          refine Jl.pv (PR.extract rfl (by rfl)) ?_
          refine Jl.pv (PR.extract rfl (by rfl)) ?_
          refine Jl.pv (PR.assign rfl) ?_
          refine Jl.pv (PR.assign rfl) ?_
          refine Jl.nil ?_
          refine Jq.thenN ?_
          refine Jc.seq ?_
          refine Jc.region ?_
          refine Jl.buildSlice (by rfl) tsl22 tzr22_0 (by rfl) (by rfl) ?_
          intro b45
          refine Jl.pv (PR.move rfl) ?_
          refine Jl.toRow 1 0 (by repeat (first | exact Swap.here | apply Swap.there)) (by rfl) (by rfl) ?_
          refine Jl.append (frameB p).length (u8s (frameB p)) rfl rfl rfl tsl22 tze5 (by rfl) (by decide) tby5 (fun _ _ => (by repeat (first | exact Swap.here | apply Swap.there))) (by repeat (first | exact Mem.here | apply Mem.there)) (by omega) rfl (by simp [u8s]) (u8s_one _) (by omega) (by decide) ?_
          intro A47 c47
          refine Jl.pv (PR.move rfl) ?_
          refine Jl.append (frameB p ++ bh).length (u8s (frameB p ++ bh)) rfl rfl rfl tsl22 tze5 (by rfl) (by decide) tby5 (fun _ _ => (by repeat (first | exact Swap.here | apply Swap.there))) (by repeat (first | exact Mem.here | apply Mem.there)) (by simp) (by simp [u8s]) (by simp [u8s]) (u8s_one _) (by omega) (by decide) ?_
          intro A49 c49
          refine Jl.sealC (by repeat (first | exact Del.here | apply Del.there)) (fun hc49 => ?_)
          refine Jl.call (ftake_at (b := frameB p ++ bh) (p := p) (r := bh) (e := 0) rfl (by simp; omega) hc49 (takeF_put (by omega) bh)) en11 (by rfl) (by repeat (first | exact Take.nil | apply Take.cons (by repeat (first | exact Del.here | apply Del.there)))) (by repeat (first | exact trivial | refine And.intro (by repeat (first | exact Mem.here | apply Mem.there)) ?_)) ?_
          rintro ⟨⟨A50, c50⟩, ⟨B50, d50⟩⟩
          refine Jl.sealC (by repeat (first | exact Del.here | apply Del.there)) (fun _ => ?_)
          refine Jl.sealC (by repeat (first | exact Del.here | apply Del.there)) (fun _ => ?_)
          refine Jl.pv (PR.move rfl) ?_
          refine Jl.pv (PR.extract rfl (by rfl)) ?_
          refine Jl.pv (PR.extract rfl (by rfl)) ?_
          refine Jl.pv (PR.extract rfl (by rfl)) ?_
          refine Jl.pv (PR.assign rfl) ?_
          refine Jl.pv (PR.assign rfl) ?_
          refine Jl.pv (PR.assign rfl) ?_
          refine Jl.nil ?_
          refine Jq.thenN ?_
          refine Jc.seq ?_
          refine Jc.seq ?_
          refine Jc.region ?_
          refine Jl.pv (PR.move rfl) ?_
          refine Jl.pv (PR.neq false rfl rfl rfl) ?_
          refine Jl.pv (PR.move rfl) ?_
          refine Jl.on rfl rfl ?_
          refine Jl.pv (PR.move rfl) ?_
          refine Jl.on rfl rfl ?_
          refine Jl.pv (PR.neq false rfl rfl rfl) ?_
          refine Jl.pv (PR.pickF rfl rfl) ?_
          refine Jl.pv (PR.move rfl) ?_
          refine Jl.on rfl rfl ?_
          refine Jl.pv (PR.move rfl) ?_
          refine Jl.on rfl rfl ?_
          refine Jl.pv (PR.move rfl) ?_
          refine Jl.on rfl rfl ?_
          refine Jl.pv (PR.move rfl) ?_
          refine Jl.on rfl rfl ?_
          refine Jl.pv (PR.idx1 k rfl rfl tsl29 (by repeat (first | exact Mem.here | apply Mem.there)) (by simp [slv]) rfl hlt') ?_
          refine Jl.on rfl rfl ?_
          refine Jl.pv (PR.loadR rfl tsh22 (by repeat (first | exact Mem.here | apply Mem.there)) hgz) ?_
          refine Jl.on rfl rfl ?_
          refine Jl.call (fsame_ct _ _ _ _ p p) en15 (by rfl) (by repeat (first | exact Take.nil | apply Take.cons (by repeat (first | exact Del.here | apply Del.there)))) (by repeat (first | exact trivial | refine And.intro (by repeat (first | exact Mem.here | apply Mem.there)) ?_)) ?_
          rintro ⟨⟩
          refine Jl.as (.bool true) (congrArg Value.bool (by simp)) ?_
          refine Jl.on rfl rfl ?_
          refine Jl.pv (PR.not rfl) ?_
          refine Jl.pv (PR.pickF rfl rfl) ?_
          refine Jl.pv (PR.move rfl) ?_
          refine Jl.on rfl rfl ?_
          refine Jl.pv (PR.move rfl) ?_
          refine Jl.on rfl rfl ?_
          refine Jl.pv (PR.move rfl) ?_
          refine Jl.on rfl rfl ?_
          refine Jl.call (fsame_ct _ _ _ _ bh bh) en15 (by rfl) (by repeat (first | exact Take.nil | apply Take.cons (by repeat (first | exact Del.here | apply Del.there)))) (by repeat (first | exact trivial | refine And.intro (by repeat (first | exact Mem.here | apply Mem.there)) ?_)) ?_
          rintro ⟨⟩
          refine Jl.as (.bool true) (congrArg Value.bool (by simp)) ?_
          refine Jl.on rfl rfl ?_
          refine Jl.pv (PR.not rfl) ?_
          refine Jl.pv (PR.pickF rfl rfl) ?_
          refine Jl.pv (PR.move rfl) ?_
          refine Jl.on rfl rfl ?_
          refine Jl.pv (PR.move rfl) ?_
          refine Jl.on rfl rfl ?_
          refine Jl.pv (PR.len rfl tsl22) ?_
          refine Jl.on rfl rfl ?_
          refine Jl.pv (PR.move rfl) ?_
          refine Jl.on rfl rfl ?_
          refine Jl.pv (PR.move rfl) ?_
          refine Jl.on rfl rfl ?_
          refine Jl.pv (PR.idx1 k rfl rfl tsl29 (by repeat (first | exact Mem.here | apply Mem.there)) (by simp [slv]) rfl hlt') ?_
          refine Jl.on rfl rfl ?_
          refine Jl.pv (PR.loadR rfl tsh22 (by repeat (first | exact Mem.here | apply Mem.there)) hgz) ?_
          refine Jl.on rfl rfl ?_
          refine Jl.pv (PR.len rfl tsl22) ?_
          refine Jl.on rfl rfl ?_
          refine Jl.call (flong_ct p.length) en19 (by rfl) (by repeat (first | exact Take.nil | apply Take.cons (by repeat (first | exact Del.here | apply Del.there)))) (by repeat (first | exact trivial | refine And.intro (by repeat (first | exact Mem.here | apply Mem.there)) ?_)) ?_
          rintro ⟨⟩
          refine Jl.on rfl rfl ?_
          refine Jl.pv (PR.neq false rfl rfl (decide_eq_false (by rw [longF_eq p (by omega)]; simp))) ?_
          refine Jl.pv (PR.pickF rfl rfl) ?_
          refine Jl.nil ?_
          refine Jq.thenN ?_
          refine Jc.condF rfl ?_
          refine Jc.skip ?_
          refine Jq.thenN ?_
          refine Jc.region ?_
          refine Jl.pv (PR.move rfl) ?_
          refine Jl.pv (PR.move rfl) ?_
          refine Jl.append (framesB ((pays zs).take (k + 1))).length (u8s (framesB ((pays zs).take (k + 1)))) rfl rfl rfl tsl22 tze5 (by rfl) (by decide) tby5 (fun _ _ => (by repeat (first | exact Swap.here | apply Swap.there))) (by repeat (first | exact Mem.here | apply Mem.there)) (by rw [frames_step hlt', hp, List.length_append]) (by rw [frames_step hlt', hp]; simp [u8s]) (by simp [u8s]) (u8s_one _) (by omega) (by decide) ?_
          intro A88 c88
          refine Jl.pv (PR.assign rfl) ?_
          refine Jl.nil ?_
          refine Jq.blkN ?_
          refine Jq.thenN ?_
          refine Jc.region ?_
          refine Jl.pv (PR.move rfl) ?_
          refine Jl.pv (PR.add ((k + 1 : Nat) : Int) rfl rfl (by rw [w64 (by omega) (by omega)]; rfl)) ?_
          refine Jl.pv (PR.assign rfl) ?_
          refine Jl.nil ?_
          refine Jq.again (⟨k + 1, small_next hk hlt' (by rw [hp]; exact hp60)⟩, (A88, c88)) (by simp only; omega) (by exact ⟨rfl, rfl, rfl, rfl, trivial⟩) rfl (by exact ⟨(by repeat (first | exact Mem.here | apply Mem.there)), (by repeat (first | exact Mem.here | apply Mem.there)), (by repeat (first | exact Mem.here | apply Mem.there)), trivial⟩)
      · try replace hlt := of_decide_eq_false hlt
        have hkl : k = zs.length := by have := hk.1; omega
        have hall : (pays zs).take k = pays zs := by rw [hkl, List.take_of_length_le (by simp [pays])]
        have hp60 : ∀ p ∈ pays zs, p.length ≤ 4000 := fun p hp => by have := hk.2 p (by rw [hall]; exact hp); omega
        rw [hall] at hsm ⊢
        refine Jc.exit ?_
        refine Jq.thenX ?_
        refine Jq.thenX ?_
        refine Jq.blkX ?_
        refine Jq.thenN ?_
        refine Jc.seq ?_
        refine Jc.region ?_
        refine Jl.pv (PR.move rfl) ?_
        refine Jl.sealC (by repeat (first | exact Del.here | apply Del.there)) (fun hc5 => ?_)
        refine Jl.call (all_at (b := framesB (pays zs)) (l := pays zs) (u := (framesB (pays zs)).length) rfl (by omega) hc5 (by have := (framesN_put [] hp60 cutF_nil).1; rwa [List.append_nil] at this) (by have := allU_put [] hp60 cutF_nil; rwa [List.append_nil] at this)) en13 (by rfl) (by repeat (first | exact Take.nil | apply Take.cons (by repeat (first | exact Del.here | apply Del.there)))) (by repeat (first | exact trivial | refine And.intro (by repeat (first | exact Mem.here | apply Mem.there)) ?_)) ?_
        rintro ⟨⟨zs91, hz91⟩, ⟨A91, c91⟩⟩
        refine Jl.sealR (by repeat (first | exact Del.here | apply Del.there)) ?_
        refine Jl.pv (PR.move rfl) ?_
        refine Jl.pv (PR.extract rfl (by rfl)) ?_
        refine Jl.pv (PR.extract rfl (by rfl)) ?_
        refine Jl.pv (PR.assign rfl) ?_
        refine Jl.pv (PR.assign rfl) ?_
        refine Jl.nil ?_
        refine Jq.thenN ?_
        refine Jc.seq ?_
        refine Jc.region ?_
        refine Jl.pv (PR.move rfl) ?_
        refine Jl.pv (PR.move rfl) ?_
        refine Jl.pv (PR.len rfl tsl22) ?_
        refine Jl.pv (PR.eql true rfl rfl (decide_eq_true rfl)) ?_
        refine Jl.pv (PR.move rfl) ?_
        refine Jl.on rfl rfl ?_
        refine Jl.pv (PR.move rfl) ?_
        refine Jl.on rfl rfl ?_
        refine Jl.pv (PR.move rfl) ?_
        have hzl : (pays zs).length = zs91.length := by rw [← hz91]; simp [pays]
        have hz12 : zs91.length ≤ 1000000 := by rw [← hzl]; simp [pays]; omega
        rw [hzl]
        refine Jl.on rfl rfl ?_
        refine Jl.call (rows_ct A91 A c91 c zs91 zs hz12) en16 (by rfl) (by repeat (first | exact Take.nil | apply Take.cons (by repeat (first | exact Del.here | apply Del.there)))) (by repeat (first | exact trivial | refine And.intro (by repeat (first | exact Mem.here | apply Mem.there)) ?_)) ?_
        rintro ⟨⟩
        refine Jl.as (.bool true) (congrArg Value.bool (by simp [hz91])) ?_
        refine Jl.pv (PR.pickT rfl rfl) ?_
        refine Jl.pv (PR.move rfl) ?_
        refine Jl.on rfl rfl ?_
        refine Jl.call fwakes_ct en8 (by rfl) (by repeat (first | exact Take.nil | apply Take.cons (by repeat (first | exact Del.here | apply Del.there)))) (by repeat (first | exact trivial | refine And.intro (by repeat (first | exact Mem.here | apply Mem.there)) ?_)) ?_
        rintro ⟨⟩
        refine Jl.pv (PR.pickT rfl rfl) ?_
        refine Jl.pv (PR.assign rfl) ?_
        refine Jl.nil ?_
        refine Jq.thenN ?_
        refine Jc.ret ?_
        exact Jq.fin () (.inl rfl) rfl (RetVs.tmp rfl RetVs.nil) rfl (by repeat (first | exact Take.nil | apply Take.cons (by repeat (first | exact Del.here | apply Del.there)))) (by repeat (first | exact trivial | refine And.intro (by repeat (first | exact Mem.here | apply Mem.there)) ?_))
end Go.Proofs.Ytnkekjhijkfckaa
