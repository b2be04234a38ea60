/-
Contracts of logs: scanned, Scan.
-/
import Derived.Test.YtcohgnagffibcaaDoorJz
import Derived.Test.YtcohgnagffibcaaDoorMr
import Derived.Test.YtcohgnagffibcaaDoorMf
import Derived.Test.YtcohgnagffibcaaDoorLgP
namespace Go.Proofs.YtcohgnagffibcaaDoor
set_option linter.unusedVariables false
open Go.RowKit
attribute [local irreducible] Res.blk Res.row Fact.rd
theorem Fact.many_old (m : Nat → AdC) : (Fact.many m).Old := fun X X' W W' h h1 h2 h3 => ⟨Fact.rd_old _ _ X X' W W' h.1 h1 h2 h3, fun i a b => Fact.rd_old _ _ X X' W W' (h.2 i a b) h1 h2 h3⟩
theorem ftake_y (A : Option Addr) (c : Nat) (b : List UInt8) (hn : b.length ≤ 1000000) (hc : b.length ≤ c) :
    CtY Tryd.prog 39 [.slice A b.length c] [] [.rd A (u8s b)] (fun x : OA × OA => .tuple #[.slice x.1.1 (takeF b).1.length x.1.2, .slice x.2.1 (takeF b).2.1.length x.2.2, .int .i64 (takeF b).2.2]) (fun _ => [])
      (fun x => [.is ((takeF b).1.length ≤ x.1.2 ∧ (takeF b).2.1.length ≤ x.2.2)]) (fun x => [.rd x.1.1 (u8s (takeF b).1), .rd x.2.1 (u8s (takeF b).2.1)]) :=
  Ct.young (fun x => [(5, 1, x.1, (takeF b).1.length, u8s (takeF b).1), (5, 1, x.2, (takeF b).2.1.length, u8s (takeF b).2.1)]) (ftake_ct A c b hn hc) (fun _ => rfl) _ (fun x h => ⟨h _ (List.mem_cons_self ..), h _ (List.mem_cons_of_mem _ (List.mem_cons_self ..))⟩)
theorem rtake_y (A : Option Addr) (cA : Nat) (b : List UInt8) (m : Nat → AdC) (hn : b.length ≤ 1000000) (hc : b.length ≤ cA) :
    CtY Tryd.prog 40 [.slice A b.length cA] [] [.rd A (u8s b), .many m] (fun x : AdC => .tuple #[(rcOf b).v x, .int .i64 (rcE b)]) (fun _ => [])
      (fun x => [.is ((rcOf b).l.length ≤ x.2)]) (fun x => [.rd x.1 (i64s (rcOf b).l)]) :=
  Ct.young (fun x => [(3, 1, x, (rcOf b).l.length, i64s (rcOf b).l)]) (take1_ct A cA b m hn hc) (fun _ => rfl) _ (fun x h => h _ (List.mem_cons_self ..))
theorem takeF_no {b : List UInt8} (h : (takeF b).2.2 ≠ 0) : cutF b = none := by
  cases hc : cutF b with
  | none => rfl
  | some t => obtain ⟨p, r⟩ := t; rw [takeF, hc] at h; exact absurd rfl h
theorem takeF_yes {b : List UInt8} (h : (takeF b).2.2 = 0) : cutF b = some ((takeF b).1, (takeF b).2.1) := by
  cases hc : cutF b with
  | none => rw [takeF, hc] at h; cases h
  | some t => obtain ⟨p, r⟩ := t; rw [takeF, hc]
def svals (b : List UInt8) (k : Nat) (y : AdC) : List Value := [.int .i64 ((b.length : Int) - ((scanAt b k).2.length : Nat)), (scanAt b k).1.v y]
def sposts (b : List UInt8) (k : Nat) (y : AdC) : List Fact := [.rd y.1 (i64s (scanAt b k).1.l)]
structure SS (b : List UInt8) where
  k : Nat
  r : List UInt8
  A : Option Addr
  c : Nat
  m : Nat
  Φk : List Fact
  hI : ScI b k r
  hc : r.length ≤ c
theorem scanned1_it (A : Option Addr) (c : Nat) (b : List UInt8) (mm : Nat → AdC) (hn : b.length ≤ 1000000) (hc : b.length ≤ c) (b0 : Nat) :
    ItY Tryd.prog 38 [.pointer (some ⟨b0, 0, none⟩)] [.blk b0 22 [.slice A b.length c]] [.rd A (u8s b), .many mm] (scanN b).length (svals b) (sposts b) := by
  refine ItY.of _ Tryd.func38 Tryd.ntmps38 rfl rfl (by rfl) (by simp only [List.mem_cons, List.not_mem_nil, or_false]; rintro φ (rfl | rfl); exact Fact.rd_old _ _; exact Fact.many_old _) (fun W l cl clx hy => ?_)
  refine Jc.scope (σ := SS b) (fun s => [(0, .func (.yield l) #[] #[]), (1, .pointer (some ⟨b0, 0, none⟩)), (3, .slice s.A s.r.length s.c)]) (fun s => [.blk b0 22 [.slice A b.length c]]) (fun s => [cl s.k s.m s.Φk, .sz s.m, .rd s.A (u8s s.r), .many mm]) (fun s => s.r.length) (l := 0) rfl ?_ ?_
  · rintro ⟨k, r, Ar, cr, m, Φk, hI, hcr⟩
    show Jc _ _ _ _ _ _ [(0, Value.func (.yield l) #[] #[]), (1, .pointer (some ⟨b0, 0, none⟩)), (3, .slice Ar r.length cr)] [.blk b0 22 [.slice A b.length c]] [cl k m Φk, .sz m, .rd Ar (u8s r), .many mm]
    replace hcr : r.length ≤ cr := hcr
    have hrl := hI.le
    refine Jc.seq ?_
    refine Jc.region ?_
    refine Jl.pv (PR.move rfl) ?_
    refine Jl.call ((ftake_y Ar cr r (by omega) hcr).at m) en39 (by rfl) (by repeat (first | exact Take.nil | apply Take.cons (by repeat (first | exact Del.here | apply Del.there)))) (by repeat (first | exact trivial | refine And.intro (by repeat (first | exact Mem.here | apply Mem.there)) ?_)) ?_
    rintro ⟨⟨A11, c11⟩, ⟨B11, d11⟩⟩
    refine Jl.pure (p := (takeF r).1.length ≤ c11 ∧ (takeF r).2.1.length ≤ d11) (by repeat (first | exact Mem.here | apply Mem.there)) (fun _ _ h => h) fun hcap => ?_
    refine Jl.pv (PR.move rfl) ?_
    refine Jl.pv (PR.extract rfl (by rfl)) ?_
    refine Jl.pv (PR.extract rfl (by rfl)) ?_
    refine Jl.pv (PR.extract rfl (by rfl)) ?_
    refine Jl.pv (PR.assign rfl) ?_
    refine Jl.pv (PR.assign rfl) ?_
    refine Jl.pv (PR.assign rfl) ?_
    refine Jl.nil ?_
    refine Jq.thenN ?_
    refine Jc.seq ?_
    refine Jc.seq ?_
    refine Jc.region ?_
    refine Jl.pv (PR.move rfl) ?_
    refine Jl.pv (PR.neq _ rfl rfl rfl) ?_
    refine Jl.nil ?_
    refine Jq.thenN ?_
    refine Jc.cond rfl (fun h0 => ?_) (fun h0 => ?_)
    · try replace h0 := of_decide_eq_true h0
      refine Jc.ret ?_
      refine Jq.thenR ?_
      refine Jq.jmpR ?_
      rw [hI.stop (by rw [cutR, takeF_no (by simpa using h0)])]; exact Jq.itDoneY (.inl rfl) (by repeat (first | exact Mem.here | apply Mem.there))
    · try replace h0 := of_decide_eq_false h0
      have hcf := takeF_yes (b := r) (by simpa using h0)
      have hfl := cutF_len hcf
      refine Jc.skip ?_
      refine Jq.thenN ?_
      refine Jc.seq ?_
      refine Jc.region ?_
      refine Jl.pv (PR.move rfl) ?_
      refine Jl.call ((rtake_y A11 c11 (takeF r).1 mm (by omega) hcap.1).at m) en40 (by rfl) (by repeat (first | exact Take.nil | apply Take.cons (by repeat (first | exact Del.here | apply Del.there)))) (by repeat (first | exact trivial | refine And.intro (by repeat (first | exact Mem.here | apply Mem.there)) ?_)) ?_
      rintro ⟨A19, c19⟩
      refine Jl.pv (PR.move rfl) ?_
      refine Jl.pv (PR.extract rfl (by rfl)) ?_
      refine Jl.pv (PR.extract rfl (by rfl)) ?_
      refine Jl.alloc tze43 ?_
      intro b7
      refine Jl.storeW rfl tsh43 rfl (by rfl) (by first | exact rc_one _ _ | simp [Value.oneCell']) (by repeat (first | exact Swap.here | apply Swap.there)) (by rfl) ?_
      refine Jl.pv (PR.assign rfl) ?_
      refine Jl.nil ?_
      refine Jq.thenN ?_
      refine Jc.seq ?_
      refine Jc.seq ?_
      refine Jc.region ?_
      refine Jl.pv (PR.move rfl) ?_
      refine Jl.pv (PR.neq _ rfl rfl rfl) ?_
      refine Jl.pv (PR.move rfl) ?_
      refine Jl.bsplit (fun g24 => ?_) (fun g24 => ?_)
      · try replace g24 := of_decide_eq_true g24
        refine Jl.offS rfl rfl rfl ?_
        refine Jl.offS rfl rfl rfl ?_
        refine Jl.offS rfl rfl rfl ?_
        refine Jl.offS rfl rfl rfl ?_
        refine Jl.offS rfl rfl rfl ?_
        refine Jl.offS rfl rfl rfl ?_
        refine Jl.offS rfl rfl rfl ?_
        refine Jl.offS rfl rfl rfl ?_
        refine Jl.offS rfl rfl rfl ?_
        refine Jl.pv (PR.pickT rfl rfl) ?_
        refine Jl.nil ?_
        refine Jq.thenN ?_
        refine Jc.condT rfl ?_
        refine Jc.ret ?_
        refine Jq.thenR ?_
        refine Jq.jmpR ?_
        rw [hI.stop (by rw [cutR, hcf]; simp only; rw [if_neg (by simpa using g24)])]; exact Jq.itDoneY (.inl rfl) (by repeat (first | exact Mem.here | apply Mem.there))
      · try replace g24 := of_decide_eq_false g24
        have he : rcE (takeF r).1 = 0 := by simpa using g24
        have hcr2 : cutR r = some (rcOf (takeF r).1, (takeF r).2.1) := by rw [cutR, hcf]; simp only; rw [if_pos he]
        obtain ⟨hkN, hfk, hI'⟩ := hI.next hcr2
        have hfa : scanAt b k = (rcOf (takeF r).1, (takeF r).2.1) := scanAt_eq hfk
        refine Jl.on rfl rfl ?_
        refine Jl.pv (PR.move rfl) ?_
        refine Jl.on rfl rfl ?_
        refine Jl.pv (PR.load1 rfl tsh22 (by repeat (first | exact Has.here | apply Has.there)) (by rfl)) ?_
        refine Jl.on rfl rfl ?_
        refine Jl.pv (PR.len rfl tsl22) ?_
        refine Jl.on rfl rfl ?_
        refine Jl.pv (PR.move rfl) ?_
        refine Jl.on rfl rfl ?_
        refine Jl.pv (PR.len rfl tsl22) ?_
        refine Jl.on rfl rfl ?_
        refine Jl.pv (PR.sub ((b.length : Int) - ((takeF r).2.1.length : Nat)) rfl rfl (w64 (by omega) (by omega))) ?_
        refine Jl.on rfl rfl ?_
        refine Jl.pv (PR.loadW rfl tsh43 (by repeat (first | exact Has.here | apply Has.there)) (by rfl)) ?_
        refine Jl.on rfl rfl ?_
        refine hy _ _ _ _ _ _ _ _ _ _ _ _ _ _ k m (A19, c19) Φk [.rd A11 (u8s (takeF r).1), .rd B11 (u8s (takeF r).2.1), .rd A19 (i64s (rcOf (takeF r).1).l)] hkN rfl (by show some [_, _] = some (svals b k (A19, c19)); simp only [svals, hfa]; rfl) (by repeat (first | exact Mem.here | apply Mem.there)) (by repeat (first | exact trivial | refine And.intro (by repeat (first | exact Mem.here | apply Mem.there)) ?_)) (by intro φ hφ; simp only [sposts, hfa, List.mem_singleton] at hφ; subst hφ; simp) rfl (fun m32 => ?_) ?_
        · refine Jl.on rfl rfl ?_
          refine Jl.pv (PR.not rfl) ?_
          refine Jl.pv (PR.pickF rfl rfl) ?_
          refine Jl.nil ?_
          refine Jq.thenN ?_
          refine Jc.condF rfl ?_
          refine Jc.skip ?_
          refine Jq.thenN ?_
          refine Jc.seq ?_
          refine Jc.region ?_
          refine Jl.pv (PR.move rfl) ?_
          refine Jl.pv (PR.assign rfl) ?_
          refine Jl.nil ?_
          refine Jq.thenN ?_
          refine Jc.goto ?_
          refine Jq.lessR (rs := [.blk b0 22 [.slice A b.length c]]) (by repeat (first | exact Take.nil | apply Take.cons (by repeat (first | exact Del.here | apply Del.there)))) ?_
          exact Jq.jmpB ⟨k + 1, (takeF r).2.1, B11, d11, m32, [.rd A11 (u8s (takeF r).1), .rd B11 (u8s (takeF r).2.1), .rd A19 (i64s (rcOf (takeF r).1).l)] ++ Φk, hI', hcap.2⟩ (by simp only; omega) (by exact ⟨rfl, rfl, rfl, trivial⟩) rfl (by exact ⟨(by repeat (first | exact Mem.here | apply Mem.there)), (by repeat (first | exact Mem.here | apply Mem.there)), (by repeat (first | exact Mem.here | apply Mem.there)), Mem.there (Mem.there (Mem.app (Mem.there Mem.here) _)), trivial⟩)
        · refine Jl.on rfl rfl ?_
          refine Jl.pv (PR.not rfl) ?_
          refine Jl.pv (PR.pickF rfl rfl) ?_
          refine Jl.nil ?_
          refine Jq.thenN ?_
          refine Jc.condT rfl ?_
          refine Jc.ret ?_
          refine Jq.thenR ?_
          refine Jq.jmpR ?_
          exact Jq.itStopY (k := k) (.inl rfl) hkN (by repeat (first | exact Mem.here | apply Mem.there))
  · intro hfirst0
    refine Jc.seq ?_
    refine Jc.region ?_
    refine Jl.pv (PR.load1 rfl tsh22 (by repeat (first | exact Has.here | apply Has.there)) (by rfl)) ?_
    refine Jl.pv (PR.assign rfl) ?_
    refine Jl.nil ?_
    refine Jq.thenN ?_
    refine Jc.seq ?_
    refine Jc.label ?_
    refine Jq.thenN ?_
    exact Jc.at_ hfirst0 ⟨0, b, A, c, W.heap.size, [], ScI.zero b, hc⟩ (by exact ⟨rfl, rfl, rfl, trivial⟩) rfl (by exact ⟨Mem.here, (by repeat (first | exact Mem.here | apply Mem.there)), (by repeat (first | exact Mem.here | apply Mem.there)), (by repeat (first | exact Mem.here | apply Mem.there)), trivial⟩)
theorem scanned_ct (A : Option Addr) (c n : Nat) : Ct Tryd.prog 29 [.slice A n c] [] [] (fun b : Nat => .func (.func 38) #[] #[.pointer (some ⟨b, 0, none⟩)]) (fun b => [.blk b 22 [.slice A n c]]) (fun _ => []) := by
  refine Ct.of _ Tryd.func29 Tryd.ntmps29 rfl rfl (fun X W => ?_)
  refine Jc.seq ?_
  refine Jc.region ?_
  refine Jl.box rfl (by rfl) ?_
  intro b1
  refine Jl.pv (PR.assign rfl) ?_
  refine Jl.nil ?_
  refine Jq.thenN ?_
  refine Jc.seq ?_
  refine Jc.region ?_
  refine Jl.pv (PR.makeFunc rfl rfl) ?_
  refine Jl.pv (PR.assign rfl) ?_
  refine Jl.nil ?_
  refine Jq.thenN ?_
  refine Jc.ret ?_
  exact Jq.fin b1 (.inl rfl) rfl (RetVs.tmp rfl RetVs.nil) rfl (by repeat (first | exact Take.nil | apply Take.cons (by repeat (first | exact Del.here | apply Del.there)))) (by repeat (first | exact trivial | refine And.intro (by repeat (first | exact Mem.here | apply Mem.there)) ?_))
end Go.Proofs.YtcohgnagffibcaaDoor
