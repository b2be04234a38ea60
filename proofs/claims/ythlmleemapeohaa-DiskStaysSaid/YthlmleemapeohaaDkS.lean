/-
The law DiskStays.
-/
import Derived.Test.YthlmleemapeohaaDkR
namespace Go.Proofs.Ythlmleemapeohaa
set_option linter.unusedVariables false
open Go.RowKit
attribute [local irreducible] Res.blk Res.row Fact.rd
theorem Jc.ps1 {P : Program} {r : Option Nat} {C : Cx} {n : Nat × List Nat} {Q : Exit → Act → World → Prop} {c : Code} {env : List (Nat × Value)} {R : List Res} {Φ : List Fact} {zs : Ps} (k : Nat) (hk : k < zs.length) (hm : Mem (.ps zs) Φ)
    (j : Jc P r C n Q c env R (.rd zs[k].1.1 (u8s zs[k].2) :: Φ)) : Jc P r C n Q c env R Φ := Jc.fact _ hm (fun X W h => h _ (List.getElem_mem hk)) j
/-- What is safe of a disk. -/
def Dk.safe (d : Dk) : List UInt8 := d.b.take d.s.toNat
theorem Dk.safe_len {d : Dk} (h : d.ok) : (d.safe.length : Int) = d.s := by
  have := h.1; have := h.2.1; have := h.2.2.1
  simp [Dk.safe]; omega
/-- A disk that came of another one: what was safe is. -/
structure Stays (d d' : Dk) (m : Nat) : Prop where
  ok : d'.ok
  le : d.s ≤ d'.s
  eq : d'.b.take d.s.toNat = d.safe
  len : d'.b.length ≤ m
theorem stays_app {d : Dk} (h : d.ok) (b : List UInt8) {m : Nat} (hm : d.b.length + b.length ≤ m) : Stays d (d.app b) m := by
  have ho := Dk.ok_own h
  have hl := app_len d b
  refine ⟨d.app_ok b, ?_, ?_, by omega⟩
  · unfold Dk.app; rw [ho]; split <;> simp
  · have := h.2.2.1
    unfold Dk.app; rw [ho]; split
    · simp only [Dk.safe]; rw [List.take_append_of_le_length (by omega)]
    · rfl
theorem stays_crash {d d' : Dk} {m : Nat} (h : Stays d d' m) (hd : d.ok) (keep : Int) : Stays d (d'.crash keep) m := by
  have ho := Dk.ok_own h.ok
  have h1 := d'.left_le keep
  have h2 := d'.left_eq keep
  have h3 := d'.crash_len keep
  rw [ho] at h1 h2
  have h4 := h.ok.2.1
  have h5 := h.le
  have h6 := hd.2.1
  have h7 := h.ok.2.2.1
  refine ⟨d'.crash_ok keep, ?_, ?_, by have := h.len; omega⟩
  · simp only [Dk.crash]; omega
  · simp only [Dk.crash, ho]
    rw [List.take_take, Nat.min_eq_left (by omega)]
    exact h.eq
theorem stays_sync {d d' : Dk} {m : Nat} (h : Stays d d' m) (hd : d.ok) : Stays d d'.sync m := by
  have ho := Dk.ok_own h.ok
  have h7 := h.ok.2.2.1
  have h5 := h.le
  refine ⟨d'.sync_ok, ?_, ?_, by simp only [Dk.sync, ho]; exact h.len⟩
  · simp only [Dk.sync, ho]; omega
  · simp only [Dk.sync, ho]; exact h.eq
structure SS (n : Nat) where
  k : Nat
  d : Dk
  x : OAd
  y : OAd
  hk : k ≤ n
  ok : d.ok
  len : d.b.length ≤ 400 + 40 * k
  cap : d.b.length ≤ x.2
theorem diskStays_ct (A L D : Option Addr) (c cL cD : Nat) (d : Dk) (zs : Ps) (ds : List Int) (hc : d.b.length ≤ c) :
    Ct Try.prog 3 [d.v (A, c), .slice L zs.length cL, .slice D ds.length cD] [] [.rd A (u8s d.b), .rd L (psv zs), .ps zs, .rd D (ds.map (Value.int .i64))] (fun _ : Unit => .bool true) (fun _ => []) (fun _ => []) := by
  have hfo := d.own_fit
  have hol := d.own_len
  have hok := d.own_ok
  have hsl := Dk.safe_len hok
  refine Ct.of _ Try.func3 Try.ntmps3 rfl rfl (fun X W => ?_)
  refine Jc.seq ?_
  refine Jc.region ?_
  refine Jl.box rfl (by rfl) ?_
  intro b3
  refine Jl.pv (PR.assign rfl) ?_
  refine Jl.nil ?_
  refine Jq.thenN ?_
  refine Jc.seq ?_
  refine Jc.seq ?_
  refine Jc.region ?_
  refine Jl.pv (PR.loadW rfl tsh24 (by repeat (first | exact Has.here | apply Has.there)) (by rfl)) ?_
  refine Jl.call (great_ct A d.b.length c d.s d.r) en8 (by rfl) (by repeat (first | exact Take.nil | apply Take.cons (by repeat (first | exact Del.here | apply Del.there)))) (by repeat (first | exact trivial | refine And.intro (by repeat (first | exact Mem.here | apply Mem.there)) ?_)) ?_
  rintro ⟨⟩
  refine Jl.pv (PR.move rfl) ?_
  refine Jl.bsplit (fun g16 => ?_) (fun g16 => ?_)
  · try replace g16 := of_decide_eq_true g16
    refine Jl.off rfl rfl rfl rfl ?_
    refine Jl.off rfl rfl rfl rfl ?_
    refine Jl.off rfl rfl rfl rfl ?_
    refine Jl.pv (PR.pickT rfl rfl) ?_
    refine Jl.nil ?_
    refine Jq.thenN ?_
    refine Jc.condT rfl ?_
    refine Jc.seq ?_
    refine Jc.region ?_
    refine Jl.call dwakes_ct en9 (by rfl) (by repeat (first | exact Take.nil | apply Take.cons (by repeat (first | exact Del.here | apply Del.there)))) (by repeat (first | exact trivial | refine And.intro (by repeat (first | exact Mem.here | apply Mem.there)) ?_)) ?_
    rintro ⟨⟩
    refine Jl.pv (PR.assign rfl) ?_
    refine Jl.nil ?_
    refine Jq.thenN ?_
    refine Jc.ret ?_
    refine Jq.thenR ?_
    exact Jq.fin () (.inl rfl) rfl (RetVs.tmp rfl RetVs.nil) rfl (by repeat (first | exact Take.nil | apply Take.cons (by repeat (first | exact Del.here | apply Del.there)))) (by repeat (first | exact trivial | refine And.intro (by repeat (first | exact Mem.here | apply Mem.there)) ?_))
  · try replace g16 := of_decide_eq_false g16
    refine Jl.on rfl rfl ?_
    refine Jl.pv (PR.move rfl) ?_
    refine Jl.on rfl rfl ?_
    refine Jl.pv (PR.len rfl tsl25) ?_
    refine Jl.on rfl rfl ?_
    refine Jl.pv (PR.gtr _ rfl rfl rfl) ?_
    refine Jl.pv (PR.pickF rfl rfl) ?_
    refine Jl.nil ?_
    refine Jq.thenN ?_
    refine Jc.cond rfl (fun h0 => ?_) (fun h0 => ?_)
    · try replace h0 := of_decide_eq_true h0
      refine Jc.seq ?_
      refine Jc.region ?_
      refine Jl.call dwakes_ct en9 (by rfl) (by repeat (first | exact Take.nil | apply Take.cons (by repeat (first | exact Del.here | apply Del.there)))) (by repeat (first | exact trivial | refine And.intro (by repeat (first | exact Mem.here | apply Mem.there)) ?_)) ?_
      rintro ⟨⟩
      refine Jl.pv (PR.assign rfl) ?_
      refine Jl.nil ?_
      refine Jq.thenN ?_
      refine Jc.ret ?_
      refine Jq.thenR ?_
      exact Jq.fin () (.inl rfl) rfl (RetVs.tmp rfl RetVs.nil) rfl (by repeat (first | exact Take.nil | apply Take.cons (by repeat (first | exact Del.here | apply Del.there)))) (by repeat (first | exact trivial | refine And.intro (by repeat (first | exact Mem.here | apply Mem.there)) ?_))
    · try replace h0 := of_decide_eq_false h0
      refine Jc.skip ?_
      refine Jq.thenN ?_
      refine Jc.seq ?_
      refine Jc.region ?_
      refine Jl.pv (PR.loadW rfl tsh24 (by repeat (first | exact Has.here | apply Has.there)) (by rfl)) ?_
      refine Jl.call (own_ct A c d (by omega) hc) en10 (by rfl) (by repeat (first | exact Take.nil | apply Take.cons (by repeat (first | exact Del.here | apply Del.there)))) (by repeat (first | exact trivial | refine And.intro (by repeat (first | exact Mem.here | apply Mem.there)) ?_)) ?_
      rintro ⟨A23, c23⟩
      refine Jl.sealC (by repeat (first | exact Del.here | apply Del.there)) (fun hc23 => ?_)
      refine Jl.storeW rfl tsh24 rfl (by rfl) (by simp [Dk.cs, Value.oneCell']) (by repeat (first | exact Swap.here | apply Swap.there)) (by rfl) ?_
      refine Jl.nil ?_
      refine Jq.thenN ?_
      refine Jc.seq ?_
      refine Jc.seq ?_
      refine Jc.region ?_
      refine Jl.pv (PR.fieldAddr rfl tfl24_1) ?_
      refine Jl.pv (PR.load1 rfl tsh3 (by repeat (first | exact Has.here | apply Has.there)) (by rfl)) ?_
      refine Jl.pv (PR.lss false rfl rfl (decide_eq_false (by omega))) ?_
      refine Jl.pv (PR.move rfl) ?_
      refine Jl.on rfl rfl ?_
      refine Jl.pv (PR.fieldAddr rfl tfl24_1) ?_
      refine Jl.on rfl rfl ?_
      refine Jl.pv (PR.load1 rfl tsh3 (by repeat (first | exact Has.here | apply Has.there)) (by rfl)) ?_
      refine Jl.on rfl rfl ?_
      refine Jl.pv (PR.fieldAddr rfl tfl24_0) ?_
      refine Jl.on rfl rfl ?_
      refine Jl.pv (PR.load1 rfl tsh22 (by repeat (first | exact Has.here | apply Has.there)) (by rfl)) ?_
      refine Jl.on rfl rfl ?_
      refine Jl.pv (PR.len rfl tsl22) ?_
      refine Jl.on rfl rfl ?_
      refine Jl.pv (PR.gtr false rfl rfl (decide_eq_false (by omega))) ?_
      refine Jl.pv (PR.pickF rfl rfl) ?_
      refine Jl.nil ?_
      refine Jq.thenN ?_
      refine Jc.condF rfl ?_
      refine Jc.skip ?_
      refine Jq.thenN ?_
      refine Jc.seq ?_
      refine Jc.region ?_
      refine Jl.buildSlice (by rfl) tsl22 tzr22_0 (by rfl) (by rfl) ?_
      intro b35
      refine Jl.pv (PR.fieldAddr rfl tfl24_0) ?_
      refine Jl.pv (PR.load1 rfl tsh22 (by repeat (first | exact Has.here | apply Has.there)) (by rfl)) ?_
      refine Jl.pv (PR.fieldAddr rfl tfl24_1) ?_
      refine Jl.pv (PR.load1 rfl tsh3 (by repeat (first | exact Has.here | apply Has.there)) (by rfl)) ?_
      refine Jl.as (.int .i64 ((d.own.safe.length : Nat) : Int)) (congrArg (Value.int .i64) hsl.symm) ?_
      refine Jl.slice 0 d.own.safe.length d.own.safe.length (u8s d.own.safe) rfl tsl22 rfl rfl (by repeat (first | exact Mem.here | apply Mem.there)) (by omega) (by omega) hc23 rfl (by simp [Dk.safe, u8s, List.map_take]) ?_
      intro A40 c40 hc40
      clear hc40
      refine Jl.toRow 1 0 (by repeat (first | exact Swap.here | apply Swap.there)) (by rfl) (by rfl) ?_
      refine Jl.append d.own.safe.length (u8s d.own.safe) rfl rfl rfl tsl22 tze5 (by rfl) (by decide) tby5 (fun _ _ => (by repeat (first | exact Swap.here | apply Swap.there))) (by repeat (first | exact Mem.here | apply Mem.there)) (by omega) rfl (by simp [u8s]) (u8s_one _) (by omega) (by decide) ?_
      intro A41 c41
      refine Jl.sealR (by repeat (first | exact Del.here | apply Del.there)) ?_
      refine Jl.pv (PR.assign rfl) ?_
      refine Jl.nil ?_
      refine Jq.thenN ?_
      refine Jc.seq ?_
      refine Jc.seq ?_
      refine Jc.region ?_
      refine Jl.pv (PR.assign rfl) ?_
      refine Jl.nil ?_
      refine Jq.thenN ?_
      refine Jc.block ?_
      refine Jc.lessR (rs := [.blk b3 24 (d.own.cs (A23, c23))]) (by repeat (first | exact Take.nil | apply Take.cons (by repeat (first | exact Del.here | apply Del.there)))) ?_
      refine Jc.loop (σ := SS zs.length) (fun s => [(8, .int .i64 (s.k : Int)), (1, .slice L zs.length cL), (2, .slice D ds.length cD), (3, .pointer (some ⟨b3, 0, none⟩)), (7, .slice s.y.1 s.d.safe.length s.y.2)]) (fun s => [.blk b3 24 (s.d.cs s.x)]) (fun s => [.rd L (psv zs), .ps zs, .rd D (ds.map (Value.int .i64)), .rd s.x.1 (u8s s.d.b), .rd s.y.1 (u8s s.d.safe)]) (fun s => zs.length - s.k) ⟨0, d.own, (A23, c23), (A41, c41), Nat.zero_le _, hok, by omega, hc23⟩ (by exact ⟨rfl, rfl, rfl, rfl, rfl, trivial⟩) rfl (by exact ⟨(by repeat (first | exact Mem.here | apply Mem.there)), (by repeat (first | exact Mem.here | apply Mem.there)), (by repeat (first | exact Mem.here | apply Mem.there)), (by repeat (first | exact Mem.here | apply Mem.there)), (by repeat (first | exact Mem.here | apply Mem.there)), trivial⟩) ?_
      rintro ⟨k, d1, x1, y1, hk, hok1, hlen1, hcap1⟩
      have hs1 := Dk.safe_len hok1
      have how1 := Dk.ok_own hok1
      have hf1 := hok1.2.2.1
      have hf0 := hok1.2.1
      show Jc _ _ _ _ _ _ [(8, .int .i64 (k : Int)), (1, .slice L zs.length cL), (2, .slice D ds.length cD), (3, .pointer (some ⟨b3, 0, none⟩)), (7, .slice y1.1 d1.safe.length y1.2)] [.blk b3 24 (d1.cs x1)] [.rd L (psv zs), .ps zs, .rd D (ds.map (Value.int .i64)), .rd x1.1 (u8s d1.b), .rd y1.1 (u8s d1.safe)]
      refine Jc.seq ?_
      refine Jc.seq ?_
      refine Jc.region ?_
      refine Jl.pv (PR.move rfl) ?_
      refine Jl.pv (PR.move rfl) ?_
      refine Jl.pv (PR.len rfl tsl25) ?_
      refine Jl.pv (PR.lss _ rfl rfl rfl) ?_
      refine Jl.nil ?_
      refine Jq.thenN ?_
      refine Jc.cond rfl (fun hlt => ?_) (fun hlt => ?_)
      · try replace hlt := of_decide_eq_true hlt
        have hlt' : k < zs.length := by omega
        refine Jc.skip ?_
        refine Jq.thenN ?_
        refine Jc.seq ?_
        refine Jc.block ?_
        refine Jc.seq ?_
        refine Jc.seq ?_
        refine Jc.ps1 (zs := zs) k hlt' (by repeat (first | exact Mem.here | apply Mem.there)) ?_
        obtain ⟨b, hb⟩ : ∃ b, zs[k].2 = b := ⟨_, rfl⟩
        have hgz : (psv zs)[k]? = some (.slice zs[k].1.1 b.length zs[k].1.2) := by rw [← hb]; exact getps hlt'
        rw [hb]
        refine Jc.region ?_
        refine Jl.pv (PR.move rfl) ?_
        refine Jl.pv (PR.move rfl) ?_
        refine Jl.pv (PR.idx1 k rfl rfl tsl25 (by repeat (first | exact Mem.here | apply Mem.there)) (by simp [psv]) rfl hlt') ?_
        refine Jl.pv (PR.loadR rfl tsh22 (by repeat (first | exact Mem.here | apply Mem.there)) hgz) ?_
        refine Jl.pv (PR.len rfl tsl22) ?_
        refine Jl.pv (PR.gtr _ rfl rfl rfl) ?_
        refine Jl.nil ?_
        refine Jq.thenN ?_
        refine Jc.cond rfl (fun h2 => ?_) (fun h2 => ?_)
        · try replace h2 := of_decide_eq_true h2
          refine Jc.seq ?_
          refine Jc.region ?_
          refine Jl.call dwakes_ct en9 (by rfl) (by repeat (first | exact Take.nil | apply Take.cons (by repeat (first | exact Del.here | apply Del.there)))) (by repeat (first | exact trivial | refine And.intro (by repeat (first | exact Mem.here | apply Mem.there)) ?_)) ?_
          rintro ⟨⟩
          refine Jl.pv (PR.assign rfl) ?_
          refine Jl.nil ?_
          refine Jq.thenN ?_
          refine Jc.ret ?_
          refine Jq.thenR ?_
          refine Jq.blkR ?_
          refine Jq.thenR ?_
          refine Jq.thenR ?_
          refine Jq.blkR ?_
          refine Jq.thenR ?_
          exact Jq.fin () (.inl rfl) rfl (RetVs.tmp rfl RetVs.nil) rfl (by repeat (first | exact Take.nil | apply Take.cons (by repeat (first | exact Del.here | apply Del.there)))) (by repeat (first | exact trivial | refine And.intro (by repeat (first | exact Mem.here | apply Mem.there)) ?_))
        · try replace h2 := of_decide_eq_false h2
          have hb40 : b.length ≤ 40 := by omega
          have hap := app_len d1 b
          have hst0 := stays_app hok1 b (m := 400 + 40 * (k + 1)) (by omega)
          refine Jc.skip ?_
          refine Jq.thenN ?_
          refine Jc.seq ?_
          refine Jc.region ?_
          refine Jl.pv (PR.loadW rfl tsh24 (by repeat (first | exact Has.here | apply Has.there)) (by rfl)) ?_
          refine Jl.alloc tze24 ?_
          intro b9
          refine Jl.storeW rfl tsh24 rfl (by rfl) (by simp [Dk.cs, Value.oneCell']) (by repeat (first | exact Swap.here | apply Swap.there)) (by rfl) ?_
          refine Jl.nil ?_
          refine Jq.thenN ?_
          refine Jc.seq ?_
          refine Jc.drawn [0, 0, 0, 6, 14, 31, 63, 127, 127, 0, 767, 2047] ([(11, false)], []) [⟨[(0, false), (1, false), (2, false), (3, false), (4, false), (9, true)], [], 5⟩, ⟨[(6, false), (7, false), (8, false)], [9], 10⟩] tmx (by kernel_rfl) ?_
          refine Dh.JH.cons ?_
          refine Dh.JB.rd [.blk _ _ _] rfl trivial (by repeat (first | exact Take.nil | apply Take.cons (by repeat (first | exact Del.here | apply Del.there)))) (fun _ => PR.loadW rfl tsh24 Has.here (by rfl)) ?_
          refine Dh.JB.pv rfl trivial (fun _ => PR.move rfl) ?_
          refine Dh.JB.pv rfl trivial (fun _ => PR.move rfl) ?_
          refine Dh.JB.pv rfl trivial (fun _ => PR.idx1 k rfl rfl tsl25 (by repeat (first | exact Mem.here | apply Mem.there)) (by simp [psv]) rfl hlt') ?_
          refine Dh.JB.pv rfl trivial (fun _ => PR.loadR rfl tsh22 (by repeat (first | exact Mem.here | apply Mem.there)) hgz) ?_
          refine Dh.JB.alloc rfl trivial tze24 ?_
          refine Dh.JB.nil ?_
          refine Dh.JL.nil ?_
          refine Dh.JE.mk rfl (fun _ h => by cases h) (fun C13_5 => ?_)
          refine Jl.call (append_ct x1.1 zs[k].1.1 x1.2 zs[k].1.2 d1 b (by omega) hcap1 (by omega)) en11 (by rfl) (by repeat (first | exact Take.nil | apply Take.cons (by repeat (first | exact Del.here | apply Del.there)))) (by repeat (first | exact trivial | refine And.intro (by repeat (first | exact Mem.here | apply Mem.there)) ?_)) ?_
          rintro ⟨A62, c62⟩
          refine Jl.sealC (by repeat (first | exact Del.here | apply Del.there)) (fun hc62 => ?_)
          refine Jl.nil ?_
          refine Dh.Jq.segV (by repeat (first | exact Dh.FExt.refl | apply Dh.FExt.cons | apply Dh.FExt.app)) ?_ (by repeat (first | exact Dh.KeepL.nil | apply Dh.KeepL.anc (by rfl) | apply Dh.KeepL.keep (by repeat (first | exact Take.nil | apply Take.cons (by repeat (first | exact Del.here | apply Del.there))))))
          refine Dh.JH.cons ?_
          refine Dh.JB.pv rfl trivial (fun _ => PR.move rfl) ?_
          refine Dh.JB.pv rfl trivial (fun _ => PR.extract rfl (by rfl)) ?_
          refine Dh.JB.pv rfl trivial (fun _ => PR.extract rfl (by rfl)) ?_
          refine Dh.JB.nil ?_
          refine Dh.JL.ptr rfl (by repeat (first | exact Dh.es_here | apply Dh.es_there)) (fun b10 => ?_)
          refine Dh.JL.nil ?_
          refine Dh.JE.mk rfl (fun _ h => by cases h) (fun C13_10 => ?_)
          refine Jl.storeW rfl tsh24 rfl (by rfl) (by simp [Dk.cs, Value.oneCell']) (by repeat (first | exact Swap.here | apply Swap.there)) (by rfl) ?_
          refine Jl.nil ?_
          refine Dh.Jq.segN (by repeat (first | exact Dh.FExt.refl | apply Dh.FExt.cons | apply Dh.FExt.app)) ?_ (by repeat (first | exact Dh.KeepL.nil | apply Dh.KeepL.anc (by rfl) | apply Dh.KeepL.keep (by repeat (first | exact Take.nil | apply Take.cons (by repeat (first | exact Del.here | apply Del.there))))))
          refine Dh.JH.nil ?_
          refine Dh.JB.pv rfl trivial (fun _ => PR.assign rfl) ?_
          refine Dh.JB.nil ?_
          refine Dh.JL.nil ?_
          refine Jq.thenN ?_
          refine Jc.seq ?_
          refine Jc.drawn [0, 0, 2, 7, 0, 0, 48, 112, 255, 511] ([(9, false)], []) [⟨[(0, true), (1, false), (2, false), (4, false), (5, false), (6, false), (7, false)], [0], 3⟩, ⟨[], [], 8⟩] tmx (by kernel_rfl) ?_
          refine Dh.JH.cons ?_
          refine Dh.JB.buildSlice rfl trivial (by rfl) tsl22 tzr22_0 (by rfl) (by rfl) ?_
          refine Dh.JB.pv rfl trivial (fun _ => PR.fieldAddr rfl tfl24_0) ?_
          refine Dh.JB.rd [.blk _ _ _] rfl trivial (by repeat (first | exact Take.nil | apply Take.cons (by repeat (first | exact Del.here | apply Del.there)))) (fun _ => PR.load1 rfl tsh22 Has.here (by rfl)) ?_
          refine Dh.JB.pv rfl trivial (fun _ => PR.move rfl) ?_
          refine Dh.JB.pv rfl trivial (fun _ => PR.move rfl) ?_
          refine Dh.JB.pv rfl trivial (fun _ => PR.idx1 k rfl rfl tsl25 (by repeat (first | exact Mem.here | apply Mem.there)) (by simp [psv]) rfl hlt') ?_
          refine Dh.JB.pv rfl trivial (fun _ => PR.loadR rfl tsh22 (by repeat (first | exact Mem.here | apply Mem.there)) hgz) ?_
          refine Dh.JB.nil ?_
          refine Dh.JL.sl rfl (by repeat (first | exact Dh.es_here | apply Dh.es_there)) (fun b65 => ?_)
          refine Dh.JL.nil ?_
          refine Dh.JE.mk rfl (fun _ h => by cases h) (fun C14_3 => ?_)
          refine Jl.toRow 1 0 (by repeat (first | exact Swap.here | apply Swap.there)) (by rfl) (by rfl) ?_
          refine Jl.append d1.b.length (u8s d1.b) rfl rfl rfl tsl22 tze5 (by rfl) (by decide) tby5 (fun _ _ => (by repeat (first | exact Swap.here | apply Swap.there))) (by repeat (first | exact Mem.here | apply Mem.there)) (by omega) rfl (by simp [u8s]) (u8s_one _) (by omega) (by decide) ?_
          intro A68 c68
          refine Jl.nil ?_
          refine Dh.Jq.segV (by repeat (first | exact Dh.FExt.refl | apply Dh.FExt.cons | apply Dh.FExt.app)) ?_ (by repeat (first | exact Dh.KeepL.nil | apply Dh.KeepL.anc (by rfl) | apply Dh.KeepL.keep (by repeat (first | exact Take.nil | apply Take.cons (by repeat (first | exact Del.here | apply Del.there))))))
          refine Dh.JH.cons ?_
          refine Dh.JB.nil ?_
          refine Dh.JL.nil ?_
          refine Dh.JE.mk rfl (fun _ h => by cases h) (fun C14_8 => ?_)
          refine Jl.append (d1.b ++ b).length (u8s (d1.b ++ b)) rfl rfl rfl tsl22 tze5 (by rfl) (by decide) tby5 (fun _ _ => (by repeat (first | exact Swap.here | apply Swap.there))) (by repeat (first | exact Mem.here | apply Mem.there)) (by simp) (by simp [u8s]) (by simp [u8s]) (u8s_one _) (by omega) (by decide) ?_
          intro A73 c73
          refine Jl.sealR (by repeat (first | exact Del.here | apply Del.there)) ?_
          refine Jl.nil ?_
          refine Dh.Jq.segV (by repeat (first | exact Dh.FExt.refl | apply Dh.FExt.cons | apply Dh.FExt.app)) ?_ (by repeat (first | exact Dh.KeepL.nil | apply Dh.KeepL.anc (by rfl) | apply Dh.KeepL.keep (by repeat (first | exact Take.nil | apply Take.cons (by repeat (first | exact Del.here | apply Del.there))))))
          refine Dh.JH.nil ?_
          refine Dh.JB.pv rfl trivial (fun _ => PR.assign rfl) ?_
          refine Dh.JB.nil ?_
          refine Dh.JL.nil ?_
          refine Jq.thenN ?_
          refine Jc.mid (σ := Unit) (fun _ => [(8, .int .i64 (k : Int)), (1, .slice L zs.length cL), (2, .slice D ds.length cD), (3, .pointer (some ⟨b3, 0, none⟩)), (7, .slice y1.1 d1.safe.length y1.2), (10, .pointer (some ⟨b10, 0, none⟩))]) (fun _ => [.blk b10 24 ((d1.app b).cs (A62, c62)), .blk b3 24 (d1.cs x1)]) (fun _ => [.rd L (psv zs), .ps zs, .rd D (ds.map (Value.int .i64)), .rd A62 (u8s (d1.app b).b), .rd y1.1 (u8s d1.safe)]) ?_ ?_
          · refine Jc.seq ?_
            refine Jc.region ?_
            refine Jl.pv (PR.move rfl) ?_
            refine Jl.pv (PR.eql _ rfl rfl rfl) ?_
            refine Jl.pv (PR.move rfl) ?_
            refine Jl.bsplit (fun g76 => ?_) (fun g76 => ?_)
            · try replace g76 := of_decide_eq_true g76
              obtain ⟨ha1, ha2⟩ := app_fit g76
              rw [how1] at ha1
              refine Jl.on rfl rfl ?_
              refine Jl.pv (PR.fieldAddr rfl tfl24_0) ?_
              refine Jl.on rfl rfl ?_
              refine Jl.pv (PR.load1 rfl tsh22 (by repeat (first | exact Has.here | apply Has.there)) (by rfl)) ?_
              refine Jl.on rfl rfl ?_
              refine Jl.pv (PR.move rfl) ?_
              have hab : (d1.app b).b = d1.b ++ b := by rw [ha1]
              refine Jl.on rfl rfl ?_
              refine Jl.call (dlsame_at (d1.app b).b (d1.b ++ b) rfl rfl) en12 (by rfl) (by repeat (first | exact Take.nil | apply Take.cons (by repeat (first | exact Del.here | apply Del.there)))) (by repeat (first | exact trivial | refine And.intro (by repeat (first | exact Mem.here | apply Mem.there)) ?_)) ?_
              rintro ⟨⟩
              refine Jl.as (.bool true) (congrArg Value.bool (by rw [hab]; simp)) ?_
              refine Jl.on rfl rfl ?_
              refine Jl.pv (PR.not rfl) ?_
              refine Jl.on rfl rfl ?_
              refine Jl.pv (PR.move rfl) ?_
              refine Jl.on rfl rfl ?_
              refine Jl.pv (PR.fieldAddr rfl tfl24_1) ?_
              refine Jl.on rfl rfl ?_
              refine Jl.pv (PR.load1 rfl tsh3 (by repeat (first | exact Has.here | apply Has.there)) (by rfl)) ?_
              refine Jl.on rfl rfl ?_
              refine Jl.pv (PR.fieldAddr rfl tfl24_1) ?_
              refine Jl.on rfl rfl ?_
              refine Jl.pv (PR.load1 rfl tsh3 (by repeat (first | exact Has.here | apply Has.there)) (by rfl)) ?_
              refine Jl.on rfl rfl ?_
              refine Jl.pv (PR.neq false rfl rfl (by rw [ha1]; simp)) ?_
              refine Jl.on rfl rfl ?_
              refine Jl.pv (PR.pickF rfl rfl) ?_
              refine Jl.pv (PR.pickT rfl rfl) ?_
              refine Jl.pv (PR.move rfl) ?_
              refine Jl.on rfl rfl ?_
              refine Jl.pv (PR.move rfl) ?_
              refine Jl.on rfl rfl ?_
              refine Jl.pv (PR.neq false rfl rfl (by simpa using g76)) ?_
              refine Jl.on rfl rfl ?_
              refine Jl.pv (PR.move rfl) ?_
              refine Jl.off rfl rfl rfl rfl ?_
              refine Jl.off rfl rfl rfl rfl ?_
              refine Jl.off rfl rfl rfl rfl ?_
              refine Jl.offU rfl rfl rfl ?_
              refine Jl.offU rfl rfl rfl ?_
              refine Jl.offU rfl rfl rfl ?_
              refine Jl.offU rfl rfl rfl ?_
              refine Jl.off rfl rfl rfl rfl ?_
              refine Jl.off rfl rfl rfl rfl ?_
              refine Jl.offU rfl rfl rfl ?_
              refine Jl.offU rfl rfl rfl ?_
              refine Jl.offU rfl rfl rfl ?_
              refine Jl.offU rfl rfl rfl ?_
              refine Jl.offU rfl rfl rfl ?_
              refine Jl.off rfl rfl rfl rfl ?_
              refine Jl.on rfl rfl ?_
              refine Jl.pv (PR.pickF rfl rfl) ?_
              refine Jl.pv (PR.pickF rfl rfl) ?_
              refine Jl.nil ?_
              refine Jq.thenN ?_
              refine Jc.condF rfl ?_
              refine Jc.skip ?_
              exact Jq.midT () (by exact ⟨rfl, rfl, rfl, rfl, rfl, rfl, trivial⟩) (by repeat (first | exact Take.nil | apply Take.cons (by repeat (first | exact Del.here | apply Del.there)))) (by exact ⟨(by repeat (first | exact Mem.here | apply Mem.there)), (by repeat (first | exact Mem.here | apply Mem.there)), (by repeat (first | exact Mem.here | apply Mem.there)), (by repeat (first | exact Mem.here | apply Mem.there)), (by repeat (first | exact Mem.here | apply Mem.there)), trivial⟩)
            · try replace g76 := of_decide_eq_false g76
              obtain ⟨ha1, ha2⟩ := app_full g76
              have hae : d1.appE b = 30 := if_neg ha2
              unfold Dk.fits at ha2
              rw [how1] at ha1 ha2
              refine Jl.off rfl rfl rfl rfl ?_
              refine Jl.off rfl rfl rfl rfl ?_
              refine Jl.off rfl rfl rfl rfl ?_
              refine Jl.off rfl rfl rfl rfl ?_
              refine Jl.off rfl rfl rfl rfl ?_
              refine Jl.off rfl rfl rfl rfl ?_
              refine Jl.offU rfl rfl rfl ?_
              refine Jl.offU rfl rfl rfl ?_
              refine Jl.offU rfl rfl rfl ?_
              refine Jl.offU rfl rfl rfl ?_
              refine Jl.offU rfl rfl rfl ?_
              refine Jl.off rfl rfl rfl rfl ?_
              refine Jl.pv (PR.pickF rfl rfl) ?_
              refine Jl.pv (PR.move rfl) ?_
              refine Jl.on rfl rfl ?_
              refine Jl.pv (PR.move rfl) ?_
              refine Jl.on rfl rfl ?_
              refine Jl.pv (PR.neq true rfl rfl (by simpa using g76)) ?_
              refine Jl.on rfl rfl ?_
              refine Jl.pv (PR.move rfl) ?_
              refine Jl.on rfl rfl ?_
              refine Jl.pv (PR.move rfl) ?_
              refine Jl.on rfl rfl ?_
              refine Jl.pv (PR.neq false rfl rfl (by rw [hae]; simp)) ?_
              refine Jl.on rfl rfl ?_
              refine Jl.pv (PR.move rfl) ?_
              refine Jl.on rfl rfl ?_
              refine Jl.pv (PR.loadW rfl tsh24 (by repeat (first | exact Has.here | apply Has.there)) (by rfl)) ?_
              refine Jl.on rfl rfl ?_
              refine Jl.pv (PR.loadW rfl tsh24 (by repeat (first | exact Has.here | apply Has.there)) (by rfl)) ?_
              refine Jl.on rfl rfl ?_
              refine Jl.call (dsame_at (d1.app b) d1 (by omega) (by omega) hc62 hcap1 (by rw [ha1])) en13 (by rfl) (by repeat (first | exact Take.nil | apply Take.cons (by repeat (first | exact Del.here | apply Del.there)))) (by repeat (first | exact trivial | refine And.intro (by repeat (first | exact Mem.here | apply Mem.there)) ?_)) ?_
              rintro ⟨⟩
              refine Jl.as (.bool true) (congrArg Value.bool rfl) ?_
              refine Jl.on rfl rfl ?_
              refine Jl.pv (PR.not rfl) ?_
              refine Jl.on rfl rfl ?_
              refine Jl.pv (PR.pickF rfl rfl) ?_
              refine Jl.on rfl rfl ?_
              refine Jl.pv (PR.move rfl) ?_
              refine Jl.on rfl rfl ?_
              refine Jl.pv (PR.move rfl) ?_
              refine Jl.on rfl rfl ?_
              refine Jl.pv (PR.len rfl tsl22) ?_
              refine Jl.on rfl rfl ?_
              refine Jl.pv (PR.fieldAddr rfl tfl24_2) ?_
              refine Jl.on rfl rfl ?_
              refine Jl.pv (PR.load1 rfl tsh3 (by repeat (first | exact Has.here | apply Has.there)) (by rfl)) ?_
              refine Jl.on rfl rfl ?_
              refine Jl.pv (PR.leq false rfl rfl (decide_eq_false (by omega))) ?_
              refine Jl.on rfl rfl ?_
              refine Jl.pv (PR.pickF rfl rfl) ?_
              refine Jl.on rfl rfl ?_
              refine Jl.pv (PR.pickT rfl rfl) ?_
              refine Jl.pv (PR.pickF rfl rfl) ?_
              refine Jl.nil ?_
              refine Jq.thenN ?_
              refine Jc.condF rfl ?_
              refine Jc.skip ?_
              exact Jq.midT () (by exact ⟨rfl, rfl, rfl, rfl, rfl, rfl, trivial⟩) (by repeat (first | exact Take.nil | apply Take.cons (by repeat (first | exact Del.here | apply Del.there)))) (by exact ⟨(by repeat (first | exact Mem.here | apply Mem.there)), (by repeat (first | exact Mem.here | apply Mem.there)), (by repeat (first | exact Mem.here | apply Mem.there)), (by repeat (first | exact Mem.here | apply Mem.there)), (by repeat (first | exact Mem.here | apply Mem.there)), trivial⟩)
          · rintro ⟨⟩
            have hap2 := hst0.ok
            have hao := Dk.ok_own hap2
            refine Jc.seq ?_
            refine Jc.region ?_
            refine Jl.pv (PR.loadW rfl tsh24 (by repeat (first | exact Has.here | apply Has.there)) (by rfl)) ?_
            refine Jl.storeW rfl tsh24 rfl (by rfl) (by simp [Dk.cs, Value.oneCell']) (by repeat (first | exact Swap.here | apply Swap.there)) (by rfl) ?_
            refine Jl.nil ?_
            refine Jq.thenN ?_
            refine Jc.mid (σ := { s : Dk × OAd // Stays d1 s.1 (400 + 40 * (k + 1)) ∧ s.1.b.length ≤ s.2.2 }) (fun _ => [(8, .int .i64 (k : Int)), (1, .slice L zs.length cL), (2, .slice D ds.length cD), (3, .pointer (some ⟨b3, 0, none⟩)), (7, .slice y1.1 d1.safe.length y1.2)]) (fun s => [.blk b3 24 (s.1.1.cs s.1.2)]) (fun s => [.rd L (psv zs), .ps zs, .rd D (ds.map (Value.int .i64)), .rd s.1.2.1 (u8s s.1.1.b), .rd y1.1 (u8s d1.safe)]) ?_ ?_
            · refine Jc.seq ?_
              refine Jc.region ?_
              refine Jl.pv (PR.move rfl) ?_
              refine Jl.pv (PR.move rfl) ?_
              refine Jl.pv (PR.len rfl tsl26) ?_
              refine Jl.pv (PR.lss _ rfl rfl rfl) ?_
              refine Jl.pv (PR.move rfl) ?_
              refine Jl.bsplit (fun g116 => ?_) (fun g116 => ?_)
              · try replace g116 := of_decide_eq_true g116
                have hkd : k < ds.length := by omega
                refine Jl.on rfl rfl ?_
                refine Jl.pv (PR.move rfl) ?_
                refine Jl.on rfl rfl ?_
                refine Jl.pv (PR.move rfl) ?_
                refine Jl.on rfl rfl ?_
                refine Jl.pv (PR.idx1 k rfl rfl tsl26 (by repeat (first | exact Mem.here | apply Mem.there)) (by simp) rfl hkd) ?_
                refine Jl.on rfl rfl ?_
                refine Jl.pv (PR.loadR rfl tsh3 (by repeat (first | exact Mem.here | apply Mem.there)) (getm hkd)) ?_
                refine Jl.on rfl rfl ?_
                refine Jl.pv (PR.geq _ rfl rfl rfl) ?_
                refine Jl.pv (PR.pickT rfl rfl) ?_
                refine Jl.nil ?_
                refine Jq.thenN ?_
                refine Jc.cond rfl (fun hge => ?_) (fun hge => ?_)
                · try replace hge := of_decide_eq_true hge
                  have hcl := (d1.app b).crash_len ds[k]
                  have hle3 := (d1.app b).left_le ds[k]
                  have hleq := (d1.app b).left_eq ds[k]
                  rw [hao] at hle3 hleq
                  have hsx : ((d1.app b).crash ds[k]).s = ((d1.app b).left ds[k] : Nat) := rfl
                  have hbx : ((d1.app b).crash ds[k]).b = (d1.app b).b.take ((d1.app b).left ds[k]) := by simp only [Dk.crash, hao]
                  have hsp := hap2.2.1
                  have hsp2 := hap2.2.2.1
                  refine Jc.seq ?_
                  refine Jc.drawn [0, 0, 0, 6, 14, 31, 0, 127] ([], []) [⟨[(0, false), (1, false), (2, false), (3, false), (4, false), (6, true)], [], 5⟩, ⟨[], [6], 7⟩] tmx (by kernel_rfl) ?_
                  refine Dh.JH.cons ?_
                  refine Dh.JB.rd [.blk _ _ _] rfl trivial (by repeat (first | exact Take.nil | apply Take.cons (by repeat (first | exact Del.here | apply Del.there)))) (fun _ => PR.loadW rfl tsh24 Has.here (by rfl)) ?_
                  refine Dh.JB.pv rfl trivial (fun _ => PR.move rfl) ?_
                  refine Dh.JB.pv rfl trivial (fun _ => PR.move rfl) ?_
                  refine Dh.JB.pv rfl trivial (fun _ => PR.idx1 k rfl rfl tsl26 (by repeat (first | exact Mem.here | apply Mem.there)) (by simp) rfl hkd) ?_
                  refine Dh.JB.pv rfl trivial (fun _ => PR.loadR rfl tsh3 (by repeat (first | exact Mem.here | apply Mem.there)) (getm hkd)) ?_
                  refine Dh.JB.alloc rfl trivial tze24 ?_
                  refine Dh.JB.nil ?_
                  refine Dh.JL.nil ?_
                  refine Dh.JE.mk rfl (fun _ h => by cases h) (fun C19_5 => ?_)
                  refine Jl.call (crash_ct A62 c62 (d1.app b) ds[k] (by omega) hc62) en14 (by rfl) (by repeat (first | exact Take.nil | apply Take.cons (by repeat (first | exact Del.here | apply Del.there)))) (by repeat (first | exact trivial | refine And.intro (by repeat (first | exact Mem.here | apply Mem.there)) ?_)) ?_
                  rintro ⟨A128, c128⟩
                  refine Jl.sealC (by repeat (first | exact Del.here | apply Del.there)) (fun hc128 => ?_)
                  refine Jl.nil ?_
                  refine Dh.Jq.segV (by repeat (first | exact Dh.FExt.refl | apply Dh.FExt.cons | apply Dh.FExt.app)) ?_ (by repeat (first | exact Dh.KeepL.nil | apply Dh.KeepL.anc (by rfl) | apply Dh.KeepL.keep (by repeat (first | exact Take.nil | apply Take.cons (by repeat (first | exact Del.here | apply Del.there))))))
                  refine Dh.JH.cons ?_
                  refine Dh.JB.nil ?_
                  refine Dh.JL.ptr rfl (by repeat (first | exact Dh.es_here | apply Dh.es_there)) (fun b13 => ?_)
                  refine Dh.JL.nil ?_
                  refine Dh.JE.mk rfl (fun _ h => by cases h) (fun C19_7 => ?_)
                  refine Jl.storeW rfl tsh24 rfl (by rfl) (by simp [Dk.cs, Value.oneCell']) (by repeat (first | exact Swap.here | apply Swap.there)) (by rfl) ?_
                  refine Jl.nil ?_
                  refine Dh.Jq.segN (by repeat (first | exact Dh.FExt.refl | apply Dh.FExt.cons | apply Dh.FExt.app)) ?_ (by repeat (first | exact Dh.KeepL.nil | apply Dh.KeepL.anc (by rfl) | apply Dh.KeepL.keep (by repeat (first | exact Take.nil | apply Take.cons (by repeat (first | exact Del.here | apply Del.there))))))
                  refine Dh.JH.nil ?_
                  refine Dh.JB.nil ?_
                  refine Dh.JL.nil ?_
                  refine Jq.thenN ?_
                  refine Jc.seq ?_
                  refine Jc.seq ?_
                  refine Jc.drawn [0, 1, 0, 4, 12, 31, 63, 127, 255, 511, 127, 1151, 3199, 8191, 16383, 32767, 65535, 131071, 65535, 327679, 65535, 1114111, 3211263, 8191999, 16777215, 33554431, 67108863, 134217727, 268435455, 536870911, 1073741823, 268435455, 2415919103, 268435455, 268435455, 26038239231, 60397977599, 268435455, 137707388927, 412585295871, 268435455, 1099780063231, 4260875993087, 8787771523071, 17590306996223, 35184372088831, 70368744177663] ([(25, false), (26, false), (27, false), (28, false), (29, false), (30, false), (31, false), (32, false), (33, false), (34, false), (35, false), (36, false), (37, false), (38, false), (39, false), (40, false), (41, false), (42, false), (43, false), (44, false), (45, false), (46, false)], []) [⟨[(0, false), (1, false), (2, false), (3, false), (4, false), (5, false), (6, false), (7, false), (8, false), (9, false), (10, false), (11, false), (12, false), (13, false), (14, false), (15, false), (16, false), (17, false), (18, false), (19, false), (20, false), (21, false), (22, false), (23, false)], [], 24⟩] tmx (by kernel_rfl) ?_
                  refine Dh.JH.cons ?_
                  refine Dh.JB.pv rfl trivial (fun _ => PR.fieldAddr rfl tfl24_1) ?_
                  refine Dh.JB.rd [.blk _ _ _] rfl trivial (by repeat (first | exact Take.nil | apply Take.cons (by repeat (first | exact Del.here | apply Del.there)))) (fun _ => PR.load1 rfl tsh3 Has.here (by rfl)) ?_
                  refine Dh.JB.pv rfl trivial (fun _ => PR.fieldAddr rfl tfl24_0) ?_
                  refine Dh.JB.rd [.blk _ _ _] rfl trivial (by repeat (first | exact Take.nil | apply Take.cons (by repeat (first | exact Del.here | apply Del.there)))) (fun _ => PR.load1 rfl tsh22 Has.here (by rfl)) ?_
                  refine Dh.JB.pv rfl trivial (fun _ => PR.len rfl tsl22) ?_
                  refine Dh.JB.pv rfl trivial (fun _ => PR.neq false rfl rfl (by rw [hsx, hcl]; simp)) ?_
                  refine Dh.JB.pv rfl trivial (fun _ => PR.move rfl) ?_
                  refine Dh.JB.pv rfl ⟨_, rfl, rfl⟩ (fun _ => PR.fieldAddr rfl tfl24_0) ?_
                  refine Dh.JB.rd [.blk _ _ _] rfl ⟨_, rfl, rfl⟩ (by repeat (first | exact Take.nil | apply Take.cons (by repeat (first | exact Del.here | apply Del.there)))) (fun _ => PR.load1 rfl tsh22 Has.here (by rfl)) ?_
                  refine Dh.JB.pv rfl ⟨_, rfl, rfl⟩ (fun _ => PR.len rfl tsl22) ?_
                  refine Dh.JB.pv rfl ⟨_, rfl, rfl⟩ (fun _ => PR.fieldAddr rfl tfl24_0) ?_
                  refine Dh.JB.rd [.blk _ _ _] rfl ⟨_, rfl, rfl⟩ (by repeat (first | exact Take.nil | apply Take.cons (by repeat (first | exact Del.here | apply Del.there)))) (fun _ => PR.load1 rfl tsh22 Has.here (by rfl)) ?_
                  refine Dh.JB.pv rfl ⟨_, rfl, rfl⟩ (fun _ => PR.len rfl tsl22) ?_
                  refine Dh.JB.pv rfl ⟨_, rfl, rfl⟩ (fun _ => PR.gtr false rfl rfl (decide_eq_false (by omega))) ?_
                  refine Dh.JB.pv rfl trivial (fun _ => PR.pickF rfl rfl) ?_
                  refine Dh.JB.pv rfl trivial (fun _ => PR.move rfl) ?_
                  refine Dh.JB.pv rfl ⟨_, rfl, rfl⟩ (fun _ => PR.fieldAddr rfl tfl24_0) ?_
                  refine Dh.JB.rd [.blk _ _ _] rfl ⟨_, rfl, rfl⟩ (by repeat (first | exact Take.nil | apply Take.cons (by repeat (first | exact Del.here | apply Del.there)))) (fun _ => PR.load1 rfl tsh22 Has.here (by rfl)) ?_
                  refine Dh.JB.pv rfl ⟨_, rfl, rfl⟩ (fun _ => PR.fieldAddr rfl tfl24_0) ?_
                  refine Dh.JB.rd [.blk _ _ _] rfl ⟨_, rfl, rfl⟩ (by repeat (first | exact Take.nil | apply Take.cons (by repeat (first | exact Del.here | apply Del.there)))) (fun _ => PR.load1 rfl tsh22 Has.here (by rfl)) ?_
                  refine Dh.JB.pv rfl ⟨_, rfl, rfl⟩ (fun _ => PR.fieldAddr rfl tfl24_0) ?_
                  refine Dh.JB.rd [.blk _ _ _] rfl ⟨_, rfl, rfl⟩ (by repeat (first | exact Take.nil | apply Take.cons (by repeat (first | exact Del.here | apply Del.there)))) (fun _ => PR.load1 rfl tsh22 Has.here (by rfl)) ?_
                  refine Dh.JB.pv rfl ⟨_, rfl, rfl⟩ (fun _ => PR.len rfl tsl22) ?_
                  refine Dh.JB.slice 0 ((d1.app b).crash ds[k]).b.length ((d1.app b).crash ds[k]).b.length (u8s ((d1.app b).crash ds[k]).b) rfl ⟨_, rfl, rfl⟩ rfl tsl22 rfl rfl (by repeat (first | exact Mem.here | apply Mem.there)) (by omega) (by omega) hc62 rfl (by rw [hcl, hbx]; simp [u8s, List.map_take]) ?_
                  intro A152 c152 hc152
                  clear hc152
                  refine Dh.JB.nil ?_
                  refine Dh.JL.nil ?_
                  refine Dh.JE.mk rfl (fun _ h => by cases h) (fun C20_24 => ?_)
                  refine Jl.on rfl rfl ?_
                  refine Jl.call (dlsame_at ((d1.app b).crash ds[k]).b ((d1.app b).crash ds[k]).b rfl rfl) en12 (by rfl) (by repeat (first | exact Take.nil | apply Take.cons (by repeat (first | exact Del.here | apply Del.there)))) (by repeat (first | exact trivial | refine And.intro (by repeat (first | exact Mem.here | apply Mem.there)) ?_)) ?_
                  rintro ⟨⟩
                  refine Jl.as (.bool true) (congrArg Value.bool (by simp)) ?_
                  refine Jl.nil ?_
                  refine Dh.Jq.segV (by repeat (first | exact Dh.FExt.refl | apply Dh.FExt.cons | apply Dh.FExt.app)) ?_ (by repeat (first | exact Dh.KeepL.nil | apply Dh.KeepL.anc (by rfl) | apply Dh.KeepL.keep (by repeat (first | exact Take.nil | apply Take.cons (by repeat (first | exact Del.here | apply Del.there))))))
                  refine Dh.JH.nil ?_
                  refine Dh.JB.pv rfl ⟨_, rfl, rfl⟩ (fun _ => PR.not rfl) ?_
                  refine Dh.JB.pv rfl trivial (fun _ => PR.pickF rfl rfl) ?_
                  refine Dh.JB.pv rfl trivial (fun _ => PR.move rfl) ?_
                  refine Dh.JB.pv rfl ⟨_, rfl, rfl⟩ (fun _ => PR.fieldAddr rfl tfl24_0) ?_
                  refine Dh.JB.rd [.blk _ _ _] rfl ⟨_, rfl, rfl⟩ (by repeat (first | exact Take.nil | apply Take.cons (by repeat (first | exact Del.here | apply Del.there)))) (fun _ => PR.load1 rfl tsh22 Has.here (by rfl)) ?_
                  refine Dh.JB.pv rfl ⟨_, rfl, rfl⟩ (fun _ => PR.len rfl tsl22) ?_
                  refine Dh.JB.pv rfl ⟨_, rfl, rfl⟩ (fun _ => PR.fieldAddr rfl tfl24_1) ?_
                  refine Dh.JB.rd [.blk _ _ _] rfl ⟨_, rfl, rfl⟩ (by repeat (first | exact Take.nil | apply Take.cons (by repeat (first | exact Del.here | apply Del.there)))) (fun _ => PR.load1 rfl tsh3 Has.here (by rfl)) ?_
                  refine Dh.JB.pv rfl ⟨_, rfl, rfl⟩ (fun _ => PR.move rfl) ?_
                  refine Dh.JB.pv rfl ⟨_, rfl, rfl⟩ (fun _ => PR.move rfl) ?_
                  refine Dh.JB.pv rfl ⟨_, rfl, rfl⟩ (fun _ => PR.idx1 k rfl rfl tsl26 (by repeat (first | exact Mem.here | apply Mem.there)) (by simp) rfl hkd) ?_
                  refine Dh.JB.pv rfl ⟨_, rfl, rfl⟩ (fun _ => PR.loadR rfl tsh3 (by repeat (first | exact Mem.here | apply Mem.there)) (getm hkd)) ?_
                  refine Dh.JB.pv rfl ⟨_, rfl, rfl⟩ (fun _ => PR.fieldAddr rfl tfl24_0) ?_
                  refine Dh.JB.rd [.blk _ _ _] rfl ⟨_, rfl, rfl⟩ (by repeat (first | exact Take.nil | apply Take.cons (by repeat (first | exact Del.here | apply Del.there)))) (fun _ => PR.load1 rfl tsh22 Has.here (by rfl)) ?_
                  refine Dh.JB.pv rfl ⟨_, rfl, rfl⟩ (fun _ => PR.len rfl tsl22) ?_
                  refine Dh.JB.pv rfl ⟨_, rfl, rfl⟩ (fun _ => PR.fieldAddr rfl tfl24_1) ?_
                  refine Dh.JB.rd [.blk _ _ _] rfl ⟨_, rfl, rfl⟩ (by repeat (first | exact Take.nil | apply Take.cons (by repeat (first | exact Del.here | apply Del.there)))) (fun _ => PR.load1 rfl tsh3 Has.here (by rfl)) ?_
                  refine Dh.JB.pv rfl ⟨_, rfl, rfl⟩ (fun _ => PR.sub (((d1.app b).b.length : Int) - (d1.app b).s) rfl rfl (w64 (by omega) (by omega))) ?_
                  refine Dh.JB.pv rfl ⟨_, rfl, rfl⟩ (fun _ => PR.min2 _ rfl rfl rfl) ?_
                  refine Dh.JB.pv rfl ⟨_, rfl, rfl⟩ (fun _ => PR.add _ rfl rfl (w64 (by omega) (by omega))) ?_
                  refine Dh.JB.pv rfl ⟨_, rfl, rfl⟩ (fun _ => PR.neq false rfl rfl (decide_eq_false (by omega))) ?_
                  refine Dh.JB.pv rfl trivial (fun _ => PR.pickF rfl rfl) ?_
                  refine Dh.JB.nil ?_
                  refine Dh.JL.nil ?_
                  refine Jq.thenN ?_
                  refine Jc.condF rfl ?_
                  refine Jc.skip ?_
                  refine Jq.thenN ?_
                  refine Jc.region ?_
                  refine Jl.pv (PR.loadW rfl tsh24 (by repeat (first | exact Has.here | apply Has.there)) (by rfl)) ?_
                  refine Jl.storeW rfl tsh24 rfl (by rfl) (by simp [Dk.cs, Value.oneCell']) (by repeat (first | exact Swap.here | apply Swap.there)) (by rfl) ?_
                  refine Jl.nil ?_
                  exact Jq.midT ⟨((d1.app b).crash ds[k], (A128, c128)), stays_crash hst0 hok1 _, hc128⟩ (by exact ⟨rfl, rfl, rfl, rfl, rfl, trivial⟩) (by repeat (first | exact Take.nil | apply Take.cons (by repeat (first | exact Del.here | apply Del.there)))) (by exact ⟨(by repeat (first | exact Mem.here | apply Mem.there)), (by repeat (first | exact Mem.here | apply Mem.there)), (by repeat (first | exact Mem.here | apply Mem.there)), (by repeat (first | exact Mem.here | apply Mem.there)), (by repeat (first | exact Mem.here | apply Mem.there)), trivial⟩)
                · try replace hge := of_decide_eq_false hge
                  refine Jc.skip ?_
                  exact Jq.midT ⟨(d1.app b, (A62, c62)), hst0, hc62⟩ (by exact ⟨rfl, rfl, rfl, rfl, rfl, trivial⟩) (by repeat (first | exact Take.nil | apply Take.cons (by repeat (first | exact Del.here | apply Del.there)))) (by exact ⟨(by repeat (first | exact Mem.here | apply Mem.there)), (by repeat (first | exact Mem.here | apply Mem.there)), (by repeat (first | exact Mem.here | apply Mem.there)), (by repeat (first | exact Mem.here | apply Mem.there)), (by repeat (first | exact Mem.here | apply Mem.there)), trivial⟩)
              · try replace g116 := of_decide_eq_false g116
                refine Jl.off rfl rfl rfl rfl ?_
                refine Jl.off rfl rfl rfl rfl ?_
                refine Jl.off rfl rfl rfl rfl ?_
                refine Jl.off rfl rfl rfl rfl ?_
                refine Jl.off rfl rfl rfl rfl ?_
                refine Jl.pv (PR.pickF rfl rfl) ?_
                refine Jl.nil ?_
                refine Jq.thenN ?_
                refine Jc.condF rfl ?_
                refine Jc.skip ?_
                exact Jq.midT ⟨(d1.app b, (A62, c62)), hst0, hc62⟩ (by exact ⟨rfl, rfl, rfl, rfl, rfl, trivial⟩) (by repeat (first | exact Take.nil | apply Take.cons (by repeat (first | exact Del.here | apply Del.there)))) (by exact ⟨(by repeat (first | exact Mem.here | apply Mem.there)), (by repeat (first | exact Mem.here | apply Mem.there)), (by repeat (first | exact Mem.here | apply Mem.there)), (by repeat (first | exact Mem.here | apply Mem.there)), (by repeat (first | exact Mem.here | apply Mem.there)), trivial⟩)
            · rintro ⟨⟨d2, x2⟩, hst, hcap2⟩
              replace hst : Stays d1 d2 (400 + 40 * (k + 1)) := hst
              replace hcap2 : d2.b.length ≤ x2.2 := hcap2
              have hl2 := hst.len
              have ho2 := hst.ok
              have how2 := Dk.ok_own ho2
              have hle2 := hst.le
              show Jc _ _ _ _ _ _ [(8, .int .i64 (k : Int)), (1, .slice L zs.length cL), (2, .slice D ds.length cD), (3, .pointer (some ⟨b3, 0, none⟩)), (7, .slice y1.1 d1.safe.length y1.2)] [.blk b3 24 (d2.cs x2)] [.rd L (psv zs), .ps zs, .rd D (ds.map (Value.int .i64)), .rd x2.1 (u8s d2.b), .rd y1.1 (u8s d1.safe)]
              refine Jc.mid (σ := { s : Dk × OAd // Stays d1 s.1 (400 + 40 * (k + 1)) ∧ s.1.b.length ≤ s.2.2 }) (fun _ => [(8, .int .i64 (k : Int)), (1, .slice L zs.length cL), (2, .slice D ds.length cD), (3, .pointer (some ⟨b3, 0, none⟩)), (7, .slice y1.1 d1.safe.length y1.2)]) (fun s => [.blk b3 24 (s.1.1.cs s.1.2)]) (fun s => [.rd L (psv zs), .ps zs, .rd D (ds.map (Value.int .i64)), .rd s.1.2.1 (u8s s.1.1.b), .rd y1.1 (u8s d1.safe)]) ?_ ?_
              · refine Jc.seq ?_
                refine Jc.region ?_
                refine Jl.pv (PR.move rfl) ?_
                refine Jl.pv (PR.move rfl) ?_
                refine Jl.pv (PR.len rfl tsl26) ?_
                refine Jl.pv (PR.lss _ rfl rfl rfl) ?_
                refine Jl.pv (PR.move rfl) ?_
                refine Jl.bsplit (fun g181 => ?_) (fun g181 => ?_)
                · try replace g181 := of_decide_eq_true g181
                  have hkd : k < ds.length := by omega
                  refine Jl.on rfl rfl ?_
                  refine Jl.pv (PR.move rfl) ?_
                  refine Jl.on rfl rfl ?_
                  refine Jl.pv (PR.move rfl) ?_
                  refine Jl.on rfl rfl ?_
                  refine Jl.pv (PR.idx1 k rfl rfl tsl26 (by repeat (first | exact Mem.here | apply Mem.there)) (by simp) rfl hkd) ?_
                  refine Jl.on rfl rfl ?_
                  refine Jl.pv (PR.loadR rfl tsh3 (by repeat (first | exact Mem.here | apply Mem.there)) (getm hkd)) ?_
                  refine Jl.on rfl rfl ?_
                  refine Jl.pv (PR.eql _ rfl rfl rfl) ?_
                  refine Jl.pv (PR.pickT rfl rfl) ?_
                  refine Jl.nil ?_
                  refine Jq.thenN ?_
                  refine Jc.cond rfl (fun hm1 => ?_) (fun hm1 => ?_)
                  · try replace hm1 := of_decide_eq_true hm1
                    refine Jc.seq ?_
                    refine Jc.region ?_
                    refine Jl.pv (PR.loadW rfl tsh24 (by repeat (first | exact Has.here | apply Has.there)) (by rfl)) ?_
                    refine Jl.call (sync_ct x2.1 x2.2 d2 (by omega) hcap2) en15 (by rfl) (by repeat (first | exact Take.nil | apply Take.cons (by repeat (first | exact Del.here | apply Del.there)))) (by repeat (first | exact trivial | refine And.intro (by repeat (first | exact Mem.here | apply Mem.there)) ?_)) ?_
                    rintro ⟨A189, c189⟩
                    refine Jl.sealC (by repeat (first | exact Del.here | apply Del.there)) (fun hc189 => ?_)
                    refine Jl.storeW rfl tsh24 rfl (by rfl) (by simp [Dk.cs, Value.oneCell']) (by repeat (first | exact Swap.here | apply Swap.there)) (by rfl) ?_
                    refine Jl.nil ?_
                    refine Jq.thenN ?_
                    refine Jc.seq ?_
                    refine Jc.region ?_
                    refine Jl.pv (PR.fieldAddr rfl tfl24_1) ?_
                    refine Jl.pv (PR.load1 rfl tsh3 (by repeat (first | exact Has.here | apply Has.there)) (by rfl)) ?_
                    refine Jl.pv (PR.fieldAddr rfl tfl24_0) ?_
                    refine Jl.pv (PR.load1 rfl tsh22 (by repeat (first | exact Has.here | apply Has.there)) (by rfl)) ?_
                    refine Jl.pv (PR.len rfl tsl22) ?_
                    refine Jl.pv (PR.neq false rfl rfl (decide_eq_false (fun h => h (by simp only [Dk.sync])))) ?_
                    refine Jl.nil ?_
                    refine Jq.thenN ?_
                    refine Jc.condF rfl ?_
                    refine Jc.skip ?_
                    exact Jq.midT ⟨(d2.sync, (A189, c189)), stays_sync hst hok1, hc189⟩ (by exact ⟨rfl, rfl, rfl, rfl, rfl, trivial⟩) (by repeat (first | exact Take.nil | apply Take.cons (by repeat (first | exact Del.here | apply Del.there)))) (by exact ⟨(by repeat (first | exact Mem.here | apply Mem.there)), (by repeat (first | exact Mem.here | apply Mem.there)), (by repeat (first | exact Mem.here | apply Mem.there)), (by repeat (first | exact Mem.here | apply Mem.there)), (by repeat (first | exact Mem.here | apply Mem.there)), trivial⟩)
                  · try replace hm1 := of_decide_eq_false hm1
                    refine Jc.skip ?_
                    exact Jq.midT ⟨(d2, x2), hst, hcap2⟩ (by exact ⟨rfl, rfl, rfl, rfl, rfl, trivial⟩) (by repeat (first | exact Take.nil | apply Take.cons (by repeat (first | exact Del.here | apply Del.there)))) (by exact ⟨(by repeat (first | exact Mem.here | apply Mem.there)), (by repeat (first | exact Mem.here | apply Mem.there)), (by repeat (first | exact Mem.here | apply Mem.there)), (by repeat (first | exact Mem.here | apply Mem.there)), (by repeat (first | exact Mem.here | apply Mem.there)), trivial⟩)
                · try replace g181 := of_decide_eq_false g181
                  refine Jl.off rfl rfl rfl rfl ?_
                  refine Jl.off rfl rfl rfl rfl ?_
                  refine Jl.off rfl rfl rfl rfl ?_
                  refine Jl.off rfl rfl rfl rfl ?_
                  refine Jl.off rfl rfl rfl rfl ?_
                  refine Jl.pv (PR.pickF rfl rfl) ?_
                  refine Jl.nil ?_
                  refine Jq.thenN ?_
                  refine Jc.condF rfl ?_
                  refine Jc.skip ?_
                  exact Jq.midT ⟨(d2, x2), hst, hcap2⟩ (by exact ⟨rfl, rfl, rfl, rfl, rfl, trivial⟩) (by repeat (first | exact Take.nil | apply Take.cons (by repeat (first | exact Del.here | apply Del.there)))) (by exact ⟨(by repeat (first | exact Mem.here | apply Mem.there)), (by repeat (first | exact Mem.here | apply Mem.there)), (by repeat (first | exact Mem.here | apply Mem.there)), (by repeat (first | exact Mem.here | apply Mem.there)), (by repeat (first | exact Mem.here | apply Mem.there)), trivial⟩)
              · rintro ⟨⟨d2, x2⟩, hst, hcap2⟩
                replace hst : Stays d1 d2 (400 + 40 * (k + 1)) := hst
                replace hcap2 : d2.b.length ≤ x2.2 := hcap2
                have hl2 := hst.len
                have ho2 := hst.ok
                have how2 := Dk.ok_own ho2
                have hle2 := hst.le
                show Jc _ _ _ _ _ _ [(8, .int .i64 (k : Int)), (1, .slice L zs.length cL), (2, .slice D ds.length cD), (3, .pointer (some ⟨b3, 0, none⟩)), (7, .slice y1.1 d1.safe.length y1.2)] [.blk b3 24 (d2.cs x2)] [.rd L (psv zs), .ps zs, .rd D (ds.map (Value.int .i64)), .rd x2.1 (u8s d2.b), .rd y1.1 (u8s d1.safe)]
                have hs2 := Dk.safe_len ho2
                have hf2 := ho2.2.2.1
                have heq2 := hst.eq
                refine Jc.seq ?_
                refine Jc.seq ?_
                refine Jc.region ?_
                refine Jl.pv (PR.fieldAddr rfl tfl24_1) ?_
                refine Jl.pv (PR.load1 rfl tsh3 (by repeat (first | exact Has.here | apply Has.there)) (by rfl)) ?_
                refine Jl.pv (PR.move rfl) ?_
                refine Jl.pv (PR.len rfl tsl22) ?_
                refine Jl.pv (PR.lss false rfl rfl (decide_eq_false (by omega))) ?_
                refine Jl.pv (PR.move rfl) ?_
                refine Jl.on rfl rfl ?_
                refine Jl.pv (PR.fieldAddr rfl tfl24_1) ?_
                refine Jl.on rfl rfl ?_
                refine Jl.pv (PR.load1 rfl tsh3 (by repeat (first | exact Has.here | apply Has.there)) (by rfl)) ?_
                refine Jl.on rfl rfl ?_
                refine Jl.pv (PR.fieldAddr rfl tfl24_0) ?_
                refine Jl.on rfl rfl ?_
                refine Jl.pv (PR.load1 rfl tsh22 (by repeat (first | exact Has.here | apply Has.there)) (by rfl)) ?_
                refine Jl.on rfl rfl ?_
                refine Jl.pv (PR.len rfl tsl22) ?_
                refine Jl.on rfl rfl ?_
                refine Jl.pv (PR.gtr false rfl rfl (decide_eq_false (by omega))) ?_
                refine Jl.pv (PR.pickF rfl rfl) ?_
                refine Jl.pv (PR.move rfl) ?_
                refine Jl.on rfl rfl ?_
                refine Jl.pv (PR.fieldAddr rfl tfl24_0) ?_
                refine Jl.on rfl rfl ?_
                refine Jl.pv (PR.load1 rfl tsh22 (by repeat (first | exact Has.here | apply Has.there)) (by rfl)) ?_
                refine Jl.on rfl rfl ?_
                refine Jl.pv (PR.move rfl) ?_
                refine Jl.on rfl rfl ?_
                refine Jl.pv (PR.len rfl tsl22) ?_
                refine Jl.on rfl rfl ?_
                refine Jl.slice 0 d1.safe.length d1.safe.length (u8s (d2.b.take d1.s.toNat)) rfl tsl22 rfl rfl (by repeat (first | exact Mem.here | apply Mem.there)) (by omega) (by omega) hcap2 rfl (by rw [show d1.s.toNat = d1.safe.length by omega]; simp [u8s, List.map_take]) ?_
                intro A214 c214 hc214
                clear hc214
                refine Jl.on rfl rfl ?_
                refine Jl.pv (PR.move rfl) ?_
                rw [heq2]
                refine Jl.on rfl rfl ?_
                refine Jl.call (dlsame_at d1.safe d1.safe rfl rfl) en12 (by rfl) (by repeat (first | exact Take.nil | apply Take.cons (by repeat (first | exact Del.here | apply Del.there)))) (by repeat (first | exact trivial | refine And.intro (by repeat (first | exact Mem.here | apply Mem.there)) ?_)) ?_
                rintro ⟨⟩
                refine Jl.as (.bool true) (congrArg Value.bool (by simp)) ?_
                refine Jl.on rfl rfl ?_
                refine Jl.pv (PR.not rfl) ?_
                refine Jl.pv (PR.pickF rfl rfl) ?_
                refine Jl.nil ?_
                refine Jq.thenN ?_
                refine Jc.condF rfl ?_
                refine Jc.skip ?_
                refine Jq.thenN ?_
                refine Jc.region ?_
                refine Jl.buildSlice (by rfl) tsl22 tzr22_0 (by rfl) (by rfl) ?_
                intro b219
                refine Jl.pv (PR.fieldAddr rfl tfl24_0) ?_
                refine Jl.pv (PR.load1 rfl tsh22 (by repeat (first | exact Has.here | apply Has.there)) (by rfl)) ?_
                refine Jl.pv (PR.fieldAddr rfl tfl24_1) ?_
                refine Jl.pv (PR.load1 rfl tsh3 (by repeat (first | exact Has.here | apply Has.there)) (by rfl)) ?_
                refine Jl.as (.int .i64 ((d2.safe.length : Nat) : Int)) (congrArg (Value.int .i64) hs2.symm) ?_
                refine Jl.slice 0 d2.safe.length d2.safe.length (u8s d2.safe) rfl tsl22 rfl rfl (by repeat (first | exact Mem.here | apply Mem.there)) (by omega) (by omega) hcap2 rfl (by rw [Dk.safe, show d2.s.toNat = (d2.b.take d2.s.toNat).length by have := hs2; simp only [Dk.safe] at this; omega]; simp [u8s, List.map_take]) ?_
                intro A224 c224 hc224
                clear hc224
                refine Jl.toRow 1 0 (by repeat (first | exact Swap.here | apply Swap.there)) (by rfl) (by rfl) ?_
                refine Jl.append d2.safe.length (u8s d2.safe) rfl rfl rfl tsl22 tze5 (by rfl) (by decide) tby5 (fun _ _ => (by repeat (first | exact Swap.here | apply Swap.there))) (by repeat (first | exact Mem.here | apply Mem.there)) (by omega) rfl (by simp [u8s]) (u8s_one _) (by omega) (by decide) ?_
                intro A225 c225
                refine Jl.sealR (by repeat (first | exact Del.here | apply Del.there)) ?_
                refine Jl.pv (PR.assign rfl) ?_
                refine Jl.nil ?_
                refine Jq.blkN ?_
                refine Jq.thenN ?_
                refine Jc.region ?_
                refine Jl.pv (PR.move rfl) ?_
                refine Jl.pv (PR.add ((k + 1 : Nat) : Int) rfl rfl (by rw [w64 (by omega) (by omega)]; rfl)) ?_
                refine Jl.pv (PR.assign rfl) ?_
                refine Jl.nil ?_
                exact Jq.againT ⟨k + 1, d2, x2, (A225, c225), hlt', ho2, hl2, hcap2⟩ (by simp only; omega) (by exact ⟨rfl, rfl, rfl, rfl, rfl, trivial⟩) (by repeat (first | exact Take.nil | apply Take.cons (by repeat (first | exact Del.here | apply Del.there)))) (by exact ⟨(by repeat (first | exact Mem.here | apply Mem.there)), (by repeat (first | exact Mem.here | apply Mem.there)), (by repeat (first | exact Mem.here | apply Mem.there)), (by repeat (first | exact Mem.here | apply Mem.there)), (by repeat (first | exact Mem.here | apply Mem.there)), trivial⟩)
      · try replace hlt := of_decide_eq_false hlt
        refine Jc.exit ?_
        refine Jq.thenX ?_
        refine Jq.thenX ?_
        refine Jq.blkX ?_
        refine Jq.thenN ?_
        refine Jc.seq ?_
        refine Jc.region ?_
        refine Jl.call dwakes_ct en9 (by rfl) (by repeat (first | exact Take.nil | apply Take.cons (by repeat (first | exact Del.here | apply Del.there)))) (by repeat (first | exact trivial | refine And.intro (by repeat (first | exact Mem.here | apply Mem.there)) ?_)) ?_
        rintro ⟨⟩
        refine Jl.pv (PR.assign rfl) ?_
        refine Jl.nil ?_
        refine Jq.thenN ?_
        refine Jc.ret ?_
        exact Jq.fin () (.inl rfl) rfl (RetVs.tmp rfl RetVs.nil) rfl (by repeat (first | exact Take.nil | apply Take.cons (by repeat (first | exact Del.here | apply Del.there)))) (by repeat (first | exact trivial | refine And.intro (by repeat (first | exact Mem.here | apply Mem.there)) ?_))
end Go.Proofs.Ythlmleemapeohaa
