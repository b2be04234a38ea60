/-
Contracts of the disk laws' helpers.
-/
import Derived.Test.YthlmleemapeohaaDkC
namespace Go.Proofs.Ythlmleemapeohaa
set_option linter.unusedVariables false
open Go.RowKit
attribute [local irreducible] Res.blk Res.row Fact.rd
theorem append_at {A B : Option Addr} {c c' n : Nat} {d d2 : Dk} {b : List UInt8} {e : Int} (hb : b.length = n) (h : d.app b = d2) (he : d.appE b = e) (hn : d.b.length ≤ 500000) (hc : d.b.length ≤ c) (hn' : n ≤ 100000) :
    Ct Try.prog 11 [d.v (A, c), .slice B n c'] [] [.rd A (u8s d.b), .rd B (u8s b)] (fun x => .tuple #[d2.v x, .int .i64 e]) (fun x => [d2.row x]) (fun _ => []) := by
  subst hb h he; exact append_ct A B c c' d b hn hc hn'
theorem swap_at {A B : Option Addr} {c c' n : Nat} {d d2 : Dk} {b : List UInt8} {e : Int} (hb : b.length = n) (h : d.swap b = d2) (he : d.swapE b = e) (hn : d.b.length ≤ 500000) (hc : d.b.length ≤ c) (hn' : n ≤ 100000) :
    Ct Try.prog 17 [d.v (A, c), .slice B n c'] [] [.rd A (u8s d.b), .rd B (u8s b)] (fun x => .tuple #[d2.v x, .int .i64 e]) (fun x => [d2.row x]) (fun _ => []) := by
  subst hb h he; exact swap_ct A B c c' d b hn hc hn'
theorem sync_at {A : Option Addr} {c : Nat} {d d2 : Dk} (h : d.sync = d2) (hn : d.b.length ≤ 500000) (hc : d.b.length ≤ c) : Ct Try.prog 15 [d.v (A, c)] [] [.rd A (u8s d.b)] d2.v (fun x => [d2.row x]) (fun _ => []) := by
  subst h; exact sync_ct A c d hn hc
theorem crash_at {A : Option Addr} {c : Nat} {d d2 : Dk} {k : Int} (h : d.crash k = d2) (hn : d.b.length ≤ 500000) (hc : d.b.length ≤ c) : Ct Try.prog 14 [d.v (A, c), .int .i64 k] [] [.rd A (u8s d.b)] d2.v (fun x => [d2.row x]) (fun _ => []) := by
  subst h; exact crash_ct A c d k hn hc
theorem dlsame_at {A B : Option Addr} {c d n m : Nat} (l l' : List UInt8) (h : l.length = n) (h' : l'.length = m) : Ct Try.prog 12 [.slice A n c, .slice B m d] [] [.rd A (u8s l), .rd B (u8s l')] (fun _ : Unit => .bool (decide (l = l'))) (fun _ => []) (fun _ => []) := by
  subst h h'
  refine Ct.of _ Try.func12 Try.ntmps12 rfl rfl (fun X W => ?_)
  refine Jc.seq ?_
  refine Jc.region ?_
  refine Jl.pv (PR.assign rfl) ?_
  refine Jl.nil ?_
  refine Jq.thenN ?_
  refine Jc.seq ?_
  refine Jc.region ?_
  refine Jl.pv (PR.move rfl) ?_
  refine Jl.pv (PR.str rfl Try.underlying22 Try.underlying5 Try.underlying9 (by repeat (first | exact Mem.here | apply Mem.there)) rfl) ?_
  refine Jl.pv (PR.move rfl) ?_
  refine Jl.pv (PR.str rfl Try.underlying22 Try.underlying5 Try.underlying9 (by repeat (first | exact Mem.here | apply Mem.there)) rfl) ?_
  refine Jl.pv (PR.seql _ rfl rfl rfl) ?_
  refine Jl.pv (PR.assign rfl) ?_
  refine Jl.nil ?_
  refine Jq.thenN ?_
  refine Jc.ret ?_
  exact Jq.fin () (.inl rfl) rfl (RetVs.tmp rfl RetVs.nil) rfl (by repeat (first | exact Take.nil | apply Take.cons (by repeat (first | exact Del.here | apply Del.there)))) (by repeat (first | exact trivial | refine And.intro (by repeat (first | exact Mem.here | apply Mem.there)) ?_))
theorem great_ct (A : Option Addr) (n c : Nat) (s r : Int) : Ct Try.prog 8 [.agg #[.slice A n c, .int .i64 s, .int .i64 r]] [] [] (fun _ : Unit => .bool (decide (400 < n))) (fun _ => []) (fun _ => []) := by
  refine Ct.of _ Try.func8 Try.ntmps8 rfl rfl (fun X W => ?_)
  refine Jc.seq ?_
  refine Jc.region ?_
  refine Jl.box rfl (by rfl) ?_
  intro b1
  refine Jl.pv (PR.assign rfl) ?_
  refine Jl.nil ?_
  refine Jq.thenN ?_
  refine Jc.seq ?_
  refine Jc.region ?_
  refine Jl.pv (PR.fieldAddr rfl tfl24_0) ?_
  refine Jl.pv (PR.load1 rfl tsh22 (by repeat (first | exact Has.here | apply Has.there)) (by rfl)) ?_
  refine Jl.pv (PR.len rfl tsl22) ?_
  refine Jl.pv (PR.gtr (decide (400 < n)) rfl rfl (by rw [decide_eq_decide]; omega)) ?_
  refine Jl.pv (PR.assign rfl) ?_
  refine Jl.nil ?_
  refine Jq.thenN ?_
  refine Jc.ret ?_
  exact Jq.fin () (.inl rfl) rfl (RetVs.tmp rfl RetVs.nil) rfl (by repeat (first | exact Take.nil | apply Take.cons (by repeat (first | exact Del.here | apply Del.there)))) (by repeat (first | exact trivial | refine And.intro (by repeat (first | exact Mem.here | apply Mem.there)) ?_))
def w1 : Dk := ⟨[1, 2, 3], 0, 9⟩
def w2 : Dk := ⟨[1, 2, 3], 3, 9⟩
def w3 : Dk := ⟨[1, 2, 3, 4, 5], 3, 9⟩
def w4 : Dk := ⟨[1, 2, 3, 4], 4, 9⟩
theorem dwakes_ct : Ct Try.prog 9 [] [] [] (fun _ : Unit => .bool true) (fun _ => []) (fun _ => []) := by
  refine Ct.of _ Try.func9 Try.ntmps9 rfl rfl (fun X W => ?_)
  refine Jc.seq ?_
  refine Jc.region ?_
  refine Jl.pv (PR.assign rfl) ?_
  refine Jl.nil ?_
  refine Jq.thenN ?_
  refine Jc.seq ?_
  refine Jc.region ?_
  refine Jl.call (new_ct 9) en19 (by rfl) (by repeat (first | exact Take.nil | apply Take.cons (by repeat (first | exact Del.here | apply Del.there)))) (by repeat (first | exact trivial | refine And.intro (by repeat (first | exact Mem.here | apply Mem.there)) ?_)) ?_
  rintro ⟨A8, c8⟩
  refine Jl.sealC (by repeat (first | exact Del.here | apply Del.there)) (fun hc8 => ?_)
  refine Jl.buildSlice (by rfl) tsl22 tzr22_3 (by rfl) (by rfl) ?_
  intro b9
  refine Jl.seal (by repeat (first | exact Del.here | apply Del.there)) ?_
  refine Jl.call (append_at (d := Dk.new 9) (b := [1, 2, 3]) (d2 := w1) (e := 0) rfl rfl rfl (by decide) hc8 (by decide)) en11 (by rfl) (by repeat (first | exact Take.nil | apply Take.cons (by repeat (first | exact Del.here | apply Del.there)))) (by repeat (first | exact trivial | refine And.intro (by repeat (first | exact Mem.here | apply Mem.there)) ?_)) ?_
  rintro ⟨A10, c10⟩
  refine Jl.sealC (by repeat (first | exact Del.here | apply Del.there)) (fun hc10 => ?_)
  refine Jl.pv (PR.move rfl) ?_
  refine Jl.pv (PR.extract rfl (by rfl)) ?_
  refine Jl.pv (PR.extract rfl (by rfl)) ?_
  refine Jl.alloc tze24 ?_
  intro b1
  refine Jl.storeW rfl tsh24 rfl (by rfl) (by simp [Value.oneCell']) (by repeat (first | exact Swap.here | apply Swap.there)) (by rfl) ?_
  refine Jl.pv (PR.assign rfl) ?_
  refine Jl.nil ?_
  refine Jq.thenN ?_
  refine Jc.seq ?_
  refine Jc.region ?_
  refine Jl.pv (PR.loadW rfl tsh24 (by repeat (first | exact Has.here | apply Has.there)) (by rfl)) ?_
  refine Jl.call (sync_at (d := w1) (d2 := w2) rfl (by decide) hc10) en15 (by rfl) (by repeat (first | exact Take.nil | apply Take.cons (by repeat (first | exact Del.here | apply Del.there)))) (by repeat (first | exact trivial | refine And.intro (by repeat (first | exact Mem.here | apply Mem.there)) ?_)) ?_
  rintro ⟨A15, c15⟩
  refine Jl.sealC (by repeat (first | exact Del.here | apply Del.there)) (fun hc15 => ?_)
  refine Jl.buildSlice (by rfl) tsl22 tzr22_2 (by rfl) (by rfl) ?_
  intro b16
  refine Jl.seal (by repeat (first | exact Del.here | apply Del.there)) ?_
  refine Jl.call (append_at (d := w2) (b := [4, 5]) (d2 := w3) (e := 0) rfl rfl rfl (by decide) hc15 (by decide)) en11 (by rfl) (by repeat (first | exact Take.nil | apply Take.cons (by repeat (first | exact Del.here | apply Del.there)))) (by repeat (first | exact trivial | refine And.intro (by repeat (first | exact Mem.here | apply Mem.there)) ?_)) ?_
  rintro ⟨A17, c17⟩
  refine Jl.sealC (by repeat (first | exact Del.here | apply Del.there)) (fun hc17 => ?_)
  refine Jl.pv (PR.move rfl) ?_
  refine Jl.pv (PR.extract rfl (by rfl)) ?_
  refine Jl.pv (PR.extract rfl (by rfl)) ?_
  refine Jl.storeW rfl tsh24 rfl (by rfl) (by simp [Value.oneCell']) (by repeat (first | exact Swap.here | apply Swap.there)) (by rfl) ?_
  refine Jl.pv (PR.assign rfl) ?_
  refine Jl.nil ?_
  refine Jq.thenN ?_
  refine Jc.seq ?_
  refine Jc.region ?_
  refine Jl.pv (PR.loadW rfl tsh24 (by repeat (first | exact Has.here | apply Has.there)) (by rfl)) ?_
  refine Jl.call (crash_at (d := w3) (d2 := w4) (k := 1) rfl (by decide) hc17) en14 (by rfl) (by repeat (first | exact Take.nil | apply Take.cons (by repeat (first | exact Del.here | apply Del.there)))) (by repeat (first | exact trivial | refine And.intro (by repeat (first | exact Mem.here | apply Mem.there)) ?_)) ?_
  rintro ⟨A21, c21⟩
  refine Jl.sealC (by repeat (first | exact Del.here | apply Del.there)) (fun hc21 => ?_)
  refine Jl.alloc tze24 ?_
  intro b4
  refine Jl.storeW rfl tsh24 rfl (by rfl) (by simp [Value.oneCell']) (by repeat (first | exact Swap.here | apply Swap.there)) (by rfl) ?_
  refine Jl.nil ?_
  refine Jq.thenN ?_
  refine Jc.seq ?_
  refine Jc.drawn [0, 0, 3, 7, 15, 15, 0, 95, 255] ([(8, false)], []) [⟨[(0, false), (6, true)], [], 1⟩, ⟨[], [], 2⟩, ⟨[(3, false), (4, false), (5, false)], [6], 7⟩] tmx (by kernel_rfl) ?_
  refine Dh.JH.cons ?_
  refine Dh.JB.rd [.blk _ _ _] rfl trivial (by repeat (first | exact Take.nil | apply Take.cons (by repeat (first | exact Del.here | apply Del.there)))) (fun _ => PR.loadW rfl tsh24 Has.here (by rfl)) ?_
  refine Dh.JB.alloc rfl trivial tze24 ?_
  refine Dh.JB.nil ?_
  refine Dh.JL.nil ?_
  refine Dh.JE.mk rfl (fun _ h => by cases h) (fun C4_1 => ?_)
  refine Jl.makeSlice (m := 6) (e := 5) (cs := u8s [0, 0, 0, 0, 0, 0]) (fun _ => by kernel_rfl) rfl rfl ?_
  intro b24
  refine Jl.nil ?_
  refine Dh.Jq.segV (by repeat (first | exact Dh.FExt.refl | apply Dh.FExt.cons | apply Dh.FExt.app)) ?_ (by repeat (first | exact Dh.KeepL.nil | apply Dh.KeepL.anc (by rfl) | apply Dh.KeepL.keep (by repeat (first | exact Take.nil | apply Take.cons (by repeat (first | exact Del.here | apply Del.there))))))
  refine Dh.JH.cons ?_
  refine Dh.JB.nil ?_
  refine Dh.JL.nil ?_
  refine Dh.JE.mk rfl (fun _ h => by cases h) (fun C4_2 => ?_)
  refine Jl.seal (by repeat (first | exact Del.here | apply Del.there)) ?_
  refine Jl.call (append_at (d := w4) (b := [0, 0, 0, 0, 0, 0]) (d2 := w4) (e := 30) rfl rfl rfl (by decide) hc21 (by decide)) en11 (by rfl) (by repeat (first | exact Take.nil | apply Take.cons (by repeat (first | exact Del.here | apply Del.there)))) (by repeat (first | exact trivial | refine And.intro (by repeat (first | exact Mem.here | apply Mem.there)) ?_)) ?_
  rintro ⟨A25, c25⟩
  refine Jl.nil ?_
  refine Dh.Jq.segV (by repeat (first | exact Dh.FExt.refl | apply Dh.FExt.cons | apply Dh.FExt.app)) ?_ (by repeat (first | exact Dh.KeepL.nil | apply Dh.KeepL.anc (by rfl) | apply Dh.KeepL.keep (by repeat (first | exact Take.nil | apply Take.cons (by repeat (first | exact Del.here | apply Del.there))))))
  refine Dh.JH.cons ?_
  refine Dh.JB.pv rfl trivial (fun _ => PR.move rfl) ?_
  refine Dh.JB.pv rfl trivial (fun _ => PR.extract rfl (by rfl)) ?_
  refine Dh.JB.pv rfl trivial (fun _ => PR.extract rfl (by rfl)) ?_
  refine Dh.JB.nil ?_
  refine Dh.JL.ptr rfl (by repeat (first | exact Dh.es_here | apply Dh.es_there)) (fun b5 => ?_)
  refine Dh.JL.nil ?_
  refine Dh.JE.mk rfl (fun _ h => by cases h) (fun C4_7 => ?_)
  refine Jl.storeW rfl tsh24 rfl (by rfl) (by simp [Value.oneCell']) (by repeat (first | exact Swap.here | apply Swap.there)) (by rfl) ?_
  refine Jl.nil ?_
  refine Dh.Jq.segN (by repeat (first | exact Dh.FExt.refl | apply Dh.FExt.cons | apply Dh.FExt.app)) ?_ (by repeat (first | exact Dh.KeepL.nil | apply Dh.KeepL.anc (by rfl) | apply Dh.KeepL.keep (by repeat (first | exact Take.nil | apply Take.cons (by repeat (first | exact Del.here | apply Del.there))))))
  refine Dh.JH.nil ?_
  refine Dh.JB.pv rfl trivial (fun _ => PR.assign rfl) ?_
  refine Dh.JB.nil ?_
  refine Dh.JL.nil ?_
  refine Jq.thenN ?_
  refine Jc.seq ?_
  refine Jc.region ?_
  refine Jl.pv (PR.move rfl) ?_
  refine Jl.pv (PR.eql true rfl rfl rfl) ?_
  refine Jl.pv (PR.move rfl) ?_
  refine Jl.on rfl rfl ?_
  refine Jl.pv (PR.move rfl) ?_
  refine Jl.on rfl rfl ?_
  refine Jl.pv (PR.eql true rfl rfl rfl) ?_
  refine Jl.pv (PR.pickT rfl rfl) ?_
  refine Jl.pv (PR.move rfl) ?_
  refine Jl.on rfl rfl ?_
  refine Jl.pv (PR.fieldAddr rfl tfl24_0) ?_
  refine Jl.on rfl rfl ?_
  refine Jl.pv (PR.load1 rfl tsh22 (by repeat (first | exact Has.here | apply Has.there)) (by rfl)) ?_
  refine Jl.on rfl rfl ?_
  refine Jl.buildSlice (by rfl) tsl22 tzr22_4 (by rfl) (by rfl) ?_
  intro b37
  refine Jl.seal (by repeat (first | exact Del.here | apply Del.there)) ?_
  refine Jl.on rfl rfl ?_
  refine Jl.call (dlsame_at [1, 2, 3, 4] [1, 2, 3, 4] rfl rfl) en12 (by rfl) (by repeat (first | exact Take.nil | apply Take.cons (by repeat (first | exact Del.here | apply Del.there)))) (by repeat (first | exact trivial | refine And.intro (by repeat (first | exact Mem.here | apply Mem.there)) ?_)) ?_
  rintro ⟨⟩
  refine Jl.as (.bool true) (congrArg Value.bool (by decide)) ?_
  refine Jl.pv (PR.pickT rfl rfl) ?_
  refine Jl.pv (PR.move rfl) ?_
  refine Jl.on rfl rfl ?_
  refine Jl.pv (PR.fieldAddr rfl tfl24_1) ?_
  refine Jl.on rfl rfl ?_
  refine Jl.pv (PR.load1 rfl tsh3 (by repeat (first | exact Has.here | apply Has.there)) (by rfl)) ?_
  refine Jl.on rfl rfl ?_
  refine Jl.pv (PR.eql true rfl rfl rfl) ?_
  refine Jl.pv (PR.pickT rfl rfl) ?_
  refine Jl.pv (PR.move rfl) ?_
  refine Jl.on rfl rfl ?_
  refine Jl.pv (PR.fieldAddr rfl tfl24_2) ?_
  refine Jl.on rfl rfl ?_
  refine Jl.pv (PR.load1 rfl tsh3 (by repeat (first | exact Has.here | apply Has.there)) (by rfl)) ?_
  refine Jl.on rfl rfl ?_
  refine Jl.pv (PR.eql true rfl rfl rfl) ?_
  refine Jl.pv (PR.pickT rfl rfl) ?_
  refine Jl.pv (PR.move rfl) ?_
  refine Jl.on rfl rfl ?_
  refine Jl.pv (PR.move rfl) ?_
  refine Jl.on rfl rfl ?_
  refine Jl.pv (PR.eql true rfl rfl rfl) ?_
  refine Jl.pv (PR.pickT rfl rfl) ?_
  refine Jl.pv (PR.move rfl) ?_
  refine Jl.on rfl rfl ?_
  refine Jl.pv (PR.loadW rfl tsh24 (by repeat (first | exact Has.here | apply Has.there)) (by rfl)) ?_
  refine Jl.on rfl rfl ?_
  refine Jl.call (free_ct A21 c21 w4 (by decide)) en24 (by rfl) (by repeat (first | exact Take.nil | apply Take.cons (by repeat (first | exact Del.here | apply Del.there)))) (by repeat (first | exact trivial | refine And.intro (by repeat (first | exact Mem.here | apply Mem.there)) ?_)) ?_
  rintro ⟨⟩
  refine Jl.on rfl rfl ?_
  refine Jl.pv (PR.eql true rfl rfl (by decide)) ?_
  refine Jl.pv (PR.pickT rfl rfl) ?_
  refine Jl.pv (PR.move rfl) ?_
  refine Jl.on rfl rfl ?_
  refine Jl.pv (PR.loadW rfl tsh24 (by repeat (first | exact Has.here | apply Has.there)) (by rfl)) ?_
  refine Jl.on rfl rfl ?_
  refine Jl.call (crash_at (d := w3) (d2 := w2) (k := -1) rfl (by decide) hc17) en14 (by rfl) (by repeat (first | exact Take.nil | apply Take.cons (by repeat (first | exact Del.here | apply Del.there)))) (by repeat (first | exact trivial | refine And.intro (by repeat (first | exact Mem.here | apply Mem.there)) ?_)) ?_
  rintro ⟨A61, c61⟩
  refine Jl.on rfl rfl ?_
  refine Jl.pv (PR.field1 rfl tfl24_0 ⟨_, _, Try.underlying24, rfl, tsh22⟩ (by rfl)) ?_
  refine Jl.on rfl rfl ?_
  refine Jl.pv (PR.len rfl tsl22) ?_
  refine Jl.on rfl rfl ?_
  refine Jl.pv (PR.eql true rfl rfl rfl) ?_
  refine Jl.pv (PR.pickT rfl rfl) ?_
  refine Jl.pv (PR.assign rfl) ?_
  refine Jl.nil ?_
  refine Jq.thenN ?_
  refine Jc.ret ?_
  exact Jq.fin () (.inl rfl) rfl (RetVs.tmp rfl RetVs.nil) rfl (by repeat (first | exact Take.nil | apply Take.cons (by repeat (first | exact Del.here | apply Del.there)))) (by repeat (first | exact trivial | refine And.intro (by repeat (first | exact Mem.here | apply Mem.there)) ?_))
end Go.Proofs.Ythlmleemapeohaa
