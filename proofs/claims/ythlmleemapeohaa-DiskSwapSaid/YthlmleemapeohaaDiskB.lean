/-
Contracts of the disk's functions: parts, put.
-/
import Derived.Test.YthlmleemapeohaaDiskA
import Derived.Test.YthlmleemapeohaaRange
namespace Go.Proofs.Ythlmleemapeohaa
open Go.RowKit
attribute [local go_sem] Oper.semAt_some

def hdr (h : Option Addr × Nat × Nat) : Value := .slice h.1 h.2.1 h.2.2
def full (hs : List (Option Addr × Nat × Nat)) : List (Option Addr × Nat × Nat) := hs.filter fun h => decide (0 < h.2.1)

theorem full_succ (hs : List (Option Addr × Nat × Nat)) (k : Nat) (hk : k < hs.length) : full (hs.take (k + 1)) = full (hs.take k) ++ full [hs[k]] := by
  unfold full
  rw [← List.filter_append, List.take_succ_eq_append_getElem hk]
theorem full_at (hs : List (Option Addr × Nat × Nat)) (k : Nat) (hk : k < hs.length) (hp : 0 < hs[k].2.1) : (full hs)[(full (hs.take k)).length]? = some hs[k] := by
  have h : full hs = full (hs.take k) ++ full (hs.drop k) := by unfold full; rw [← List.filter_append, List.take_append_drop]
  rw [h, List.getElem?_append_right (Nat.le_refl _), Nat.sub_self, List.drop_eq_getElem_cons hk]
  unfold full
  rw [List.filter_cons_of_pos (by simpa using hp)]
  rfl
theorem full_lt (hs : List (Option Addr × Nat × Nat)) (k : Nat) (hk : k < hs.length) (hp : 0 < hs[k].2.1) : (full (hs.take k)).length < (full hs).length :=
  (List.getElem?_eq_some_iff.1 (full_at hs k hk hp)).1

set_option maxHeartbeats 400000 in
theorem parts1_iter (lo hi Bl cL : Nat) (AL : Option Addr) (hs : List (Option Addr × Nat × Nat)) (w0 : World) (hn : hs.length ≤ 1000000)
    (hbox : w0.cell? ⟨Bl, 0, none⟩ = some (.slice AL hs.length cL)) (hr : Rd w0 lo hi AL (hs.map hdr)) :
    Iter Try.prog 36 #[.pointer (some ⟨Bl, 0, none⟩)] (full hs).length (fun k vs _ _ => ∃ h, (full hs)[k]? = some h ∧ vs = #[hdr h])
      (fun b => b = Bl ∨ (lo ≤ b ∧ b < hi)) w0 := by
  intro l J Jx W hsz hK hJ hJx hY h0
  have hboxW : W.cell? ⟨Bl, 0, none⟩ = some (.slice AL hs.length cL) := (World.cell?_of_block (hK Bl (.inl rfl))).trans hbox
  refine callsIn_of_wp Try.func36 rfl trivial ?_ rfl
  simp only [Try.ntmps36, List.size_toArray, List.length_cons, List.length_nil, Nat.reduceAdd, Nat.reduceSub, Array.replicate_succ, Array.replicate_zero, List.push_toArray, List.append_toArray, List.nil_append, List.cons_append]
  gi_wp2
  gi_loopw [7] (fun i wr => ∃ k : Nat, k ≤ hs.length ∧ i = .int .i64 k ∧ J (full (hs.take k)).length (fun _ => False) wr ∧ W.heap.size ≤ wr.heap.size ∧ (∀ b, (b = Bl ∨ (lo ≤ b ∧ b < hi)) → wr.heap[b]? = w0.heap[b]?)) (fun i _ => hs.length - (intOf i).toNat)
  case atStart => exact ⟨0, Nat.zero_le _, rfl, h0, Nat.le_refl _, hK⟩
  case round =>
    obtain ⟨k, hk, rfl, hJk, hszk, hKk⟩ := hrel
    by_cases hlt : k < hs.length
    · obtain ⟨a, rfl, h1, h2, hc⟩ := (hr.keep (w' := wr) (fun b h1 h2 => hKk b (.inr ⟨h1, h2⟩))).some_ (j := k) (by simpa using hlt)
      simp only [List.getElem_map, hdr] at hc
      have hsucc := Lib.hid (full_succ hs k hlt)
      by_cases hp : 0 < hs[k].2.1
      · obtain ⟨fn, tmps, assign, body, hy, hR⟩ := hY _ _ _ wr (full_lt hs k hlt hp) hJk hszk hKk (fun _ h => h.elim) ⟨hs[k], full_at hs k hlt hp, rfl⟩
        dsimp only [hdr] at hy
        gi_wp2
        refine ⟨rfl, hR.mono ?_⟩
        rintro e W3 (⟨rfl, hJ3, hz3, hK3, _⟩ | ⟨rfl, hJx3⟩)
        · gi_wp2
          go_roundw
          case rel => exact ⟨k + 1, by omega, by go_num, by rw [hsucc.out]; simpa [full, hp] using hJ3, by omega, fun b hb => (hK3 b hb).trans (hKk b hb)⟩
          case measure => simp [intOf]; omega
        · gi_wp2
          refine bodyPost_ret (results_none rfl _ _ _) rfl ?_
          exact ⟨⟨_, rfl⟩, .inr ⟨_, _, full_lt hs k hlt hp, hJx3⟩⟩
      · gi_wp2
        refine ⟨fun _ h => (by cases h), ?_⟩
        gi_wp2
        go_roundw
        case rel => exact ⟨k + 1, by omega, by go_num, by rw [hsucc.out]; simpa [full, hp] using hJk, hszk, hKk⟩
        case measure => simp [intOf]; omega
    · gi_wp2
      go_end0
      exact ⟨⟨_, rfl⟩, .inl ⟨_, by rw [List.take_of_length_le (by omega)] at hJk; exact hJk⟩⟩
theorem parts_any (AL : Option Addr) (n cL : Nat) (w : World) :
    Calls Try.prog 34 #[.slice AL n cL] w fun e w' => e = .returned (.func (.func 36) #[] #[.pointer (some ⟨w.heap.size, 0, none⟩)]) ∧
      w.alloc (.cells #[.slice AL n cL] 25) = w' := by
  go_enter Try.func34, Try.ntmps34
  go_wp2
  go_ret
  exact ⟨rfl, rfl⟩

/-- The bytes of parts. -/
def Parts (w : World) (lo hi : Nat) : List (Option Addr × Nat × Nat) → List (List UInt8) → Prop
  | [], [] => True
  | h :: hs, l :: ls => (h.2.1 = l.length ∧ Rd w lo hi h.1 (u8s l)) ∧ Parts w lo hi hs ls
  | _, _ => False
def solid (ls : List (List UInt8)) : List (List UInt8) := ls.filter fun l => decide (0 < l.length)
theorem solid_flatten (ls : List (List UInt8)) : (solid ls).flatten = ls.flatten := by
  induction ls with
  | nil => rfl
  | cons l ls ih =>
    unfold solid at ih ⊢
    by_cases h : 0 < l.length
    · simp [List.filter_cons, h, ih]
    · have : l = [] := List.eq_nil_of_length_eq_zero (by omega)
      subst this
      simpa using ih
theorem Parts.full {w : World} {lo hi : Nat} : ∀ {hs : List (Option Addr × Nat × Nat)} {ls : List (List UInt8)}, Parts w lo hi hs ls → Parts w lo hi (full hs) (solid ls)
  | [], [], _ => trivial
  | h :: hs, l :: ls, hp => by
    have ih := Parts.full hp.2
    unfold Go.Proofs.Ythlmleemapeohaa.full solid at ih ⊢
    by_cases hl : 0 < l.length
    · rw [List.filter_cons_of_pos (by simpa [hp.1.1] using hl), List.filter_cons_of_pos (by simpa using hl)]
      exact ⟨hp.1, ih⟩
    · rw [List.filter_cons_of_neg (by simpa [hp.1.1] using hl), List.filter_cons_of_neg (by simpa using hl)]
      exact ih
  | [], _ :: _, hp => hp.elim
  | _ :: _, [], hp => hp.elim
theorem Parts.len {w : World} {lo hi : Nat} : ∀ {hs : List (Option Addr × Nat × Nat)} {ls : List (List UInt8)}, Parts w lo hi hs ls → hs.length = ls.length
  | [], [], _ => rfl
  | h :: hs, l :: ls, hp => by simp [Parts.len hp.2]
  | [], _ :: _, hp => hp.elim
  | _ :: _, [], hp => hp.elim
theorem Parts.at {w : World} {lo hi : Nat} : ∀ {hs : List (Option Addr × Nat × Nat)} {ls : List (List UInt8)}, Parts w lo hi hs ls → ∀ (k : Nat) {h : Option Addr × Nat × Nat}, hs[k]? = some h → ∃ l, ls[k]? = some l ∧ h.2.1 = l.length ∧ Rd w lo hi h.1 (u8s l)
  | [], [], _, k, h, e => by simp at e
  | h :: hs, l :: ls, hp, 0, h', e => by simp at e; subst e; exact ⟨l, rfl, hp.1⟩
  | h :: hs, l :: ls, hp, k + 1, h', e => by simp at e ⊢; exact Parts.at hp.2 k e
  | [], _ :: _, hp, _, _, _ => hp.elim
  | _ :: _, [], hp, _, _, _ => hp.elim
/-- The bytes of the first k. -/
def pre (ls : List (List UInt8)) (k : Nat) : List UInt8 := (ls.take k).flatten
theorem flat_succ (ls : List (List UInt8)) (k : Nat) (l : List UInt8) (h : ls[k]? = some l) : pre ls (k + 1) = pre ls k ++ l := by
  unfold pre
  obtain ⟨hk, e⟩ := List.getElem?_eq_some_iff.1 h
  rw [List.take_succ_eq_append_getElem hk, e]
  simp
theorem flat_le (ls : List (List UInt8)) (k : Nat) : (pre ls k).length ≤ ls.flatten.length := by
  unfold pre
  conv => rhs; rw [← List.take_append_drop k ls]
  rw [List.flatten_append, List.length_append]
  omega

def putI (w : World) (dv : Array Value) (safe r : Int) (fl : List (List UInt8)) (k : Nat) (X : Nat → Prop) (W : World) : Prop :=
  ∃ A' c', XOwn (w.heap.size + 4) 5 1 (.slice A' (pre fl k).length c') (pre fl k).length (u8s (pre fl k)) X W ∧
      XBk (w.heap.size + 1) 24 #[.slice A' (pre fl k).length c', .int .i64 safe, .int .i64 r] X W ∧
      XBk (w.heap.size + 2) 30 #[.int .i64 (if r < (pre fl k).length then 30 else 0)] X W ∧ XBk w.heap.size 24 dv X W ∧ XBelow w.heap.size w X W
theorem putI_framed (w : World) (dv : Array Value) (safe r : Int) (fl : List (List UInt8)) : Framed (putI w dv safe r fl) :=
  framed_of fun k => Fr.ex fun A' => Fr.ex fun c' => (fr_own _ _ _ _ _ _).and ((fr_bk _ _ _).and ((fr_bk _ _ _).and ((fr_bk _ _ _).and (fr_below _ _))))

theorem putI_zero {w : World} {dv : Array Value} {safe r : Int} {fl : List (List UInt8)} {W : World} (hr : 0 ≤ r) (h1 : Bk W (w.heap.size + 1) 24 #[.slice none 0 0, .int .i64 safe, .int .i64 r])
    (h2 : Bk W (w.heap.size + 2) 30 #[.int .i64 0]) (h3 : Bk W w.heap.size 24 dv) (hb : Below w.heap.size w W) (hz : w.heap.size ≤ W.heap.size) : putI w dv safe r fl 0 (fun _ => False) W := by
  have e : pre fl 0 = [] := rfl
  have h0 : ¬ r < ((([] : List UInt8).length : Nat) : Int) := by simp; omega
  refine ⟨none, 0, ?_, ?_, ?_, ⟨id, h3⟩, fun _ h => h.elim, hb, hz⟩ <;> rw [e]
  · exact ⟨World.ownsRow_nil _ _ _ _, fun _ _ h => h⟩
  · exact ⟨id, h1⟩
  · exact ⟨id, by rw [if_neg h0]; exact h2⟩

theorem putI_step {w : World} {dv : Array Value} {safe r ev : Int} {fl : List (List UInt8)} {k : Nat} {X K : Nat → Prop} {W2 W3 : World} {pl : List UInt8} {A' A3 : Option Addr} {c' c3 : Nat}
    (hs : pre fl (k + 1) = pre fl k ++ pl) (hK : ∀ b, K b → b = w.heap.size + 3 ∨ b < w.heap.size)
    (hown : W2.ownsRow (w.heap.size + 4) 5 1 (.slice A' (pre fl k).length c') (pre fl k).length (u8s (pre fl k))) (hox : ∀ g, (Value.slice A' (pre fl k).length c').ownBlock = some g → ¬ X g)
    (hx1 : ¬ X (w.heap.size + 1)) (hb1 : Bk W2 (w.heap.size + 1) 24 #[.slice A' (pre fl k).length c', .int .i64 safe, .int .i64 r])
    (hx2 : ¬ X (w.heap.size + 2)) (hb2 : Bk W2 (w.heap.size + 2) 30 #[.int .i64 ev])
    (hx3 : ¬ X w.heap.size) (hb0 : Bk W2 w.heap.size 24 dv)
    (hxb : ∀ b, X b → w.heap.size ≤ b) (hX : ∀ b, X b → b < W2.heap.size) (hz : w.heap.size + 4 ≤ W2.heap.size) (hbel : Below w.heap.size w W2)
    (hown3 : W3.ownsRow (w.heap.size + 4) 5 1 (.slice A3 ((pre fl k).length + pl.length) c3) ((pre fl k).length + pl.length) (u8s (pre fl k) ++ u8s pl))
    (hg3 : W2.grownBy W3 (Value.slice A' (pre fl k).length c').ownBlock)
    (hat3 : (Value.slice A3 ((pre fl k).length + pl.length) c3).ownBlock = (Value.slice A' (pre fl k).length c').ownBlock ∨ (Value.slice A3 ((pre fl k).length + pl.length) c3).ownBlock = some W2.heap.size) (W4 W5 : World)
    (h4 : W3.setCell ⟨w.heap.size + 1, 0, none⟩ (.slice A3 ((pre fl k).length + pl.length) c3) = W4)
    (h5 : W5 = W4 ∧ ev = (if r < ((pre fl k).length : Int) + pl.length then 30 else 0) ∨ W5 = W4.setCell ⟨w.heap.size + 2, 0, none⟩ (.int .i64 30) ∧ r < ((pre fl k).length : Int) + pl.length) :
    W2.heap.size ≤ W5.heap.size ∧ (∀ b, X b → W5.heap[b]? = W2.heap[b]?) ∧ (∀ b, K b → W5.heap[b]? = W2.heap[b]?) ∧ putI w dv safe r fl (k + 1) X W5 := by
  have hne : ∀ b, b < w.heap.size + 4 → (Value.slice A' (pre fl k).length c').ownBlock ≠ some b := fun b hb e => by have := hown.lt b e; omega
  have hb3 : ∀ b, b < w.heap.size + 4 → W3.heap[b]? = W2.heap[b]? := fun b hb => hg3.block b (by omega) (fun e => hne b hb e.symm)
  have hX3 : ∀ b, X b → W3.heap[b]? = W2.heap[b]? := fun b hb => hg3.block b (hX b hb) (fun e => hox b e.symm hb)
  have ho4 : ∀ b, b ≠ w.heap.size + 1 → W4.heap[b]? = W3.heap[b]? := fun b hb => by rw [← h4]; exact Below.heap_setCell _ _ _ _ hb
  have hz4 : W4.heap.size = W3.heap.size := by rw [← h4]; simp [World.setCell]
  have hz5 : W5.heap.size = W4.heap.size := by rcases h5 with ⟨rfl, _⟩ | ⟨rfl, _⟩ <;> simp [World.setCell]
  have ho5 : ∀ b, b ≠ w.heap.size + 1 → b ≠ w.heap.size + 2 → W5.heap[b]? = W3.heap[b]? := fun b h1 h2 => by
    rcases h5 with ⟨rfl, _⟩ | ⟨rfl, _⟩
    · exact ho4 b h1
    · exact (Below.heap_setCell _ _ _ _ h2).trans (ho4 b h1)
  have hlen : (pre fl (k + 1)).length = (pre fl k).length + pl.length := by rw [hs, List.length_append]
  have b14 : Bk W4 (w.heap.size + 1) 24 #[.slice A3 (pre fl (k + 1)).length c3, .int .i64 safe, .int .i64 r] := by
    rw [← h4, hlen]; exact (hb1.keep (hb3 _ (by omega))).set 0 _
  have b24 : Bk W4 (w.heap.size + 2) 30 #[.int .i64 ev] := hb2.keep ((ho4 _ (by omega)).trans (hb3 _ (by omega)))
  refine ⟨by have := hg3.size; omega, fun b hb => ?_, fun b hb => ?_, A3, c3, ⟨?_, ?_⟩, ⟨hx1, ?_⟩, ⟨hx2, ?_⟩, ⟨hx3, hb0.keep ((ho5 _ (by omega) (by omega)).trans (hb3 _ (by omega)))⟩, hxb, ?_, by have := hg3.size; omega⟩
  · exact (ho5 b (fun e => hx1 (e ▸ hb)) (fun e => hx2 (e ▸ hb))).trans (hX3 b hb)
  · have := hK b hb
    exact (ho5 b (by omega) (by omega)).trans (hb3 b (by omega))
  · rw [hlen, hs, u8s_append]
    exact own_keep hown3 fun g hg => ho5 g (by have := hown3.lt g hg; omega) (by have := hown3.lt g hg; omega)
  · intro g hg hxg
    rw [hlen] at hg
    rcases hat3 with h | h
    · rw [hg] at h; exact hox g h.symm hxg
    · rw [hg] at h; injection h with h; have := hX g hxg; omega
  · rcases h5 with ⟨rfl, _⟩ | ⟨rfl, _⟩
    · exact b14
    · exact b14.far (by simp) _
  · rw [hlen]
    rcases h5 with ⟨rfl, h⟩ | ⟨rfl, h⟩
    · rw [h] at b24; exact b24
    · rw [if_pos (by omega)]; exact b24.set 0 _
  · refine ⟨?_, ?_, ?_, by have := hg3.size; have := hbel.size; omega, fun b hb => ((ho5 b (by omega) (by omega)).trans (hb3 b (by omega))).trans (hbel.block b hb)⟩ <;>
    (rcases h5 with ⟨rfl, _⟩ | ⟨rfl, _⟩ <;> rw [← h4] <;> first | exact hg3.os.trans hbel.os | exact hg3.tape.trans hbel.tape | exact hg3.output.trans hbel.output)

set_option maxHeartbeats 1000000 in
theorem put_any (lo loL : Nat) (A AL : Option Addr) (c cL : Nat) (d : Dk) (safe : Int) (hs : List (Option Addr × Nat × Nat)) (ls : List (List UInt8)) (w : World)
    (hL : Rd w loL w.heap.size AL (hs.map hdr)) (hp : Parts w lo w.heap.size hs ls) (hn : hs.length ≤ 1000000) (hsum : ls.flatten.length ≤ 1000000) (hr0 : 0 ≤ d.r) :
    Calls Try.prog 29 #[.agg #[.slice A d.b.length c, .int .i64 d.s, .int .i64 d.r], .int .i64 safe, .slice AL hs.length cL] w fun e w' =>
      Below w.heap.size w w' ∧
      (((ls.flatten.length : Int) ≤ d.r ∧ ∃ A' c', e = .returned (.tuple #[.agg #[.slice A' ls.flatten.length c', .int .i64 safe, .int .i64 d.r], .int .i64 0]) ∧
        w'.ownsRow w.heap.size 5 1 (.slice A' ls.flatten.length c') ls.flatten.length (u8s ls.flatten)) ∨
       (d.r < ls.flatten.length ∧ e = .returned (.tuple #[.agg #[.slice A d.b.length c, .int .i64 d.s, .int .i64 d.r], .int .i64 30]))) := by
  obtain ⟨i0, hi0, hz0, hz1, hz2⟩ := info_parts info_u8
  refine marks_call Try.func29 rfl ?_
  simp only [Try.ntmps29, List.size_toArray, List.length_cons, List.length_nil, Nat.reduceAdd, Nat.reduceSub, Array.replicate_succ, Array.replicate_zero, List.push_toArray, List.append_toArray, List.nil_append, List.cons_append]
  go_wp2
  refine wp_scope_fwd 0 rfl ?_
  go_wp2_with (go_at_call 34; refine (parts_any _ _ _ _).mono ?_; rintro e w' ⟨rfl, rfl⟩)
  obtain ⟨fl, hfl⟩ : ∃ fl, fl = solid ls := ⟨_, rfl⟩
  have hpf := hp.full
  rw [← hfl] at hpf
  have HF := Lib.hid (show fl.flatten = ls.flatten by rw [hfl]; exact solid_flatten ls)
  have HL := Lib.hid hpf.len
  clear hfl
  have hsm : fl.flatten.length ≤ 1000000 := by rw [HF.out]; exact hsum
  refine wp_range (w.heap.size + 4) (by simp) (lb := #[.pointer (some ⟨w.heap.size + 3, 0, none⟩)]) rfl (enters_fn Try.func36 (by kernel_rfl) rfl) (parts1_iter loL w.heap.size (w.heap.size + 3) cL AL hs _ hn ?_ ?_) ?_ ?_
    (putI w #[.slice A d.b.length c, .int .i64 d.s, .int .i64 d.r] safe d.r fl) (fun _ _ _ _ => False) ?_ ?_ ?_ ?_ ?_ ?_
  · have := (Bk.new (((w.alloc (.cells #[.slice A d.b.length c, .int .i64 d.s, .int .i64 d.r] 24)).alloc (.cells #[.slice none 0 0, .int .i64 safe, .int .i64 d.r] 24)).alloc (.cells #[.int .i64 0] 30)) 25 #[.slice AL hs.length cL]).cell 0
    simpa using this
  · exact (((hL.alloc (Nat.le_refl _) _).alloc (by simp) _).alloc (by simp; omega) _).alloc (by simp; omega) _
  · rintro b (rfl | ⟨_, h⟩)
    · simp
    · simp; omega
  · rintro k vs X W ⟨h, _, rfl⟩
    rfl
  · exact putI_framed _ _ _ _ _
  · exact fun c k X X' W W' h _ _ => h
  · refine putI_zero hr0 ?_ ?_ ?_ ?_ ?_
    · have := (Bk.new (w.alloc (.cells #[.slice A d.b.length c, .int .i64 d.s, .int .i64 d.r] 24)) 24 #[.slice none 0 0, .int .i64 safe, .int .i64 d.r])
      simpa using (this.alloc _).alloc _
    · have := (Bk.new ((w.alloc (.cells #[.slice A d.b.length c, .int .i64 d.s, .int .i64 d.r] 24)).alloc (.cells #[.slice none 0 0, .int .i64 safe, .int .i64 d.r] 24)) 30 #[.int .i64 0])
      simpa using this.alloc (.cells #[.slice AL hs.length cL] 25)
    · have := (Bk.new w 24 #[.slice A d.b.length c, .int .i64 d.s, .int .i64 d.r])
      exact ((this.alloc _).alloc _).alloc _
    · exact ((((Below.refl _ _).alloc (Nat.le_refl _) _).alloc (by simp) _).alloc (by simp; omega) _).alloc (by simp; omega) _
    · simp; omega
  · -- a round
    intro l k X vs W hk hl hI hX hKW hszW henc
    obtain ⟨h, hh, rfl⟩ := henc
    obtain ⟨pl, hpl, hlen, hrd⟩ := hpf.at k hh
    obtain ⟨ha, hn', hc'⟩ := h
    simp only at hlen hrd
    subst hlen
    dsimp only [hdr]
    gi_wp2
    refine show _ ∧ _ ∧ _ from ⟨Nat.le_refl _, fun _ _ => rfl, fun W2 hT hF hI2 => ?_⟩
    replace hI2 := hI2 hI
    clear hI
    have hzW2 : w.heap.size + 4 ≤ W2.heap.size := by have := hT.size; omega
    have hXlt : ∀ b, ext X (w.heap.size + 4) b → b < W2.heap.size := fun b hb => by
      have := hT.size
      rcases hb with hb | hb | hb
      · have := hX b hb; omega
      · omega
      · omega
    obtain ⟨A', c', ⟨hown, hox⟩, ⟨hx1, hb1⟩, ⟨hx2, hb2⟩, ⟨hx3, hb0⟩, hxb, hbel, hsz⟩ := hI2
    obtain ⟨ev, hev⟩ : ∃ ev : Int, ev = (if d.r < ((pre fl k).length : Int) then 30 else 0) := ⟨_, rfl⟩
    rw [← hev] at hb2
    replace hev := Lib.hid hev
    have HS := Lib.hid (flat_succ fl k pl hpl)
    have hle := flat_le fl (k + 1)
    rw [HS.out, List.length_append] at hle
    have c0 : W2.cell? ⟨w.heap.size + 1, 0, none⟩ = some (.slice A' (pre fl k).length c') := hb1.cell 0
    have c2 : W2.cell? ⟨w.heap.size + 1, 2, none⟩ = some (.int .i64 d.r) := hb1.cell 2
    have f0 : W2.frozen? ⟨w.heap.size + 1, 0, none⟩ = false := hb1.frozen 0
    have f2 : W2.frozen? ⟨w.heap.size + 1 + 1, 0, none⟩ = false := hb2.frozen 0
    have hrd2 : Rd W2 lo w.heap.size ha (u8s pl) := hrd.below hbel (Nat.le_refl _)
    have hone := u8s_one pl
    gi_wp2_with (gi_at_builtin; go_must (refine wplIn_append _ rfl (.tmp 17) (.tmp 18) _ rfl (w.heap.size + 4) 5 i0 _ 1 1 Try.underlying22 hi0 hz0 hz1 hz2 rfl (by omega) (.slice A' (pre fl k).length c') (pre fl k).length (u8s (pre fl k)) rfl hown lo w.heap.size ha pl.length hc' (u8s pl) rfl (by simp) hrd2 hone (by unfold maxLen; omega) (by omega) (by omega) ?_); intro A3 c3 W3 hown3 hg3 hat3; clear c0 c2 f0 f2 hrd2; have c2 : W3.cell? ⟨w.heap.size + 1, 2, none⟩ = some (.int .i64 d.r) := (hb1.grown hg3 (own_ne hown (by simp))).cell 2; have c0 : W3.cell? ⟨w.heap.size + 1, 0, none⟩ = some (.slice A' (pre fl k).length c') := (hb1.grown hg3 (own_ne hown (by simp))).cell 0; have f0 : W3.frozen? ⟨w.heap.size + 1, 0, none⟩ = false := (hb1.grown hg3 (own_ne hown (by simp))).frozen 0; have f2 : W3.frozen? ⟨w.heap.size + 1 + 1, 0, none⟩ = false := (hb2.grown hg3 (own_ne hown (by simp))).frozen 0; have c3' : W3.cell? ⟨w.heap.size + 1 + 1, 0, none⟩ = some (.int .i64 ev) := (hb2.grown hg3 (own_ne hown (by simp))).cell 0)
    · exact show _ ∧ _ ∧ _ ∧ _ from putI_step HS.out (fun b hb => by omega) hown hox hx1 hb1 hx2 hb2 hx3 hb0 hxb hXlt hzW2 hbel hown3 hg3 hat3 _ _ rfl (.inr ⟨rfl, by assumption⟩)
    · rename_i hfit
      refine show _ ∧ _ ∧ _ ∧ _ from putI_step HS.out (fun b hb => by omega) hown hox hx1 hb1 hx2 hb2 hx3 hb0 hxb hXlt hzW2 hbel hown3 hg3 hat3 _ _ rfl (.inl ⟨rfl, ?_⟩)
      rw [hev.out, if_neg (by omega), if_neg (by omega)]
  · -- behind the loop
    intro X W hXD hXd hI hD
    obtain ⟨A', c', ⟨hown, _⟩, ⟨_, hb1⟩, ⟨_, hb2⟩, ⟨_, hb0⟩, _, hbel, _⟩ := hI
    have a0 : W.cell? ⟨w.heap.size, 0, none⟩ = some (.slice A d.b.length c) := hb0.cell 0
    have a1 : W.cell? ⟨w.heap.size, 1, none⟩ = some (.int .i64 d.s) := hb0.cell 1
    have a2 : W.cell? ⟨w.heap.size, 2, none⟩ = some (.int .i64 d.r) := hb0.cell 2
    have hpre : pre fl (full hs).length = ls.flatten := by unfold pre; rw [HL.out, List.take_of_length_le (Nat.le_refl _)]; exact HF.out
    rw [hpre] at hown hb1 hb2
    clear hpre
    have c0 : W.cell? ⟨w.heap.size + 1, 0, none⟩ = some (.slice A' ls.flatten.length c') := hb1.cell 0
    have c1 : W.cell? ⟨w.heap.size + 1, 1, none⟩ = some (.int .i64 safe) := hb1.cell 1
    have c2 : W.cell? ⟨w.heap.size + 1, 2, none⟩ = some (.int .i64 d.r) := hb1.cell 2
    have f0 : W.frozen? ⟨w.heap.size + 1, 0, none⟩ = false := hb1.frozen 0
    have f1 : W.frozen? ⟨w.heap.size + 1, 1, none⟩ = false := hb1.frozen 1
    have f2 : W.frozen? ⟨w.heap.size + 1, 2, none⟩ = false := hb1.frozen 2
    have g0 : W.frozen? ⟨w.heap.size + 1 + 1, 0, none⟩ = false := hb2.frozen 0
    by_cases hfit : d.r < (ls.flatten.length : Int)
    · rw [if_pos hfit] at hb2
      have e0 : W.cell? ⟨w.heap.size + 1 + 1, 0, none⟩ = some (.int .i64 30) := hb2.cell 0
      go_wp2
      go_step3
      refine show _ ∧ _ from ⟨rfl, ?_⟩
      go_wp2
      refine show LeavesInM _ _ _ _ _ _ _ _ _ from marks_ret _ [w.heap.size + 4] _ (by simp) ?_ ?_
      · intro D hD'
        obtain rfl : D = w.heap.size + 4 := by simpa using hD'
        exact ((heap_set (by simp)).trans ((heap_set (by simp)).trans ((heap_set (by simp)).trans (heap_set (by simp))))).trans hD
      · intro W' h1 h2 h3 h4 h5 h6 h7
        refine ⟨.tuple #[.agg #[.slice A d.b.length c, .int .i64 d.s, .int .i64 d.r], .int .i64 30], by simp [results, Try.results29, go_sem, h5, c0, c1, c2, e0], ?_, .inr ⟨hfit, rfl⟩⟩
        refine ⟨h1.trans hbel.os, h2.trans hbel.tape, h3.trans hbel.output, by rw [h4]; simp; exact hbel.size, fun b hb => ?_⟩
        exact (h7 b (by simp; omega)).trans (((heap_set (by simp; omega)).trans ((heap_set (by simp; omega)).trans ((heap_set (by simp; omega)).trans (heap_set (by simp; omega))))).trans (hbel.block b hb))
    · rw [if_neg hfit] at hb2
      have e0 : W.cell? ⟨w.heap.size + 1 + 1, 0, none⟩ = some (.int .i64 0) := hb2.cell 0
      go_wp2
      refine show LeavesInM _ _ _ _ _ _ _ _ _ from marks_ret _ [w.heap.size + 4] _ (by simp) ?_ ?_
      · intro D hD'
        obtain rfl : D = w.heap.size + 4 := by simpa using hD'
        exact ((heap_set (by simp)).trans ((heap_set (by simp)).trans ((heap_set (by simp)).trans (heap_set (by simp))))).trans hD
      · intro W' h1 h2 h3 h4 h5 h6 h7
        refine ⟨.tuple #[.agg #[.slice A' ls.flatten.length c', .int .i64 safe, .int .i64 d.r], .int .i64 0], by simp [results, Try.results29, go_sem, h5, c0, c1, c2, e0], ?_, .inl ⟨by omega, A', c', rfl, ?_⟩⟩
        · refine ⟨h1.trans hbel.os, h2.trans hbel.tape, h3.trans hbel.output, by rw [h4]; simp; exact hbel.size, fun b hb => ?_⟩
          exact (h7 b (by simp; omega)).trans (((heap_set (by simp; omega)).trans ((heap_set (by simp; omega)).trans ((heap_set (by simp; omega)).trans (heap_set (by simp; omega))))).trans (hbel.block b hb))
        · refine own_keep (own_base hown (by omega)) fun g hg => ?_
          have hgl := hown.lt g hg
          have hne : g ≠ w.heap.size + 4 := fun e => by
            rcases hown.2 with ⟨hv, _⟩ | ⟨g', cap, cur, hv, _, hg', _⟩
            · rw [hv] at hg; simp [Value.ownBlock] at hg
            · rw [hv] at hg; simp [Value.ownBlock] at hg; subst hg; rw [e, hD] at hg'; cases hg'
          exact (h7 g (by simpa using hne)).trans ((heap_set (by simp; omega)).trans ((heap_set (by simp; omega)).trans ((heap_set (by simp; omega)).trans (heap_set (by simp; omega)))))
  · intro c k X W _ _ _ h _
    exact h.elim
end Go.Proofs.Ythlmleemapeohaa
