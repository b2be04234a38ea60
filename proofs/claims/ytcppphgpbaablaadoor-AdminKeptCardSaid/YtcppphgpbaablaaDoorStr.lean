/-
Bytes turned into a string, and what the walk makes of it.
-/
import Derived.Test.YtcppphgpbaablaaDoorMem
import Derived.Laws.BytesString
namespace Go.Proofs.YtcppphgpbaablaaDoor
set_option linter.unusedVariables false
open Go.RowKit

theorem bytes_push (l : List UInt8) : ∀ s : ByteArray, (l.map fun b => (b.toNat : Int)).foldl (fun r n => r.push (UInt8.ofNat n.toNat)) s = ⟨s.data ++ l.toArray⟩ := by
  induction l with
  | nil => intro s; simp
  | cons b l ih =>
    intro s
    rw [List.map_cons, List.foldl_cons, ih]
    have : UInt8.ofNat (b.toNat : Int).toNat = b := by simp
    rw [this]
    simp [ByteArray.push]

theorem run_string {P : Program} {w : World} {src dst e : TypeId} (hs : P.underlying src = some (.slice e)) (he : P.underlying e = some (.int .u8)) (hd : P.underlying dst = some .string)
    {lo hi : Nat} {A : Option Addr} {l : List UInt8} (hr : Rd w lo hi A (u8s l)) (c : Nat) : (convert src dst (.slice A l.length c)).run P w = .ok (.string ⟨l.toArray⟩) w := by
  rw [run_convert_bytes_string w src dst e A l.length c hs he hd]
  cases A with
  | none =>
    have hl : l = [] := by simpa [u8s] using hr.none_
    subst hl
    simp [Conv.bytesToString]
    rfl
  | some a =>
    have h := run_firstCells_some (P := P) w 1 l.length a l.length c (u8s l) (by simp) (fun j u hu => by obtain ⟨a', e, _, _, hc⟩ := hr j u hu; injection e with e; subst e; exact hc)
    have hm : u8s l = (l.map fun b => (b.toNat : Int)).map (Value.int .u8) := by simp [u8s]
    rw [run_bytesToString (P := P) w a l.length c (l.map fun b => (b.toNat : Int)) (by rw [← hm]; simpa [Builtin.firstCells] using h)]
    rw [bytes_push]
    simp

end Go.Proofs.YtcppphgpbaablaaDoor
