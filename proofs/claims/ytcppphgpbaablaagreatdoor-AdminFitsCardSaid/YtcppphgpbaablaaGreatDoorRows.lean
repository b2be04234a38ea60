/-
  NARROWER THAN 'FOR EVERY INPUT', by the rows' own cells (each row's printed sentence says how): AdminFits: laid.
  DERIVED. THE GIVEN ROWS OF THIS SEAT. 1 by the template 'for every input the law returns true; each argument reads behind the call as it read before'; 0 by the template 'total and deterministic' (their statements: YtcppphgpbaablaaGreatDoorTotals.lean).
  GIVEN WITH THE SEED: the statements are not yours to turn. If you find one false, say at which input.
  Laid BY PROGRAM, IN A SANDBOX (cutbox-rows.mjs): the forced cells as the released guide's own fill.sh prints them over the translation 0168ebc4b8145321… (all of the seat's roots in one cut). By AI agents, Wed Nov 11 2026. No macro, syntax, notation, axiom, sorry.
-/
import Derived.Test.YtcppphgpbaablaaGreatDoorChecked
import GoSem.Claim
import GoSem.ClaimJoined
import GoSem.ClaimMapViews
import Derived.JoinedTies
import Derived.KernelRfl
namespace Go.Proofs.YtcppphgpbaablaaGreatDoor
/- THE CELL 'sum', in the pinned program and in every row, IS THE sha256 OF THE DUMP (.gsa) THAT YtcppphgpbaablaaGreatDoorProg.lean LOADS. Nothing in Lean hashes anything: it is a label: what it is worth is what the hold of that sum in a sandbox is worth. -/
noncomputable def Tryz.pinned : Pinned := { name := "ytcppphgpbaablaagreatdoor", sum := "0168ebc4b8145321c829914a3c11343036eef60547d6d0f90a0d605c27925c9e", checked := Tryz.checked }
namespace Rows
def none {H : Type} : Left H := { results := [], args := [] }

/- WHAT THE LISTED PACKAGE-LEVEL VARIABLES READ AS WHEN THE CALL BEGINS. Each datum BY PROGRAM (the guide's laid-datum.mjs) off the statement by which the dump's own 'gosem.cut.vars' lays the variable. In a bare row this is a premise. The card (YtcppphgpbaablaaGreatDoorCards.lean) ties it to the program's text. -/
def laid_herd_conf_limits {H : Type} : DataW H := .agg [.agg [.lit (.int .i64 0), .lit (.int .i64 6)], .agg [.lit (.int .i64 0), .lit (.int .i64 100)], .agg [.lit (.int .i64 0), .lit (.int .i64 3)], .agg [.lit (.int .i64 0), .lit (.int .i64 3)], .agg [.lit (.int .i64 0), .lit (.int .i64 20)], .agg [.lit (.int .i64 0), .lit (.int .i64 20)], .agg [.lit (.int .i64 0), .lit (.int .i64 20)], .agg [.lit (.int .i64 0), .lit (.int .i64 20)], .agg [.lit (.int .i64 1), .lit (.int .i64 20)], .agg [.lit (.int .i64 1), .lit (.int .i64 20)], .agg [.lit (.int .i64 1), .lit (.int .i64 20)], .agg [.lit (.int .i64 0), .lit (.int .i64 20)], .agg [.lit (.int .i64 1), .lit (.int .i64 1099511627776)]]
def laid_herd_brain_changes {H : Type} : DataW H := .agg [.nil, .slice [.lit (.int .u8 2), .lit (.int .u8 8)] [], .slice [.lit (.int .u8 3), .lit (.int .u8 8)] [], .slice [.lit (.int .u8 4)] [], .slice [.lit (.int .u8 5), .lit (.int .u8 3)] [], .slice [.lit (.int .u8 6), .lit (.int .u8 4)] [], .slice [.lit (.int .u8 7)] [], .slice [.lit (.int .u8 8)] [], .nil, .slice [.lit (.int .u8 10), .lit (.int .u8 8)] [], .slice [.lit (.int .u8 1)] []]
def laid_herd_admin_names {H : Type} : DataW H := .agg [.lit (.string []), .lit (.string [99, 111, 110, 102]), .lit (.string [115, 116, 97, 114, 116]), .lit (.string [99, 97, 110, 99, 101, 108]), .lit (.string [114, 111, 108, 108]), .lit (.string [103, 117, 97, 114, 100]), .lit (.string [99, 111, 109, 112, 108, 101, 116, 101]), .lit (.string [103, 111])]

/-- 'herdlaw19.AdminFits': WHATEVER THE INPUT: true; the input reads as it did. -/
def adminFitsSpec : ChangeSpec := { name := "adminFits", fn := fun _ => fun
  | [d1, d2, d3] => { results := [.lit (.bool true)], args := [d1, d2, d3] }
  | _ => none }
def adminFitsRow : OpenClaim := { program := "ytcppphgpbaablaagreatdoor", sum := "0168ebc4b8145321c829914a3c11343036eef60547d6d0f90a0d605c27925c9e", func := "herd/herdlaw19.AdminFits", spec := "adminFits", inPlace := ["slices.overlaps[herd/api.Kept]"], unfollowed := true, recurses := true, named := ["herd/conf.limits", "herd/brain.changes", "herd/admin.names"], apart := false, laid := [("herd/conf.limits", laid_herd_conf_limits), ("herd/brain.changes", laid_herd_brain_changes), ("herd/admin.names", laid_herd_admin_names)] }
def AdminFitsSaid : Prop := adminFitsRow.holds Tryz.pinned (OpenSpec.ofChange adminFitsSpec)

/-- ITS FALSE NEIGHBOUR: 'it returns false'. Refute it at one input. -/
def adminFitsWrong : ChangeSpec := { name := "adminFits", fn := fun _ => fun
  | [d1, d2, d3] => { results := [.lit (.bool false)], args := [d1, d2, d3] }
  | _ => none }
def AdminFitsWrongFalsely : Prop := adminFitsRow.holds Tryz.pinned (OpenSpec.ofChange adminFitsWrong)

/- THE SECOND FORM. 'bulk': how many values and letters a reading holds, each counted each time it is reached (what is shared counts as often as it is met; a slice's spare places count too). A statement '..UptoSaid' is the law's where the arguments, and the package variables that the reading takes, are together of bulk at most 1048576: NARROWER than '..Said'. Prove '..Said' where nothing that the law and all that it calls make is longer than what came in: it says more and counts as full. Else prove '..UptoSaid'. A law counts once. -/
mutual
def uptoBulk {H : Type} : DataW H → Nat
  | .lit (.string bytes) => bytes.length + 1
  | .lit _ => 1
  | .nil => 1
  | .ptr d => uptoBulk d + 1
  | .slice elems spare => uptoBulkAll elems + uptoBulkAll spare + 1
  | .agg parts => uptoBulkAll parts + 1
  | .iface _ d => uptoBulk d + 1
  | .map entries => uptoBulkEntries entries + 1
  | .held _ => 1
def uptoBulkAll {H : Type} : List (DataW H) → Nat
  | [] => 0
  | d :: r => uptoBulk d + uptoBulkAll r
def uptoBulkEntries {H : Type} : List (Lit × DataW H) → Nat
  | [] => 0
  | x :: r => uptoBulkEntry x + uptoBulkEntries r
def uptoBulkEntry {H : Type} : Lit × DataW H → Nat
  | (.string bytes, d) => bytes.length + uptoBulk d + 1
  | (_, d) => uptoBulk d + 1
 end
def uptoSmall : (H : Type) → List (DataW H) → Bool := fun _ ds => decide (uptoBulkAll ds ≤ 1048576)
def OpenSpec.upto (s : _root_.Go.ChangeSpec) : _root_.Go.OpenSpec := { _root_.Go.OpenSpec.ofChange s with cond := some uptoSmall }

/-- 'herdlaw19.AdminFits', WHERE WHAT IT READS IS OF BULK AT MOST 1048576: true; the input reads as it did. -/
def adminFitsUptoRow : OpenClaim := { program := "ytcppphgpbaablaagreatdoor", sum := "0168ebc4b8145321c829914a3c11343036eef60547d6d0f90a0d605c27925c9e", func := "herd/herdlaw19.AdminFits", spec := "adminFits", inPlace := ["slices.overlaps[herd/api.Kept]"], unfollowed := true, recurses := true, named := ["herd/conf.limits", "herd/brain.changes", "herd/admin.names"], apart := false, laid := [("herd/conf.limits", laid_herd_conf_limits), ("herd/brain.changes", laid_herd_brain_changes), ("herd/admin.names", laid_herd_admin_names)], narrowed := true }
def AdminFitsUptoSaid : Prop := adminFitsUptoRow.holds Tryz.pinned (OpenSpec.upto adminFitsSpec)

end Rows
end Go.Proofs.YtcppphgpbaablaaGreatDoor
