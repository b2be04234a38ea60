/-
  NARROWER THAN 'FOR EVERY INPUT', by the rows' own cells (each row's printed sentence says how): AdminOnce: laid · AdminConf: laid · AdminKept: laid.
  DERIVED. THE GIVEN ROWS OF THIS SEAT. 3 by the template 'for every input the law returns true; each argument reads behind the call as it read before'; 0 by the template 'total and deterministic' (their statements: YtcppphgpbaablaaDoorTotals.lean).
  GIVEN WITH THE SEED: the statements are not yours to turn. If you find one false, say at which input.
  Laid BY PROGRAM, IN A SANDBOX (cutbox-rows.mjs): the forced cells as the released guide's own fill.sh prints them over the translation 02470243f6bc0724… (all of the seat's roots in one cut). By AI agents, Wed Nov 11 2026. No macro, syntax, notation, axiom, sorry.
-/
import Derived.Test.YtcppphgpbaablaaDoorChecked
import GoSem.Claim
import GoSem.ClaimJoined
import GoSem.ClaimMapViews
import Derived.JoinedTies
import Derived.KernelRfl
namespace Go.Proofs.YtcppphgpbaablaaDoor
/- THE CELL 'sum', in the pinned program and in every row, IS THE sha256 OF THE DUMP (.gsa) THAT YtcppphgpbaablaaDoorProg.lean LOADS. Nothing in Lean hashes anything: it is a label: what it is worth is what the hold of that sum in a sandbox is worth. -/
noncomputable def Tryd.pinned : Pinned := { name := "ytcppphgpbaablaadoor", sum := "02470243f6bc07245dd43652aa31bacca48e21a5e0929d12d7ae87e72af1d785", checked := Tryd.checked }
namespace Rows
def none {H : Type} : Left H := { results := [], args := [] }

/- WHAT THE LISTED PACKAGE-LEVEL VARIABLES READ AS WHEN THE CALL BEGINS. Each datum BY PROGRAM (the guide's laid-datum.mjs) off the statement by which the dump's own 'gosem.cut.vars' lays the variable. In a bare row this is a premise. The card (YtcppphgpbaablaaDoorCards.lean) ties it to the program's text. -/
def laid_herd_conf_limits {H : Type} : DataW H := .agg [.agg [.lit (.int .i64 0), .lit (.int .i64 6)], .agg [.lit (.int .i64 0), .lit (.int .i64 100)], .agg [.lit (.int .i64 0), .lit (.int .i64 3)], .agg [.lit (.int .i64 0), .lit (.int .i64 3)], .agg [.lit (.int .i64 0), .lit (.int .i64 20)], .agg [.lit (.int .i64 0), .lit (.int .i64 20)], .agg [.lit (.int .i64 0), .lit (.int .i64 20)], .agg [.lit (.int .i64 0), .lit (.int .i64 20)], .agg [.lit (.int .i64 1), .lit (.int .i64 20)], .agg [.lit (.int .i64 1), .lit (.int .i64 20)], .agg [.lit (.int .i64 1), .lit (.int .i64 20)], .agg [.lit (.int .i64 0), .lit (.int .i64 20)], .agg [.lit (.int .i64 1), .lit (.int .i64 1099511627776)]]
def laid_herd_brain_changes {H : Type} : DataW H := .agg [.nil, .slice [.lit (.int .u8 2), .lit (.int .u8 8)] [], .slice [.lit (.int .u8 3), .lit (.int .u8 8)] [], .slice [.lit (.int .u8 4)] [], .slice [.lit (.int .u8 5), .lit (.int .u8 3)] [], .slice [.lit (.int .u8 6), .lit (.int .u8 4)] [], .slice [.lit (.int .u8 7)] [], .slice [.lit (.int .u8 8)] [], .nil, .slice [.lit (.int .u8 10), .lit (.int .u8 8)] [], .slice [.lit (.int .u8 1)] []]
def laid_herd_admin_names {H : Type} : DataW H := .agg [.lit (.string []), .lit (.string [99, 111, 110, 102]), .lit (.string [115, 116, 97, 114, 116]), .lit (.string [99, 97, 110, 99, 101, 108]), .lit (.string [114, 111, 108, 108]), .lit (.string [103, 117, 97, 114, 100]), .lit (.string [99, 111, 109, 112, 108, 101, 116, 101]), .lit (.string [103, 111])]

/-- 'herdlaw19.AdminOnce': WHATEVER THE INPUT: true; the input reads as it did. -/
def adminOnceSpec : ChangeSpec := { name := "adminOnce", fn := fun _ => fun
  | [d1, d2, d3] => { results := [.lit (.bool true)], args := [d1, d2, d3] }
  | _ => none }
def adminOnceRow : OpenClaim := { program := "ytcppphgpbaablaadoor", sum := "02470243f6bc07245dd43652aa31bacca48e21a5e0929d12d7ae87e72af1d785", func := "herd/herdlaw19.AdminOnce", spec := "adminOnce", inPlace := ["slices.overlaps[herd/api.Kept]"], unfollowed := true, recurses := true, named := ["herd/conf.limits", "herd/brain.changes", "herd/admin.names"], apart := false, laid := [("herd/conf.limits", laid_herd_conf_limits), ("herd/brain.changes", laid_herd_brain_changes), ("herd/admin.names", laid_herd_admin_names)] }
def AdminOnceSaid : Prop := adminOnceRow.holds Tryd.pinned (OpenSpec.ofChange adminOnceSpec)

/-- ITS FALSE NEIGHBOUR: 'it returns false'. Refute it at one input. -/
def adminOnceWrong : ChangeSpec := { name := "adminOnce", fn := fun _ => fun
  | [d1, d2, d3] => { results := [.lit (.bool false)], args := [d1, d2, d3] }
  | _ => none }
def AdminOnceWrongFalsely : Prop := adminOnceRow.holds Tryd.pinned (OpenSpec.ofChange adminOnceWrong)

/-- 'herdlaw19.AdminConf': WHATEVER THE INPUT: true; the input reads as it did. -/
def adminConfSpec : ChangeSpec := { name := "adminConf", fn := fun _ => fun
  | [d1, d2, d3] => { results := [.lit (.bool true)], args := [d1, d2, d3] }
  | _ => none }
def adminConfRow : OpenClaim := { program := "ytcppphgpbaablaadoor", sum := "02470243f6bc07245dd43652aa31bacca48e21a5e0929d12d7ae87e72af1d785", func := "herd/herdlaw19.AdminConf", spec := "adminConf", inPlace := ["slices.overlaps[herd/api.Kept]"], unfollowed := true, recurses := true, named := ["herd/conf.limits", "herd/brain.changes", "herd/admin.names"], apart := false, laid := [("herd/conf.limits", laid_herd_conf_limits), ("herd/brain.changes", laid_herd_brain_changes), ("herd/admin.names", laid_herd_admin_names)] }
def AdminConfSaid : Prop := adminConfRow.holds Tryd.pinned (OpenSpec.ofChange adminConfSpec)

/-- ITS FALSE NEIGHBOUR: 'it returns false'. Refute it at one input. -/
def adminConfWrong : ChangeSpec := { name := "adminConf", fn := fun _ => fun
  | [d1, d2, d3] => { results := [.lit (.bool false)], args := [d1, d2, d3] }
  | _ => none }
def AdminConfWrongFalsely : Prop := adminConfRow.holds Tryd.pinned (OpenSpec.ofChange adminConfWrong)

/-- 'herdlaw19.AdminKept': WHATEVER THE INPUT: true; the input reads as it did. -/
def adminKeptSpec : ChangeSpec := { name := "adminKept", fn := fun _ => fun
  | [d1, d2, d3] => { results := [.lit (.bool true)], args := [d1, d2, d3] }
  | _ => none }
def adminKeptRow : OpenClaim := { program := "ytcppphgpbaablaadoor", sum := "02470243f6bc07245dd43652aa31bacca48e21a5e0929d12d7ae87e72af1d785", func := "herd/herdlaw19.AdminKept", spec := "adminKept", inPlace := ["slices.overlaps[herd/api.Kept]"], unfollowed := true, recurses := true, named := ["herd/conf.limits", "herd/brain.changes", "herd/admin.names"], apart := false, laid := [("herd/conf.limits", laid_herd_conf_limits), ("herd/brain.changes", laid_herd_brain_changes), ("herd/admin.names", laid_herd_admin_names)] }
def AdminKeptSaid : Prop := adminKeptRow.holds Tryd.pinned (OpenSpec.ofChange adminKeptSpec)

/-- ITS FALSE NEIGHBOUR: 'it returns false'. Refute it at one input. -/
def adminKeptWrong : ChangeSpec := { name := "adminKept", fn := fun _ => fun
  | [d1, d2, d3] => { results := [.lit (.bool false)], args := [d1, d2, d3] }
  | _ => none }
def AdminKeptWrongFalsely : Prop := adminKeptRow.holds Tryd.pinned (OpenSpec.ofChange adminKeptWrong)

/- THE SECOND FORM. 'bulk': how many values and letters a reading holds, each counted each time it is reached (what is shared counts as often as it is met; a slice's spare places count too). A statement '..UptoSaid' is the law's where the arguments, and the package variables that the reading takes, are together of bulk at most 1048576: NARROWER than '..Said'. Prove '..Said' where nothing that the law and all that it calls make is longer than what came in: it says more and counts as full. Else prove '..UptoSaid'. A law counts once. -/
mutual
def uptoBulk {H : Type} : DataW H → Nat
  | .lit (.string bytes) => bytes.length + 1
  | .lit _ => 1
  | .nil => 1
  | .ptr d => uptoBulk d + 1
  | .slice elems spare => uptoBulkAll elems + uptoBulkAll spare + 1
  | .agg parts => uptoBulkAll parts + 1
  | .iface _ d => uptoBulk d + 1
  | .map entries => uptoBulkEntries entries + 1
  | .held _ => 1
def uptoBulkAll {H : Type} : List (DataW H) → Nat
  | [] => 0
  | d :: r => uptoBulk d + uptoBulkAll r
def uptoBulkEntries {H : Type} : List (Lit × DataW H) → Nat
  | [] => 0
  | x :: r => uptoBulkEntry x + uptoBulkEntries r
def uptoBulkEntry {H : Type} : Lit × DataW H → Nat
  | (.string bytes, d) => bytes.length + uptoBulk d + 1
  | (_, d) => uptoBulk d + 1
 end
def uptoSmall : (H : Type) → List (DataW H) → Bool := fun _ ds => decide (uptoBulkAll ds ≤ 1048576)
def OpenSpec.upto (s : _root_.Go.ChangeSpec) : _root_.Go.OpenSpec := { _root_.Go.OpenSpec.ofChange s with cond := some uptoSmall }

/-- 'herdlaw19.AdminOnce', WHERE WHAT IT READS IS OF BULK AT MOST 1048576: true; the input reads as it did. -/
def adminOnceUptoRow : OpenClaim := { program := "ytcppphgpbaablaadoor", sum := "02470243f6bc07245dd43652aa31bacca48e21a5e0929d12d7ae87e72af1d785", func := "herd/herdlaw19.AdminOnce", spec := "adminOnce", inPlace := ["slices.overlaps[herd/api.Kept]"], unfollowed := true, recurses := true, named := ["herd/conf.limits", "herd/brain.changes", "herd/admin.names"], apart := false, laid := [("herd/conf.limits", laid_herd_conf_limits), ("herd/brain.changes", laid_herd_brain_changes), ("herd/admin.names", laid_herd_admin_names)], narrowed := true }
def AdminOnceUptoSaid : Prop := adminOnceUptoRow.holds Tryd.pinned (OpenSpec.upto adminOnceSpec)

/-- 'herdlaw19.AdminConf', WHERE WHAT IT READS IS OF BULK AT MOST 1048576: true; the input reads as it did. -/
def adminConfUptoRow : OpenClaim := { program := "ytcppphgpbaablaadoor", sum := "02470243f6bc07245dd43652aa31bacca48e21a5e0929d12d7ae87e72af1d785", func := "herd/herdlaw19.AdminConf", spec := "adminConf", inPlace := ["slices.overlaps[herd/api.Kept]"], unfollowed := true, recurses := true, named := ["herd/conf.limits", "herd/brain.changes", "herd/admin.names"], apart := false, laid := [("herd/conf.limits", laid_herd_conf_limits), ("herd/brain.changes", laid_herd_brain_changes), ("herd/admin.names", laid_herd_admin_names)], narrowed := true }
def AdminConfUptoSaid : Prop := adminConfUptoRow.holds Tryd.pinned (OpenSpec.upto adminConfSpec)

/-- 'herdlaw19.AdminKept', WHERE WHAT IT READS IS OF BULK AT MOST 1048576: true; the input reads as it did. -/
def adminKeptUptoRow : OpenClaim := { program := "ytcppphgpbaablaadoor", sum := "02470243f6bc07245dd43652aa31bacca48e21a5e0929d12d7ae87e72af1d785", func := "herd/herdlaw19.AdminKept", spec := "adminKept", inPlace := ["slices.overlaps[herd/api.Kept]"], unfollowed := true, recurses := true, named := ["herd/conf.limits", "herd/brain.changes", "herd/admin.names"], apart := false, laid := [("herd/conf.limits", laid_herd_conf_limits), ("herd/brain.changes", laid_herd_brain_changes), ("herd/admin.names", laid_herd_admin_names)], narrowed := true }
def AdminKeptUptoSaid : Prop := adminKeptUptoRow.holds Tryd.pinned (OpenSpec.upto adminKeptSpec)

end Rows
end Go.Proofs.YtcppphgpbaablaaDoor
