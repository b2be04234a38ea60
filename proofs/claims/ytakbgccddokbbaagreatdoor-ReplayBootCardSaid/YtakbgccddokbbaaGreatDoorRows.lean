/-
  NARROWER THAN 'FOR EVERY INPUT', by the rows' own cells (each row's printed sentence says how): ReplayCrash: laid · ReplayBoot: laid · ReplayBrains: laid · ReplayOpen: laid.
  DERIVED. THE GIVEN ROWS OF THIS SEAT. 4 by the template 'for every input the law returns true; each argument reads behind the call as it read before'; 0 by the template 'total and deterministic' (their statements: YtakbgccddokbbaaGreatDoorTotals.lean).
  GIVEN WITH THE SEED: the statements are not yours to turn. If you find one false, say at which input.
  Laid BY PROGRAM, IN A SANDBOX (cutbox-rows.mjs): the forced cells as the released guide's own fill.sh prints them over the translation a25a71d1460f1018… (all of the seat's roots in one cut). By AI agents, Wed Nov 11 2026. No macro, syntax, notation, axiom, sorry.
-/
import Derived.Test.YtakbgccddokbbaaGreatDoorChecked
import GoSem.Claim
import GoSem.ClaimJoined
import GoSem.ClaimMapViews
import Derived.JoinedTies
import Derived.KernelRfl
namespace Go.Proofs.YtakbgccddokbbaaGreatDoor
/- THE CELL 'sum', in the pinned program and in every row, IS THE sha256 OF THE DUMP (.gsa) THAT YtakbgccddokbbaaGreatDoorProg.lean LOADS. Nothing in Lean hashes anything: it is a label: what it is worth is what the hold of that sum in a sandbox is worth. -/
noncomputable def Tryz.pinned : Pinned := { name := "ytakbgccddokbbaagreatdoor", sum := "a25a71d1460f1018f76dfece46c36b1df643568825ea03496e5b803d358a4eb5", checked := Tryz.checked }
namespace Rows
def none {H : Type} : Left H := { results := [], args := [] }

/- WHAT THE LISTED PACKAGE-LEVEL VARIABLES READ AS WHEN THE CALL BEGINS. Each datum BY PROGRAM (the guide's laid-datum.mjs) off the statement by which the dump's own 'gosem.cut.vars' lays the variable. In a bare row this is a premise. The card (YtakbgccddokbbaaGreatDoorCards.lean) ties it to the program's text. -/
def laid_herd_conf_limits {H : Type} : DataW H := .agg [.agg [.lit (.int .i64 0), .lit (.int .i64 6)], .agg [.lit (.int .i64 0), .lit (.int .i64 100)], .agg [.lit (.int .i64 0), .lit (.int .i64 3)], .agg [.lit (.int .i64 0), .lit (.int .i64 3)], .agg [.lit (.int .i64 0), .lit (.int .i64 20)], .agg [.lit (.int .i64 0), .lit (.int .i64 20)], .agg [.lit (.int .i64 0), .lit (.int .i64 20)], .agg [.lit (.int .i64 0), .lit (.int .i64 20)], .agg [.lit (.int .i64 1), .lit (.int .i64 20)], .agg [.lit (.int .i64 1), .lit (.int .i64 20)], .agg [.lit (.int .i64 1), .lit (.int .i64 20)], .agg [.lit (.int .i64 0), .lit (.int .i64 20)], .agg [.lit (.int .i64 1), .lit (.int .i64 1099511627776)]]
def laid_herd_brain_changes {H : Type} : DataW H := .agg [.nil, .slice [.lit (.int .u8 2), .lit (.int .u8 8)] [], .slice [.lit (.int .u8 3), .lit (.int .u8 8)] [], .slice [.lit (.int .u8 4)] [], .slice [.lit (.int .u8 5), .lit (.int .u8 3)] [], .slice [.lit (.int .u8 6), .lit (.int .u8 4)] [], .slice [.lit (.int .u8 7)] [], .slice [.lit (.int .u8 8)] [], .nil, .slice [.lit (.int .u8 10), .lit (.int .u8 8)] [], .slice [.lit (.int .u8 1)] []]
def laid_herd_record_many {H : Type} : DataW H := .agg [.nil, .slice [.lit (.int .i64 0), .lit (.int .i64 0)] [], .slice [.lit (.int .i64 14), .lit (.int .i64 18)] [], .slice [.lit (.int .i64 3), .lit (.int .i64 3)] [], .slice [.lit (.int .i64 3), .lit (.int .i64 3)] [], .slice [.lit (.int .i64 1), .lit (.int .i64 1)] [], .slice [.lit (.int .i64 3), .lit (.int .i64 3)] [], .slice [.lit (.int .i64 1), .lit (.int .i64 1)] [], .slice [.lit (.int .i64 5), .lit (.int .i64 5)] [], .slice [.lit (.int .i64 2), .lit (.int .i64 2)] [], .slice [.lit (.int .i64 1), .lit (.int .i64 1)] [], .slice [.lit (.int .i64 2), .lit (.int .i64 2)] [], .slice [.lit (.int .i64 0), .lit (.int .i64 0)] [], .slice [.lit (.int .i64 0), .lit (.int .i64 0)] [], .slice [.lit (.int .i64 1), .lit (.int .i64 1)] [], .slice [.lit (.int .i64 0), .lit (.int .i64 0)] [], .slice [.lit (.int .i64 0), .lit (.int .i64 0)] []]

/-- 'herdlaw23.ReplayCrash': WHATEVER THE INPUT: true; the input reads as it did. -/
def replayCrashSpec : ChangeSpec := { name := "replayCrash", fn := fun _ => fun
  | [d1, d2, d3, d4] => { results := [.lit (.bool true)], args := [d1, d2, d3, d4] }
  | _ => none }
def replayCrashRow : OpenClaim := { program := "ytakbgccddokbbaagreatdoor", sum := "a25a71d1460f1018f76dfece46c36b1df643568825ea03496e5b803d358a4eb5", func := "herd/herdlaw23.ReplayCrash", spec := "replayCrash", inPlace := ["slices.overlaps[herd/api.Kept]"], unfollowed := true, recurses := true, named := ["herd/record.many", "herd/brain.changes", "herd/conf.limits"], apart := false, laid := [("herd/conf.limits", laid_herd_conf_limits), ("herd/brain.changes", laid_herd_brain_changes), ("herd/record.many", laid_herd_record_many)] }
def ReplayCrashSaid : Prop := replayCrashRow.holds Tryz.pinned (OpenSpec.ofChange replayCrashSpec)

/-- ITS FALSE NEIGHBOUR: 'it returns false'. Refute it at one input. -/
def replayCrashWrong : ChangeSpec := { name := "replayCrash", fn := fun _ => fun
  | [d1, d2, d3, d4] => { results := [.lit (.bool false)], args := [d1, d2, d3, d4] }
  | _ => none }
def ReplayCrashWrongFalsely : Prop := replayCrashRow.holds Tryz.pinned (OpenSpec.ofChange replayCrashWrong)

/-- 'herdlaw23.ReplayBoot': WHATEVER THE INPUT: true; the input reads as it did. -/
def replayBootSpec : ChangeSpec := { name := "replayBoot", fn := fun _ => fun
  | [d] => { results := [.lit (.bool true)], args := [d] }
  | _ => none }
def replayBootRow : OpenClaim := { program := "ytakbgccddokbbaagreatdoor", sum := "a25a71d1460f1018f76dfece46c36b1df643568825ea03496e5b803d358a4eb5", func := "herd/herdlaw23.ReplayBoot", spec := "replayBoot", inPlace := ["slices.overlaps[herd/api.Kept]"], unfollowed := true, recurses := true, named := ["herd/record.many", "herd/brain.changes", "herd/conf.limits"], apart := false, laid := [("herd/conf.limits", laid_herd_conf_limits), ("herd/brain.changes", laid_herd_brain_changes), ("herd/record.many", laid_herd_record_many)] }
def ReplayBootSaid : Prop := replayBootRow.holds Tryz.pinned (OpenSpec.ofChange replayBootSpec)

/-- ITS FALSE NEIGHBOUR: 'it returns false'. Refute it at one input. -/
def replayBootWrong : ChangeSpec := { name := "replayBoot", fn := fun _ => fun
  | [d] => { results := [.lit (.bool false)], args := [d] }
  | _ => none }
def ReplayBootWrongFalsely : Prop := replayBootRow.holds Tryz.pinned (OpenSpec.ofChange replayBootWrong)

/-- 'herdlaw23.ReplayBrains': WHATEVER THE INPUT: true; the input reads as it did. -/
def replayBrainsSpec : ChangeSpec := { name := "replayBrains", fn := fun _ => fun
  | [d] => { results := [.lit (.bool true)], args := [d] }
  | _ => none }
def replayBrainsRow : OpenClaim := { program := "ytakbgccddokbbaagreatdoor", sum := "a25a71d1460f1018f76dfece46c36b1df643568825ea03496e5b803d358a4eb5", func := "herd/herdlaw23.ReplayBrains", spec := "replayBrains", inPlace := ["slices.overlaps[herd/api.Kept]"], unfollowed := true, recurses := true, named := ["herd/record.many", "herd/brain.changes", "herd/conf.limits"], apart := false, laid := [("herd/conf.limits", laid_herd_conf_limits), ("herd/brain.changes", laid_herd_brain_changes), ("herd/record.many", laid_herd_record_many)] }
def ReplayBrainsSaid : Prop := replayBrainsRow.holds Tryz.pinned (OpenSpec.ofChange replayBrainsSpec)

/-- ITS FALSE NEIGHBOUR: 'it returns false'. Refute it at one input. -/
def replayBrainsWrong : ChangeSpec := { name := "replayBrains", fn := fun _ => fun
  | [d] => { results := [.lit (.bool false)], args := [d] }
  | _ => none }
def ReplayBrainsWrongFalsely : Prop := replayBrainsRow.holds Tryz.pinned (OpenSpec.ofChange replayBrainsWrong)

/-- 'herdlaw23.ReplayOpen': WHATEVER THE INPUT: true; the input reads as it did. -/
def replayOpenSpec : ChangeSpec := { name := "replayOpen", fn := fun _ => fun
  | [d] => { results := [.lit (.bool true)], args := [d] }
  | _ => none }
def replayOpenRow : OpenClaim := { program := "ytakbgccddokbbaagreatdoor", sum := "a25a71d1460f1018f76dfece46c36b1df643568825ea03496e5b803d358a4eb5", func := "herd/herdlaw23.ReplayOpen", spec := "replayOpen", inPlace := ["slices.overlaps[herd/api.Kept]"], unfollowed := true, recurses := true, named := ["herd/record.many", "herd/brain.changes", "herd/conf.limits"], apart := false, laid := [("herd/conf.limits", laid_herd_conf_limits), ("herd/brain.changes", laid_herd_brain_changes), ("herd/record.many", laid_herd_record_many)] }
def ReplayOpenSaid : Prop := replayOpenRow.holds Tryz.pinned (OpenSpec.ofChange replayOpenSpec)

/-- ITS FALSE NEIGHBOUR: 'it returns false'. Refute it at one input. -/
def replayOpenWrong : ChangeSpec := { name := "replayOpen", fn := fun _ => fun
  | [d] => { results := [.lit (.bool false)], args := [d] }
  | _ => none }
def ReplayOpenWrongFalsely : Prop := replayOpenRow.holds Tryz.pinned (OpenSpec.ofChange replayOpenWrong)

/- THE SECOND FORM. 'bulk': how many values and letters a reading holds, each counted each time it is reached (what is shared counts as often as it is met; a slice's spare places count too). A statement '..UptoSaid' is the law's where the arguments, and the package variables that the reading takes, are together of bulk at most 1048576: NARROWER than '..Said'. Prove '..Said' where nothing that the law and all that it calls make is longer than what came in: it says more and counts as full. Else prove '..UptoSaid'. A law counts once. -/
mutual
def uptoBulk {H : Type} : DataW H → Nat
  | .lit (.string bytes) => bytes.length + 1
  | .lit _ => 1
  | .nil => 1
  | .ptr d => uptoBulk d + 1
  | .slice elems spare => uptoBulkAll elems + uptoBulkAll spare + 1
  | .agg parts => uptoBulkAll parts + 1
  | .iface _ d => uptoBulk d + 1
  | .map entries => uptoBulkEntries entries + 1
  | .held _ => 1
def uptoBulkAll {H : Type} : List (DataW H) → Nat
  | [] => 0
  | d :: r => uptoBulk d + uptoBulkAll r
def uptoBulkEntries {H : Type} : List (Lit × DataW H) → Nat
  | [] => 0
  | x :: r => uptoBulkEntry x + uptoBulkEntries r
def uptoBulkEntry {H : Type} : Lit × DataW H → Nat
  | (.string bytes, d) => bytes.length + uptoBulk d + 1
  | (_, d) => uptoBulk d + 1
 end
def uptoSmall : (H : Type) → List (DataW H) → Bool := fun _ ds => decide (uptoBulkAll ds ≤ 1048576)
def OpenSpec.upto (s : _root_.Go.ChangeSpec) : _root_.Go.OpenSpec := { _root_.Go.OpenSpec.ofChange s with cond := some uptoSmall }

/-- 'herdlaw23.ReplayCrash', WHERE WHAT IT READS IS OF BULK AT MOST 1048576: true; the input reads as it did. -/
def replayCrashUptoRow : OpenClaim := { program := "ytakbgccddokbbaagreatdoor", sum := "a25a71d1460f1018f76dfece46c36b1df643568825ea03496e5b803d358a4eb5", func := "herd/herdlaw23.ReplayCrash", spec := "replayCrash", inPlace := ["slices.overlaps[herd/api.Kept]"], unfollowed := true, recurses := true, named := ["herd/record.many", "herd/brain.changes", "herd/conf.limits"], apart := false, laid := [("herd/conf.limits", laid_herd_conf_limits), ("herd/brain.changes", laid_herd_brain_changes), ("herd/record.many", laid_herd_record_many)], narrowed := true }
def ReplayCrashUptoSaid : Prop := replayCrashUptoRow.holds Tryz.pinned (OpenSpec.upto replayCrashSpec)

/-- 'herdlaw23.ReplayBoot', WHERE WHAT IT READS IS OF BULK AT MOST 1048576: true; the input reads as it did. -/
def replayBootUptoRow : OpenClaim := { program := "ytakbgccddokbbaagreatdoor", sum := "a25a71d1460f1018f76dfece46c36b1df643568825ea03496e5b803d358a4eb5", func := "herd/herdlaw23.ReplayBoot", spec := "replayBoot", inPlace := ["slices.overlaps[herd/api.Kept]"], unfollowed := true, recurses := true, named := ["herd/record.many", "herd/brain.changes", "herd/conf.limits"], apart := false, laid := [("herd/conf.limits", laid_herd_conf_limits), ("herd/brain.changes", laid_herd_brain_changes), ("herd/record.many", laid_herd_record_many)], narrowed := true }
def ReplayBootUptoSaid : Prop := replayBootUptoRow.holds Tryz.pinned (OpenSpec.upto replayBootSpec)

/-- 'herdlaw23.ReplayBrains', WHERE WHAT IT READS IS OF BULK AT MOST 1048576: true; the input reads as it did. -/
def replayBrainsUptoRow : OpenClaim := { program := "ytakbgccddokbbaagreatdoor", sum := "a25a71d1460f1018f76dfece46c36b1df643568825ea03496e5b803d358a4eb5", func := "herd/herdlaw23.ReplayBrains", spec := "replayBrains", inPlace := ["slices.overlaps[herd/api.Kept]"], unfollowed := true, recurses := true, named := ["herd/record.many", "herd/brain.changes", "herd/conf.limits"], apart := false, laid := [("herd/conf.limits", laid_herd_conf_limits), ("herd/brain.changes", laid_herd_brain_changes), ("herd/record.many", laid_herd_record_many)], narrowed := true }
def ReplayBrainsUptoSaid : Prop := replayBrainsUptoRow.holds Tryz.pinned (OpenSpec.upto replayBrainsSpec)

/-- 'herdlaw23.ReplayOpen', WHERE WHAT IT READS IS OF BULK AT MOST 1048576: true; the input reads as it did. -/
def replayOpenUptoRow : OpenClaim := { program := "ytakbgccddokbbaagreatdoor", sum := "a25a71d1460f1018f76dfece46c36b1df643568825ea03496e5b803d358a4eb5", func := "herd/herdlaw23.ReplayOpen", spec := "replayOpen", inPlace := ["slices.overlaps[herd/api.Kept]"], unfollowed := true, recurses := true, named := ["herd/record.many", "herd/brain.changes", "herd/conf.limits"], apart := false, laid := [("herd/conf.limits", laid_herd_conf_limits), ("herd/brain.changes", laid_herd_brain_changes), ("herd/record.many", laid_herd_record_many)], narrowed := true }
def ReplayOpenUptoSaid : Prop := replayOpenUptoRow.holds Tryz.pinned (OpenSpec.upto replayOpenSpec)

end Rows
end Go.Proofs.YtakbgccddokbbaaGreatDoor
