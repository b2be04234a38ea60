/-
  NARROWER THAN 'FOR EVERY INPUT', by the rows' own cells (each row's printed sentence says how): EventTells: laid · EventRight: laid · EventTicks: laid · EventTwice: laid · EventEach: laid.
  DERIVED. THE GIVEN ROWS OF THIS SEAT. 5 by the template 'for every input the law returns true; each argument reads behind the call as it read before'; 0 by the template 'total and deterministic' (their statements: YtakkoandmkomdaaDoorTotals.lean).
  GIVEN WITH THE SEED: the statements are not yours to turn. If you find one false, say at which input.
  Laid BY PROGRAM, IN A SANDBOX (cutbox-rows.mjs): the forced cells as the released guide's own fill.sh prints them over the translation 78a0b123c734fa43… (all of the seat's roots in one cut). By AI agents, Wed Nov 11 2026. No macro, syntax, notation, axiom, sorry.
-/
import Derived.Test.YtakkoandmkomdaaDoorChecked
import GoSem.Claim
import GoSem.ClaimJoined
import GoSem.ClaimMapViews
import Derived.JoinedTies
import Derived.KernelRfl
namespace Go.Proofs.YtakkoandmkomdaaDoor
/- THE CELL 'sum', in the pinned program and in every row, IS THE sha256 OF THE DUMP (.gsa) THAT YtakkoandmkomdaaDoorProg.lean LOADS. Nothing in Lean hashes anything: it is a label: what it is worth is what the hold of that sum in a sandbox is worth. -/
noncomputable def Tryd.pinned : Pinned := { name := "ytakkoandmkomdaadoor", sum := "78a0b123c734fa43027811169d1026d2cea16dd788556a9f4617d6308ec35b35", checked := Tryd.checked }
namespace Rows
def none {H : Type} : Left H := { results := [], args := [] }

/- WHAT THE LISTED PACKAGE-LEVEL VARIABLES READ AS WHEN THE CALL BEGINS. Each datum BY PROGRAM (the guide's laid-datum.mjs) off the statement by which the dump's own 'gosem.cut.vars' lays the variable. In a bare row this is a premise. The card (YtakkoandmkomdaaDoorCards.lean) ties it to the program's text. -/
def laid_herd_event_happens {H : Type} : DataW H := .iface "func table" (.map [(.int .u8 1, .iface "func" (.lit (.string [104, 101, 114, 100, 47, 101, 118, 101, 110, 116, 46, 104, 97, 112, 112, 101, 110, 115, 36, 49]))), (.int .u8 2, .iface "func" (.lit (.string [104, 101, 114, 100, 47, 101, 118, 101, 110, 116, 46, 104, 97, 112, 112, 101, 110, 115, 36, 50]))), (.int .u8 3, .iface "func" (.lit (.string [104, 101, 114, 100, 47, 101, 118, 101, 110, 116, 46, 104, 97, 112, 112, 101, 110, 115, 36, 51]))), (.int .u8 4, .iface "func" (.lit (.string [104, 101, 114, 100, 47, 101, 118, 101, 110, 116, 46, 104, 97, 112, 112, 101, 110, 115, 36, 52]))), (.int .u8 5, .iface "func" (.lit (.string [104, 101, 114, 100, 47, 101, 118, 101, 110, 116, 46, 104, 97, 112, 112, 101, 110, 115, 36, 53]))), (.int .u8 6, .iface "func" (.lit (.string [104, 101, 114, 100, 47, 101, 118, 101, 110, 116, 46, 104, 97, 112, 112, 101, 110, 115, 36, 54])))])

/-- 'herdlaw10.EventTells': WHATEVER THE INPUT: true; the input reads as it did. -/
def eventTellsSpec : ChangeSpec := { name := "eventTells", fn := fun _ => fun
  | [d1, d2, d3] => { results := [.lit (.bool true)], args := [d1, d2, d3] }
  | _ => none }
def eventTellsRow : OpenClaim := { program := "ytakkoandmkomdaadoor", sum := "78a0b123c734fa43027811169d1026d2cea16dd788556a9f4617d6308ec35b35", func := "herd/herdlaw10.EventTells", spec := "eventTells", unfollowed := true, recurses := true, named := ["herd/event.happens"], apart := false, laid := [("herd/event.happens", laid_herd_event_happens)] }
def EventTellsSaid : Prop := eventTellsRow.holds Tryd.pinned (OpenSpec.ofChange eventTellsSpec)

/-- ITS FALSE NEIGHBOUR: 'it returns false'. Refute it at one input. -/
def eventTellsWrong : ChangeSpec := { name := "eventTells", fn := fun _ => fun
  | [d1, d2, d3] => { results := [.lit (.bool false)], args := [d1, d2, d3] }
  | _ => none }
def EventTellsWrongFalsely : Prop := eventTellsRow.holds Tryd.pinned (OpenSpec.ofChange eventTellsWrong)

/-- 'herdlaw10.EventRight': WHATEVER THE INPUT: true; the input reads as it did. -/
def eventRightSpec : ChangeSpec := { name := "eventRight", fn := fun _ => fun
  | [d1, d2] => { results := [.lit (.bool true)], args := [d1, d2] }
  | _ => none }
def eventRightRow : OpenClaim := { program := "ytakkoandmkomdaadoor", sum := "78a0b123c734fa43027811169d1026d2cea16dd788556a9f4617d6308ec35b35", func := "herd/herdlaw10.EventRight", spec := "eventRight", unfollowed := true, recurses := true, named := ["herd/event.happens"], apart := false, laid := [("herd/event.happens", laid_herd_event_happens)] }
def EventRightSaid : Prop := eventRightRow.holds Tryd.pinned (OpenSpec.ofChange eventRightSpec)

/-- ITS FALSE NEIGHBOUR: 'it returns false'. Refute it at one input. -/
def eventRightWrong : ChangeSpec := { name := "eventRight", fn := fun _ => fun
  | [d1, d2] => { results := [.lit (.bool false)], args := [d1, d2] }
  | _ => none }
def EventRightWrongFalsely : Prop := eventRightRow.holds Tryd.pinned (OpenSpec.ofChange eventRightWrong)

/-- 'herdlaw10.EventTicks': WHATEVER THE INPUT: true; the input reads as it did. -/
def eventTicksSpec : ChangeSpec := { name := "eventTicks", fn := fun _ => fun
  | [d1, d2] => { results := [.lit (.bool true)], args := [d1, d2] }
  | _ => none }
def eventTicksRow : OpenClaim := { program := "ytakkoandmkomdaadoor", sum := "78a0b123c734fa43027811169d1026d2cea16dd788556a9f4617d6308ec35b35", func := "herd/herdlaw10.EventTicks", spec := "eventTicks", unfollowed := true, recurses := true, named := ["herd/event.happens"], apart := false, laid := [("herd/event.happens", laid_herd_event_happens)] }
def EventTicksSaid : Prop := eventTicksRow.holds Tryd.pinned (OpenSpec.ofChange eventTicksSpec)

/-- ITS FALSE NEIGHBOUR: 'it returns false'. Refute it at one input. -/
def eventTicksWrong : ChangeSpec := { name := "eventTicks", fn := fun _ => fun
  | [d1, d2] => { results := [.lit (.bool false)], args := [d1, d2] }
  | _ => none }
def EventTicksWrongFalsely : Prop := eventTicksRow.holds Tryd.pinned (OpenSpec.ofChange eventTicksWrong)

/-- 'herdlaw10.EventTwice': WHATEVER THE INPUT: true; the input reads as it did. -/
def eventTwiceSpec : ChangeSpec := { name := "eventTwice", fn := fun _ => fun
  | [d1, d2, d3, d4] => { results := [.lit (.bool true)], args := [d1, d2, d3, d4] }
  | _ => none }
def eventTwiceRow : OpenClaim := { program := "ytakkoandmkomdaadoor", sum := "78a0b123c734fa43027811169d1026d2cea16dd788556a9f4617d6308ec35b35", func := "herd/herdlaw10.EventTwice", spec := "eventTwice", unfollowed := true, recurses := true, named := ["herd/event.happens"], apart := false, laid := [("herd/event.happens", laid_herd_event_happens)] }
def EventTwiceSaid : Prop := eventTwiceRow.holds Tryd.pinned (OpenSpec.ofChange eventTwiceSpec)

/-- ITS FALSE NEIGHBOUR: 'it returns false'. Refute it at one input. -/
def eventTwiceWrong : ChangeSpec := { name := "eventTwice", fn := fun _ => fun
  | [d1, d2, d3, d4] => { results := [.lit (.bool false)], args := [d1, d2, d3, d4] }
  | _ => none }
def EventTwiceWrongFalsely : Prop := eventTwiceRow.holds Tryd.pinned (OpenSpec.ofChange eventTwiceWrong)

/-- 'herdlaw10.EventEach': WHATEVER THE INPUT: true; the input reads as it did. -/
def eventEachSpec : ChangeSpec := { name := "eventEach", fn := fun _ => fun
  | [d1, d2] => { results := [.lit (.bool true)], args := [d1, d2] }
  | _ => none }
def eventEachRow : OpenClaim := { program := "ytakkoandmkomdaadoor", sum := "78a0b123c734fa43027811169d1026d2cea16dd788556a9f4617d6308ec35b35", func := "herd/herdlaw10.EventEach", spec := "eventEach", unfollowed := true, recurses := true, named := ["herd/event.happens"], apart := false, laid := [("herd/event.happens", laid_herd_event_happens)] }
def EventEachSaid : Prop := eventEachRow.holds Tryd.pinned (OpenSpec.ofChange eventEachSpec)

/-- ITS FALSE NEIGHBOUR: 'it returns false'. Refute it at one input. -/
def eventEachWrong : ChangeSpec := { name := "eventEach", fn := fun _ => fun
  | [d1, d2] => { results := [.lit (.bool false)], args := [d1, d2] }
  | _ => none }
def EventEachWrongFalsely : Prop := eventEachRow.holds Tryd.pinned (OpenSpec.ofChange eventEachWrong)

/- THE SECOND FORM. 'bulk': how many values and letters a reading holds, each counted each time it is reached (what is shared counts as often as it is met; a slice's spare places count too). A statement '..UptoSaid' is the law's where the arguments, and the package variables that the reading takes, are together of bulk at most 1048576: NARROWER than '..Said'. Prove '..Said' where nothing that the law and all that it calls make is longer than what came in: it says more and counts as full. Else prove '..UptoSaid'. A law counts once. -/
mutual
def uptoBulk {H : Type} : DataW H → Nat
  | .lit (.string bytes) => bytes.length + 1
  | .lit _ => 1
  | .nil => 1
  | .ptr d => uptoBulk d + 1
  | .slice elems spare => uptoBulkAll elems + uptoBulkAll spare + 1
  | .agg parts => uptoBulkAll parts + 1
  | .iface _ d => uptoBulk d + 1
  | .map entries => uptoBulkEntries entries + 1
  | .held _ => 1
def uptoBulkAll {H : Type} : List (DataW H) → Nat
  | [] => 0
  | d :: r => uptoBulk d + uptoBulkAll r
def uptoBulkEntries {H : Type} : List (Lit × DataW H) → Nat
  | [] => 0
  | x :: r => uptoBulkEntry x + uptoBulkEntries r
def uptoBulkEntry {H : Type} : Lit × DataW H → Nat
  | (.string bytes, d) => bytes.length + uptoBulk d + 1
  | (_, d) => uptoBulk d + 1
 end
def uptoSmall : (H : Type) → List (DataW H) → Bool := fun _ ds => decide (uptoBulkAll ds ≤ 1048576)
def OpenSpec.upto (s : _root_.Go.ChangeSpec) : _root_.Go.OpenSpec := { _root_.Go.OpenSpec.ofChange s with cond := some uptoSmall }

/-- 'herdlaw10.EventTells', WHERE WHAT IT READS IS OF BULK AT MOST 1048576: true; the input reads as it did. -/
def eventTellsUptoRow : OpenClaim := { program := "ytakkoandmkomdaadoor", sum := "78a0b123c734fa43027811169d1026d2cea16dd788556a9f4617d6308ec35b35", func := "herd/herdlaw10.EventTells", spec := "eventTells", unfollowed := true, recurses := true, named := ["herd/event.happens"], apart := false, laid := [("herd/event.happens", laid_herd_event_happens)], narrowed := true }
def EventTellsUptoSaid : Prop := eventTellsUptoRow.holds Tryd.pinned (OpenSpec.upto eventTellsSpec)

/-- 'herdlaw10.EventRight', WHERE WHAT IT READS IS OF BULK AT MOST 1048576: true; the input reads as it did. -/
def eventRightUptoRow : OpenClaim := { program := "ytakkoandmkomdaadoor", sum := "78a0b123c734fa43027811169d1026d2cea16dd788556a9f4617d6308ec35b35", func := "herd/herdlaw10.EventRight", spec := "eventRight", unfollowed := true, recurses := true, named := ["herd/event.happens"], apart := false, laid := [("herd/event.happens", laid_herd_event_happens)], narrowed := true }
def EventRightUptoSaid : Prop := eventRightUptoRow.holds Tryd.pinned (OpenSpec.upto eventRightSpec)

/-- 'herdlaw10.EventTicks', WHERE WHAT IT READS IS OF BULK AT MOST 1048576: true; the input reads as it did. -/
def eventTicksUptoRow : OpenClaim := { program := "ytakkoandmkomdaadoor", sum := "78a0b123c734fa43027811169d1026d2cea16dd788556a9f4617d6308ec35b35", func := "herd/herdlaw10.EventTicks", spec := "eventTicks", unfollowed := true, recurses := true, named := ["herd/event.happens"], apart := false, laid := [("herd/event.happens", laid_herd_event_happens)], narrowed := true }
def EventTicksUptoSaid : Prop := eventTicksUptoRow.holds Tryd.pinned (OpenSpec.upto eventTicksSpec)

/-- 'herdlaw10.EventTwice', WHERE WHAT IT READS IS OF BULK AT MOST 1048576: true; the input reads as it did. -/
def eventTwiceUptoRow : OpenClaim := { program := "ytakkoandmkomdaadoor", sum := "78a0b123c734fa43027811169d1026d2cea16dd788556a9f4617d6308ec35b35", func := "herd/herdlaw10.EventTwice", spec := "eventTwice", unfollowed := true, recurses := true, named := ["herd/event.happens"], apart := false, laid := [("herd/event.happens", laid_herd_event_happens)], narrowed := true }
def EventTwiceUptoSaid : Prop := eventTwiceUptoRow.holds Tryd.pinned (OpenSpec.upto eventTwiceSpec)

/-- 'herdlaw10.EventEach', WHERE WHAT IT READS IS OF BULK AT MOST 1048576: true; the input reads as it did. -/
def eventEachUptoRow : OpenClaim := { program := "ytakkoandmkomdaadoor", sum := "78a0b123c734fa43027811169d1026d2cea16dd788556a9f4617d6308ec35b35", func := "herd/herdlaw10.EventEach", spec := "eventEach", unfollowed := true, recurses := true, named := ["herd/event.happens"], apart := false, laid := [("herd/event.happens", laid_herd_event_happens)], narrowed := true }
def EventEachUptoSaid : Prop := eventEachUptoRow.holds Tryd.pinned (OpenSpec.upto eventEachSpec)

end Rows
end Go.Proofs.YtakkoandmkomdaaDoor
