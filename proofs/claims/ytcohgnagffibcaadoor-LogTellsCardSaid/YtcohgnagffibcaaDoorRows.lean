/-
  NARROWER THAN 'FOR EVERY INPUT', by the rows' own cells (each row's printed sentence says how): LogTells: laid · LogCrash: laid · LogOpen: laid · LogParts: laid · LogSafe: laid.
  DERIVED. THE GIVEN ROWS OF THIS SEAT. 5 by the template 'for every input the law returns true; each argument reads behind the call as it read before'; 0 by the template 'total and deterministic' (their statements: YtcohgnagffibcaaDoorTotals.lean).
  GIVEN WITH THE SEED: the statements are not yours to turn. If you find one false, say at which input.
  Laid BY PROGRAM, IN A SANDBOX (cutbox-rows.mjs): the forced cells as the released guide's own fill.sh prints them over the translation 001966152a122cea… (all of the seat's roots in one cut). By AI agents, Wed Nov 11 2026. No macro, syntax, notation, axiom, sorry.
-/
import Derived.Test.YtcohgnagffibcaaDoorChecked
import GoSem.Claim
import GoSem.ClaimJoined
import GoSem.ClaimMapViews
import Derived.JoinedTies
import Derived.KernelRfl
namespace Go.Proofs.YtcohgnagffibcaaDoor
/- THE CELL 'sum', in the pinned program and in every row, IS THE sha256 OF THE DUMP (.gsa) THAT YtcohgnagffibcaaDoorProg.lean LOADS. Nothing in Lean hashes anything: it is a label: what it is worth is what the hold of that sum in a sandbox is worth. -/
noncomputable def Tryd.pinned : Pinned := { name := "ytcohgnagffibcaadoor", sum := "001966152a122ceaf033dab1dfd3ff644e1af66023dbcc500d000789dd550cd9", checked := Tryd.checked }
namespace Rows
def none {H : Type} : Left H := { results := [], args := [] }

/- WHAT THE LISTED PACKAGE-LEVEL VARIABLES READ AS WHEN THE CALL BEGINS. Each datum BY PROGRAM (the guide's laid-datum.mjs) off the statement by which the dump's own 'gosem.cut.vars' lays the variable. In a bare row this is a premise. The card (YtcohgnagffibcaaDoorCards.lean) ties it to the program's text. -/
def laid_herd_record_many {H : Type} : DataW H := .agg [.nil, .slice [.lit (.int .i64 0), .lit (.int .i64 0)] [], .slice [.lit (.int .i64 14), .lit (.int .i64 18)] [], .slice [.lit (.int .i64 3), .lit (.int .i64 3)] [], .slice [.lit (.int .i64 3), .lit (.int .i64 3)] [], .slice [.lit (.int .i64 1), .lit (.int .i64 1)] [], .slice [.lit (.int .i64 3), .lit (.int .i64 3)] [], .slice [.lit (.int .i64 1), .lit (.int .i64 1)] [], .slice [.lit (.int .i64 5), .lit (.int .i64 5)] [], .slice [.lit (.int .i64 2), .lit (.int .i64 2)] [], .slice [.lit (.int .i64 1), .lit (.int .i64 1)] [], .slice [.lit (.int .i64 2), .lit (.int .i64 2)] [], .slice [.lit (.int .i64 0), .lit (.int .i64 0)] [], .slice [.lit (.int .i64 0), .lit (.int .i64 0)] [], .slice [.lit (.int .i64 1), .lit (.int .i64 1)] [], .slice [.lit (.int .i64 0), .lit (.int .i64 0)] [], .slice [.lit (.int .i64 0), .lit (.int .i64 0)] []]

/-- 'herdlaw05.LogTells': WHATEVER THE INPUT: true; the input reads as it did. -/
def logTellsSpec : ChangeSpec := { name := "logTells", fn := fun _ => fun
  | [d1, d2, d3] => { results := [.lit (.bool true)], args := [d1, d2, d3] }
  | _ => none }
def logTellsRow : OpenClaim := { program := "ytcohgnagffibcaadoor", sum := "001966152a122ceaf033dab1dfd3ff644e1af66023dbcc500d000789dd550cd9", func := "herd/herdlaw05.LogTells", spec := "logTells", unfollowed := true, recurses := true, named := ["herd/record.many"], apart := false, laid := [("herd/record.many", laid_herd_record_many)] }
def LogTellsSaid : Prop := logTellsRow.holds Tryd.pinned (OpenSpec.ofChange logTellsSpec)

/-- ITS FALSE NEIGHBOUR: 'it returns false'. Refute it at one input. -/
def logTellsWrong : ChangeSpec := { name := "logTells", fn := fun _ => fun
  | [d1, d2, d3] => { results := [.lit (.bool false)], args := [d1, d2, d3] }
  | _ => none }
def LogTellsWrongFalsely : Prop := logTellsRow.holds Tryd.pinned (OpenSpec.ofChange logTellsWrong)

/-- 'herdlaw05.LogCrash': WHATEVER THE INPUT: true; the input reads as it did. -/
def logCrashSpec : ChangeSpec := { name := "logCrash", fn := fun _ => fun
  | [d1, d2, d3, d4] => { results := [.lit (.bool true)], args := [d1, d2, d3, d4] }
  | _ => none }
def logCrashRow : OpenClaim := { program := "ytcohgnagffibcaadoor", sum := "001966152a122ceaf033dab1dfd3ff644e1af66023dbcc500d000789dd550cd9", func := "herd/herdlaw05.LogCrash", spec := "logCrash", unfollowed := true, recurses := true, named := ["herd/record.many"], apart := false, laid := [("herd/record.many", laid_herd_record_many)] }
def LogCrashSaid : Prop := logCrashRow.holds Tryd.pinned (OpenSpec.ofChange logCrashSpec)

/-- ITS FALSE NEIGHBOUR: 'it returns false'. Refute it at one input. -/
def logCrashWrong : ChangeSpec := { name := "logCrash", fn := fun _ => fun
  | [d1, d2, d3, d4] => { results := [.lit (.bool false)], args := [d1, d2, d3, d4] }
  | _ => none }
def LogCrashWrongFalsely : Prop := logCrashRow.holds Tryd.pinned (OpenSpec.ofChange logCrashWrong)

/-- 'herdlaw05.LogOpen': WHATEVER THE INPUT: true; the input reads as it did. -/
def logOpenSpec : ChangeSpec := { name := "logOpen", fn := fun _ => fun
  | [d] => { results := [.lit (.bool true)], args := [d] }
  | _ => none }
def logOpenRow : OpenClaim := { program := "ytcohgnagffibcaadoor", sum := "001966152a122ceaf033dab1dfd3ff644e1af66023dbcc500d000789dd550cd9", func := "herd/herdlaw05.LogOpen", spec := "logOpen", unfollowed := true, recurses := true, named := ["herd/record.many"], apart := false, laid := [("herd/record.many", laid_herd_record_many)] }
def LogOpenSaid : Prop := logOpenRow.holds Tryd.pinned (OpenSpec.ofChange logOpenSpec)

/-- ITS FALSE NEIGHBOUR: 'it returns false'. Refute it at one input. -/
def logOpenWrong : ChangeSpec := { name := "logOpen", fn := fun _ => fun
  | [d] => { results := [.lit (.bool false)], args := [d] }
  | _ => none }
def LogOpenWrongFalsely : Prop := logOpenRow.holds Tryd.pinned (OpenSpec.ofChange logOpenWrong)

/-- 'herdlaw05.LogParts': WHATEVER THE INPUT: true; the input reads as it did. -/
def logPartsSpec : ChangeSpec := { name := "logParts", fn := fun _ => fun
  | [d1, d2, d3] => { results := [.lit (.bool true)], args := [d1, d2, d3] }
  | _ => none }
def logPartsRow : OpenClaim := { program := "ytcohgnagffibcaadoor", sum := "001966152a122ceaf033dab1dfd3ff644e1af66023dbcc500d000789dd550cd9", func := "herd/herdlaw05.LogParts", spec := "logParts", unfollowed := true, recurses := true, named := ["herd/record.many"], apart := false, laid := [("herd/record.many", laid_herd_record_many)] }
def LogPartsSaid : Prop := logPartsRow.holds Tryd.pinned (OpenSpec.ofChange logPartsSpec)

/-- ITS FALSE NEIGHBOUR: 'it returns false'. Refute it at one input. -/
def logPartsWrong : ChangeSpec := { name := "logParts", fn := fun _ => fun
  | [d1, d2, d3] => { results := [.lit (.bool false)], args := [d1, d2, d3] }
  | _ => none }
def LogPartsWrongFalsely : Prop := logPartsRow.holds Tryd.pinned (OpenSpec.ofChange logPartsWrong)

/-- 'herdlaw05.LogSafe': WHATEVER THE INPUT: true; the input reads as it did. -/
def logSafeSpec : ChangeSpec := { name := "logSafe", fn := fun _ => fun
  | [d] => { results := [.lit (.bool true)], args := [d] }
  | _ => none }
def logSafeRow : OpenClaim := { program := "ytcohgnagffibcaadoor", sum := "001966152a122ceaf033dab1dfd3ff644e1af66023dbcc500d000789dd550cd9", func := "herd/herdlaw05.LogSafe", spec := "logSafe", unfollowed := true, recurses := true, named := ["herd/record.many"], apart := false, laid := [("herd/record.many", laid_herd_record_many)] }
def LogSafeSaid : Prop := logSafeRow.holds Tryd.pinned (OpenSpec.ofChange logSafeSpec)

/-- ITS FALSE NEIGHBOUR: 'it returns false'. Refute it at one input. -/
def logSafeWrong : ChangeSpec := { name := "logSafe", fn := fun _ => fun
  | [d] => { results := [.lit (.bool false)], args := [d] }
  | _ => none }
def LogSafeWrongFalsely : Prop := logSafeRow.holds Tryd.pinned (OpenSpec.ofChange logSafeWrong)

/- THE SECOND FORM. 'bulk': how many values and letters a reading holds, each counted each time it is reached (what is shared counts as often as it is met; a slice's spare places count too). A statement '..UptoSaid' is the law's where the arguments, and the package variables that the reading takes, are together of bulk at most 1048576: NARROWER than '..Said'. Prove '..Said' where nothing that the law and all that it calls make is longer than what came in: it says more and counts as full. Else prove '..UptoSaid'. A law counts once. -/
mutual
def uptoBulk {H : Type} : DataW H → Nat
  | .lit (.string bytes) => bytes.length + 1
  | .lit _ => 1
  | .nil => 1
  | .ptr d => uptoBulk d + 1
  | .slice elems spare => uptoBulkAll elems + uptoBulkAll spare + 1
  | .agg parts => uptoBulkAll parts + 1
  | .iface _ d => uptoBulk d + 1
  | .map entries => uptoBulkEntries entries + 1
  | .held _ => 1
def uptoBulkAll {H : Type} : List (DataW H) → Nat
  | [] => 0
  | d :: r => uptoBulk d + uptoBulkAll r
def uptoBulkEntries {H : Type} : List (Lit × DataW H) → Nat
  | [] => 0
  | x :: r => uptoBulkEntry x + uptoBulkEntries r
def uptoBulkEntry {H : Type} : Lit × DataW H → Nat
  | (.string bytes, d) => bytes.length + uptoBulk d + 1
  | (_, d) => uptoBulk d + 1
 end
def uptoSmall : (H : Type) → List (DataW H) → Bool := fun _ ds => decide (uptoBulkAll ds ≤ 1048576)
def OpenSpec.upto (s : _root_.Go.ChangeSpec) : _root_.Go.OpenSpec := { _root_.Go.OpenSpec.ofChange s with cond := some uptoSmall }

/-- 'herdlaw05.LogTells', WHERE WHAT IT READS IS OF BULK AT MOST 1048576: true; the input reads as it did. -/
def logTellsUptoRow : OpenClaim := { program := "ytcohgnagffibcaadoor", sum := "001966152a122ceaf033dab1dfd3ff644e1af66023dbcc500d000789dd550cd9", func := "herd/herdlaw05.LogTells", spec := "logTells", unfollowed := true, recurses := true, named := ["herd/record.many"], apart := false, laid := [("herd/record.many", laid_herd_record_many)], narrowed := true }
def LogTellsUptoSaid : Prop := logTellsUptoRow.holds Tryd.pinned (OpenSpec.upto logTellsSpec)

/-- 'herdlaw05.LogCrash', WHERE WHAT IT READS IS OF BULK AT MOST 1048576: true; the input reads as it did. -/
def logCrashUptoRow : OpenClaim := { program := "ytcohgnagffibcaadoor", sum := "001966152a122ceaf033dab1dfd3ff644e1af66023dbcc500d000789dd550cd9", func := "herd/herdlaw05.LogCrash", spec := "logCrash", unfollowed := true, recurses := true, named := ["herd/record.many"], apart := false, laid := [("herd/record.many", laid_herd_record_many)], narrowed := true }
def LogCrashUptoSaid : Prop := logCrashUptoRow.holds Tryd.pinned (OpenSpec.upto logCrashSpec)

/-- 'herdlaw05.LogOpen', WHERE WHAT IT READS IS OF BULK AT MOST 1048576: true; the input reads as it did. -/
def logOpenUptoRow : OpenClaim := { program := "ytcohgnagffibcaadoor", sum := "001966152a122ceaf033dab1dfd3ff644e1af66023dbcc500d000789dd550cd9", func := "herd/herdlaw05.LogOpen", spec := "logOpen", unfollowed := true, recurses := true, named := ["herd/record.many"], apart := false, laid := [("herd/record.many", laid_herd_record_many)], narrowed := true }
def LogOpenUptoSaid : Prop := logOpenUptoRow.holds Tryd.pinned (OpenSpec.upto logOpenSpec)

/-- 'herdlaw05.LogParts', WHERE WHAT IT READS IS OF BULK AT MOST 1048576: true; the input reads as it did. -/
def logPartsUptoRow : OpenClaim := { program := "ytcohgnagffibcaadoor", sum := "001966152a122ceaf033dab1dfd3ff644e1af66023dbcc500d000789dd550cd9", func := "herd/herdlaw05.LogParts", spec := "logParts", unfollowed := true, recurses := true, named := ["herd/record.many"], apart := false, laid := [("herd/record.many", laid_herd_record_many)], narrowed := true }
def LogPartsUptoSaid : Prop := logPartsUptoRow.holds Tryd.pinned (OpenSpec.upto logPartsSpec)

/-- 'herdlaw05.LogSafe', WHERE WHAT IT READS IS OF BULK AT MOST 1048576: true; the input reads as it did. -/
def logSafeUptoRow : OpenClaim := { program := "ytcohgnagffibcaadoor", sum := "001966152a122ceaf033dab1dfd3ff644e1af66023dbcc500d000789dd550cd9", func := "herd/herdlaw05.LogSafe", spec := "logSafe", unfollowed := true, recurses := true, named := ["herd/record.many"], apart := false, laid := [("herd/record.many", laid_herd_record_many)], narrowed := true }
def LogSafeUptoSaid : Prop := logSafeUptoRow.holds Tryd.pinned (OpenSpec.upto logSafeSpec)

end Rows
end Go.Proofs.YtcohgnagffibcaaDoor
