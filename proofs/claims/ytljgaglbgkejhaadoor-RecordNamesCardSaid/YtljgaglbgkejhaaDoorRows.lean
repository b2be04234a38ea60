/-
  NARROWER THAN 'FOR EVERY INPUT', by the rows' own cells (each row's printed sentence says how): RecordTells: laid · RecordBack: laid · RecordOnly: laid · RecordNumbers: laid · RecordNames: laid · RecordApart: laid.
  DERIVED. THE GIVEN ROWS OF THIS SEAT. 6 by the template 'for every input the law returns true; each argument reads behind the call as it read before'; 0 by the template 'total and deterministic' (their statements: YtljgaglbgkejhaaDoorTotals.lean).
  GIVEN WITH THE SEED: the statements are not yours to turn. If you find one false, say at which input.
  Laid BY PROGRAM, IN A SANDBOX (cutbox-rows.mjs): the forced cells as the released guide's own fill.sh prints them over the translation 60a54e2626101fc0… (all of the seat's roots in one cut). By AI agents, Wed Nov 11 2026. No macro, syntax, notation, axiom, sorry.
-/
import Derived.Test.YtljgaglbgkejhaaDoorChecked
import GoSem.Claim
import GoSem.ClaimJoined
import GoSem.ClaimMapViews
import Derived.JoinedTies
import Derived.KernelRfl
namespace Go.Proofs.YtljgaglbgkejhaaDoor
/- THE CELL 'sum', in the pinned program and in every row, IS THE sha256 OF THE DUMP (.gsa) THAT YtljgaglbgkejhaaDoorProg.lean LOADS. Nothing in Lean hashes anything: it is a label: what it is worth is what the hold of that sum in a sandbox is worth. -/
noncomputable def Tryd.pinned : Pinned := { name := "ytljgaglbgkejhaadoor", sum := "60a54e2626101fc0d884967c6490c6c76770727381e4fe1319846e002bfe2fe8", checked := Tryd.checked }
namespace Rows
def none {H : Type} : Left H := { results := [], args := [] }

/- WHAT THE LISTED PACKAGE-LEVEL VARIABLES READ AS WHEN THE CALL BEGINS. Each datum BY PROGRAM (the guide's laid-datum.mjs) off the statement by which the dump's own 'gosem.cut.vars' lays the variable. In a bare row this is a premise. The card (YtljgaglbgkejhaaDoorCards.lean) ties it to the program's text. -/
def laid_herd_record_many {H : Type} : DataW H := .agg [.nil, .slice [.lit (.int .i64 0), .lit (.int .i64 0)] [], .slice [.lit (.int .i64 14), .lit (.int .i64 18)] [], .slice [.lit (.int .i64 3), .lit (.int .i64 3)] [], .slice [.lit (.int .i64 3), .lit (.int .i64 3)] [], .slice [.lit (.int .i64 1), .lit (.int .i64 1)] [], .slice [.lit (.int .i64 3), .lit (.int .i64 3)] [], .slice [.lit (.int .i64 1), .lit (.int .i64 1)] [], .slice [.lit (.int .i64 5), .lit (.int .i64 5)] [], .slice [.lit (.int .i64 2), .lit (.int .i64 2)] [], .slice [.lit (.int .i64 1), .lit (.int .i64 1)] [], .slice [.lit (.int .i64 2), .lit (.int .i64 2)] [], .slice [.lit (.int .i64 0), .lit (.int .i64 0)] [], .slice [.lit (.int .i64 0), .lit (.int .i64 0)] [], .slice [.lit (.int .i64 1), .lit (.int .i64 1)] [], .slice [.lit (.int .i64 0), .lit (.int .i64 0)] [], .slice [.lit (.int .i64 0), .lit (.int .i64 0)] []]
def laid_herd_record_names {H : Type} : DataW H := .map [(.int .u8 1, .lit (.string [98, 111, 111, 116])), (.int .u8 2, .lit (.string [99, 111, 110, 102])), (.int .u8 3, .lit (.string [105, 110, 116, 101, 110, 116])), (.int .u8 4, .lit (.string [109, 97, 100, 101])), (.int .u8 5, .lit (.string [102, 97, 105, 108])), (.int .u8 6, .lit (.string [112, 104, 97, 115, 101])), (.int .u8 7, .lit (.string [103, 111, 110, 101])), (.int .u8 8, .lit (.string [116, 97, 107, 101])), (.int .u8 9, .lit (.string [103, 117, 97, 114, 100])), (.int .u8 10, .lit (.string [99, 111, 109, 112, 108, 101, 116, 101])), (.int .u8 11, .lit (.string [115, 116, 97, 114, 116])), (.int .u8 12, .lit (.string [99, 97, 110, 99, 101, 108])), (.int .u8 13, .lit (.string [114, 111, 108, 108])), (.int .u8 14, .lit (.string [112, 97, 117, 115, 101])), (.int .u8 15, .lit (.string [103, 111])), (.int .u8 16, .lit (.string [100, 111, 110, 101]))]

/-- 'herdlaw02.RecordTells': WHATEVER THE INPUT: true; the input reads as it did. -/
def recordTellsSpec : ChangeSpec := { name := "recordTells", fn := fun _ => fun
  | [d1, d2, d3, d4, d5] => { results := [.lit (.bool true)], args := [d1, d2, d3, d4, d5] }
  | _ => none }
def recordTellsRow : OpenClaim := { program := "ytljgaglbgkejhaadoor", sum := "60a54e2626101fc0d884967c6490c6c76770727381e4fe1319846e002bfe2fe8", func := "herd/herdlaw02.RecordTells", spec := "recordTells", unfollowed := true, recurses := true, named := ["herd/record.many", "herd/record.names"], apart := false, laid := [("herd/record.many", laid_herd_record_many), ("herd/record.names", laid_herd_record_names)] }
def RecordTellsSaid : Prop := recordTellsRow.holds Tryd.pinned (OpenSpec.ofChange recordTellsSpec)

/-- ITS FALSE NEIGHBOUR: 'it returns false'. Refute it at one input. -/
def recordTellsWrong : ChangeSpec := { name := "recordTells", fn := fun _ => fun
  | [d1, d2, d3, d4, d5] => { results := [.lit (.bool false)], args := [d1, d2, d3, d4, d5] }
  | _ => none }
def RecordTellsWrongFalsely : Prop := recordTellsRow.holds Tryd.pinned (OpenSpec.ofChange recordTellsWrong)

/-- 'herdlaw02.RecordBack': WHATEVER THE INPUT: true; the input reads as it did. -/
def recordBackSpec : ChangeSpec := { name := "recordBack", fn := fun _ => fun
  | [d1, d2] => { results := [.lit (.bool true)], args := [d1, d2] }
  | _ => none }
def recordBackRow : OpenClaim := { program := "ytljgaglbgkejhaadoor", sum := "60a54e2626101fc0d884967c6490c6c76770727381e4fe1319846e002bfe2fe8", func := "herd/herdlaw02.RecordBack", spec := "recordBack", unfollowed := true, recurses := true, named := ["herd/record.many", "herd/record.names"], apart := false, laid := [("herd/record.many", laid_herd_record_many), ("herd/record.names", laid_herd_record_names)] }
def RecordBackSaid : Prop := recordBackRow.holds Tryd.pinned (OpenSpec.ofChange recordBackSpec)

/-- ITS FALSE NEIGHBOUR: 'it returns false'. Refute it at one input. -/
def recordBackWrong : ChangeSpec := { name := "recordBack", fn := fun _ => fun
  | [d1, d2] => { results := [.lit (.bool false)], args := [d1, d2] }
  | _ => none }
def RecordBackWrongFalsely : Prop := recordBackRow.holds Tryd.pinned (OpenSpec.ofChange recordBackWrong)

/-- 'herdlaw02.RecordOnly': WHATEVER THE INPUT: true; the input reads as it did. -/
def recordOnlySpec : ChangeSpec := { name := "recordOnly", fn := fun _ => fun
  | [d] => { results := [.lit (.bool true)], args := [d] }
  | _ => none }
def recordOnlyRow : OpenClaim := { program := "ytljgaglbgkejhaadoor", sum := "60a54e2626101fc0d884967c6490c6c76770727381e4fe1319846e002bfe2fe8", func := "herd/herdlaw02.RecordOnly", spec := "recordOnly", unfollowed := true, recurses := true, named := ["herd/record.many", "herd/record.names"], apart := false, laid := [("herd/record.many", laid_herd_record_many), ("herd/record.names", laid_herd_record_names)] }
def RecordOnlySaid : Prop := recordOnlyRow.holds Tryd.pinned (OpenSpec.ofChange recordOnlySpec)

/-- ITS FALSE NEIGHBOUR: 'it returns false'. Refute it at one input. -/
def recordOnlyWrong : ChangeSpec := { name := "recordOnly", fn := fun _ => fun
  | [d] => { results := [.lit (.bool false)], args := [d] }
  | _ => none }
def RecordOnlyWrongFalsely : Prop := recordOnlyRow.holds Tryd.pinned (OpenSpec.ofChange recordOnlyWrong)

/-- 'herdlaw02.RecordNumbers': WHATEVER THE INPUT: true; the input reads as it did. -/
def recordNumbersSpec : ChangeSpec := { name := "recordNumbers", fn := fun _ => fun
  | [d1, d2, d3] => { results := [.lit (.bool true)], args := [d1, d2, d3] }
  | _ => none }
def recordNumbersRow : OpenClaim := { program := "ytljgaglbgkejhaadoor", sum := "60a54e2626101fc0d884967c6490c6c76770727381e4fe1319846e002bfe2fe8", func := "herd/herdlaw02.RecordNumbers", spec := "recordNumbers", unfollowed := true, recurses := true, named := ["herd/record.many", "herd/record.names"], apart := false, laid := [("herd/record.many", laid_herd_record_many), ("herd/record.names", laid_herd_record_names)] }
def RecordNumbersSaid : Prop := recordNumbersRow.holds Tryd.pinned (OpenSpec.ofChange recordNumbersSpec)

/-- ITS FALSE NEIGHBOUR: 'it returns false'. Refute it at one input. -/
def recordNumbersWrong : ChangeSpec := { name := "recordNumbers", fn := fun _ => fun
  | [d1, d2, d3] => { results := [.lit (.bool false)], args := [d1, d2, d3] }
  | _ => none }
def RecordNumbersWrongFalsely : Prop := recordNumbersRow.holds Tryd.pinned (OpenSpec.ofChange recordNumbersWrong)

/-- 'herdlaw02.RecordNames': WHATEVER THE INPUT: true; the input reads as it did. -/
def recordNamesSpec : ChangeSpec := { name := "recordNames", fn := fun _ => fun
  | [d1, d2, d3] => { results := [.lit (.bool true)], args := [d1, d2, d3] }
  | _ => none }
def recordNamesRow : OpenClaim := { program := "ytljgaglbgkejhaadoor", sum := "60a54e2626101fc0d884967c6490c6c76770727381e4fe1319846e002bfe2fe8", func := "herd/herdlaw02.RecordNames", spec := "recordNames", unfollowed := true, recurses := true, named := ["herd/record.many", "herd/record.names"], apart := false, laid := [("herd/record.many", laid_herd_record_many), ("herd/record.names", laid_herd_record_names)] }
def RecordNamesSaid : Prop := recordNamesRow.holds Tryd.pinned (OpenSpec.ofChange recordNamesSpec)

/-- ITS FALSE NEIGHBOUR: 'it returns false'. Refute it at one input. -/
def recordNamesWrong : ChangeSpec := { name := "recordNames", fn := fun _ => fun
  | [d1, d2, d3] => { results := [.lit (.bool false)], args := [d1, d2, d3] }
  | _ => none }
def RecordNamesWrongFalsely : Prop := recordNamesRow.holds Tryd.pinned (OpenSpec.ofChange recordNamesWrong)

/-- 'herdlaw02.RecordApart': WHATEVER THE INPUT: true; the input reads as it did. -/
def recordApartSpec : ChangeSpec := { name := "recordApart", fn := fun _ => fun
  | [d1, d2] => { results := [.lit (.bool true)], args := [d1, d2] }
  | _ => none }
def recordApartRow : OpenClaim := { program := "ytljgaglbgkejhaadoor", sum := "60a54e2626101fc0d884967c6490c6c76770727381e4fe1319846e002bfe2fe8", func := "herd/herdlaw02.RecordApart", spec := "recordApart", unfollowed := true, recurses := true, named := ["herd/record.many", "herd/record.names"], apart := false, laid := [("herd/record.many", laid_herd_record_many), ("herd/record.names", laid_herd_record_names)] }
def RecordApartSaid : Prop := recordApartRow.holds Tryd.pinned (OpenSpec.ofChange recordApartSpec)

/-- ITS FALSE NEIGHBOUR: 'it returns false'. Refute it at one input. -/
def recordApartWrong : ChangeSpec := { name := "recordApart", fn := fun _ => fun
  | [d1, d2] => { results := [.lit (.bool false)], args := [d1, d2] }
  | _ => none }
def RecordApartWrongFalsely : Prop := recordApartRow.holds Tryd.pinned (OpenSpec.ofChange recordApartWrong)

/- THE SECOND FORM. 'bulk': how many values and letters a reading holds, each counted each time it is reached (what is shared counts as often as it is met; a slice's spare places count too). A statement '..UptoSaid' is the law's where the arguments, and the package variables that the reading takes, are together of bulk at most 1048576: NARROWER than '..Said'. Prove '..Said' where nothing that the law and all that it calls make is longer than what came in: it says more and counts as full. Else prove '..UptoSaid'. A law counts once. -/
mutual
def uptoBulk {H : Type} : DataW H → Nat
  | .lit (.string bytes) => bytes.length + 1
  | .lit _ => 1
  | .nil => 1
  | .ptr d => uptoBulk d + 1
  | .slice elems spare => uptoBulkAll elems + uptoBulkAll spare + 1
  | .agg parts => uptoBulkAll parts + 1
  | .iface _ d => uptoBulk d + 1
  | .map entries => uptoBulkEntries entries + 1
  | .held _ => 1
def uptoBulkAll {H : Type} : List (DataW H) → Nat
  | [] => 0
  | d :: r => uptoBulk d + uptoBulkAll r
def uptoBulkEntries {H : Type} : List (Lit × DataW H) → Nat
  | [] => 0
  | x :: r => uptoBulkEntry x + uptoBulkEntries r
def uptoBulkEntry {H : Type} : Lit × DataW H → Nat
  | (.string bytes, d) => bytes.length + uptoBulk d + 1
  | (_, d) => uptoBulk d + 1
 end
def uptoSmall : (H : Type) → List (DataW H) → Bool := fun _ ds => decide (uptoBulkAll ds ≤ 1048576)
def OpenSpec.upto (s : _root_.Go.ChangeSpec) : _root_.Go.OpenSpec := { _root_.Go.OpenSpec.ofChange s with cond := some uptoSmall }

/-- 'herdlaw02.RecordTells', WHERE WHAT IT READS IS OF BULK AT MOST 1048576: true; the input reads as it did. -/
def recordTellsUptoRow : OpenClaim := { program := "ytljgaglbgkejhaadoor", sum := "60a54e2626101fc0d884967c6490c6c76770727381e4fe1319846e002bfe2fe8", func := "herd/herdlaw02.RecordTells", spec := "recordTells", unfollowed := true, recurses := true, named := ["herd/record.many", "herd/record.names"], apart := false, laid := [("herd/record.many", laid_herd_record_many), ("herd/record.names", laid_herd_record_names)], narrowed := true }
def RecordTellsUptoSaid : Prop := recordTellsUptoRow.holds Tryd.pinned (OpenSpec.upto recordTellsSpec)

/-- 'herdlaw02.RecordBack', WHERE WHAT IT READS IS OF BULK AT MOST 1048576: true; the input reads as it did. -/
def recordBackUptoRow : OpenClaim := { program := "ytljgaglbgkejhaadoor", sum := "60a54e2626101fc0d884967c6490c6c76770727381e4fe1319846e002bfe2fe8", func := "herd/herdlaw02.RecordBack", spec := "recordBack", unfollowed := true, recurses := true, named := ["herd/record.many", "herd/record.names"], apart := false, laid := [("herd/record.many", laid_herd_record_many), ("herd/record.names", laid_herd_record_names)], narrowed := true }
def RecordBackUptoSaid : Prop := recordBackUptoRow.holds Tryd.pinned (OpenSpec.upto recordBackSpec)

/-- 'herdlaw02.RecordOnly', WHERE WHAT IT READS IS OF BULK AT MOST 1048576: true; the input reads as it did. -/
def recordOnlyUptoRow : OpenClaim := { program := "ytljgaglbgkejhaadoor", sum := "60a54e2626101fc0d884967c6490c6c76770727381e4fe1319846e002bfe2fe8", func := "herd/herdlaw02.RecordOnly", spec := "recordOnly", unfollowed := true, recurses := true, named := ["herd/record.many", "herd/record.names"], apart := false, laid := [("herd/record.many", laid_herd_record_many), ("herd/record.names", laid_herd_record_names)], narrowed := true }
def RecordOnlyUptoSaid : Prop := recordOnlyUptoRow.holds Tryd.pinned (OpenSpec.upto recordOnlySpec)

/-- 'herdlaw02.RecordNumbers', WHERE WHAT IT READS IS OF BULK AT MOST 1048576: true; the input reads as it did. -/
def recordNumbersUptoRow : OpenClaim := { program := "ytljgaglbgkejhaadoor", sum := "60a54e2626101fc0d884967c6490c6c76770727381e4fe1319846e002bfe2fe8", func := "herd/herdlaw02.RecordNumbers", spec := "recordNumbers", unfollowed := true, recurses := true, named := ["herd/record.many", "herd/record.names"], apart := false, laid := [("herd/record.many", laid_herd_record_many), ("herd/record.names", laid_herd_record_names)], narrowed := true }
def RecordNumbersUptoSaid : Prop := recordNumbersUptoRow.holds Tryd.pinned (OpenSpec.upto recordNumbersSpec)

/-- 'herdlaw02.RecordNames', WHERE WHAT IT READS IS OF BULK AT MOST 1048576: true; the input reads as it did. -/
def recordNamesUptoRow : OpenClaim := { program := "ytljgaglbgkejhaadoor", sum := "60a54e2626101fc0d884967c6490c6c76770727381e4fe1319846e002bfe2fe8", func := "herd/herdlaw02.RecordNames", spec := "recordNames", unfollowed := true, recurses := true, named := ["herd/record.many", "herd/record.names"], apart := false, laid := [("herd/record.many", laid_herd_record_many), ("herd/record.names", laid_herd_record_names)], narrowed := true }
def RecordNamesUptoSaid : Prop := recordNamesUptoRow.holds Tryd.pinned (OpenSpec.upto recordNamesSpec)

/-- 'herdlaw02.RecordApart', WHERE WHAT IT READS IS OF BULK AT MOST 1048576: true; the input reads as it did. -/
def recordApartUptoRow : OpenClaim := { program := "ytljgaglbgkejhaadoor", sum := "60a54e2626101fc0d884967c6490c6c76770727381e4fe1319846e002bfe2fe8", func := "herd/herdlaw02.RecordApart", spec := "recordApart", unfollowed := true, recurses := true, named := ["herd/record.many", "herd/record.names"], apart := false, laid := [("herd/record.many", laid_herd_record_many), ("herd/record.names", laid_herd_record_names)], narrowed := true }
def RecordApartUptoSaid : Prop := recordApartUptoRow.holds Tryd.pinned (OpenSpec.upto recordApartSpec)

end Rows
end Go.Proofs.YtljgaglbgkejhaaDoor
