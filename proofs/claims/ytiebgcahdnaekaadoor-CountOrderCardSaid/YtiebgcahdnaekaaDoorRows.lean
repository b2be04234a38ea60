/-
  NARROWER THAN 'FOR EVERY INPUT', by the rows' own cells (each row's printed sentence says how): CountSums: laid · CountMore: laid · CountOrder: laid · CountStart: laid.
  DERIVED. THE GIVEN ROWS OF THIS SEAT. 4 by the template 'for every input the law returns true; each argument reads behind the call as it read before'; 0 by the template 'total and deterministic' (their statements: YtiebgcahdnaekaaDoorTotals.lean).
  GIVEN WITH THE SEED: the statements are not yours to turn. If you find one false, say at which input.
  Laid BY PROGRAM, IN A SANDBOX (cutbox-rows.mjs): the forced cells as the released guide's own fill.sh prints them over the translation eaec0c2e13a7b9ed… (all of the seat's roots in one cut). By AI agents, Wed Nov 11 2026. No macro, syntax, notation, axiom, sorry.
-/
import Derived.Test.YtiebgcahdnaekaaDoorChecked
import GoSem.Claim
import GoSem.ClaimJoined
import GoSem.ClaimMapViews
import Derived.JoinedTies
import Derived.KernelRfl
namespace Go.Proofs.YtiebgcahdnaekaaDoor
/- THE CELL 'sum', in the pinned program and in every row, IS THE sha256 OF THE DUMP (.gsa) THAT YtiebgcahdnaekaaDoorProg.lean LOADS. Nothing in Lean hashes anything: it is a label: what it is worth is what the hold of that sum in a sandbox is worth. -/
noncomputable def Tryd.pinned : Pinned := { name := "ytiebgcahdnaekaadoor", sum := "eaec0c2e13a7b9ed04aead21f91a398dc3bd2c001f4b5ee8fb3dd75edd65b2e6", checked := Tryd.checked }
namespace Rows
def none {H : Type} : Left H := { results := [], args := [] }

/- WHAT THE LISTED PACKAGE-LEVEL VARIABLES READ AS WHEN THE CALL BEGINS. Each datum BY PROGRAM (the guide's laid-datum.mjs) off the statement by which the dump's own 'gosem.cut.vars' lays the variable. In a bare row this is a premise. The card (YtiebgcahdnaekaaDoorCards.lean) ties it to the program's text. -/
def laid_herd_conf_limits {H : Type} : DataW H := .agg [.agg [.lit (.int .i64 0), .lit (.int .i64 6)], .agg [.lit (.int .i64 0), .lit (.int .i64 100)], .agg [.lit (.int .i64 0), .lit (.int .i64 3)], .agg [.lit (.int .i64 0), .lit (.int .i64 3)], .agg [.lit (.int .i64 0), .lit (.int .i64 20)], .agg [.lit (.int .i64 0), .lit (.int .i64 20)], .agg [.lit (.int .i64 0), .lit (.int .i64 20)], .agg [.lit (.int .i64 0), .lit (.int .i64 20)], .agg [.lit (.int .i64 1), .lit (.int .i64 20)], .agg [.lit (.int .i64 1), .lit (.int .i64 20)], .agg [.lit (.int .i64 1), .lit (.int .i64 20)], .agg [.lit (.int .i64 0), .lit (.int .i64 20)], .agg [.lit (.int .i64 1), .lit (.int .i64 1099511627776)]]

/-- 'herdlaw15.CountSums': WHATEVER THE INPUT: true; the input reads as it did. -/
def countSumsSpec : ChangeSpec := { name := "countSums", fn := fun _ => fun
  | [d] => { results := [.lit (.bool true)], args := [d] }
  | _ => none }
def countSumsRow : OpenClaim := { program := "ytiebgcahdnaekaadoor", sum := "eaec0c2e13a7b9ed04aead21f91a398dc3bd2c001f4b5ee8fb3dd75edd65b2e6", func := "herd/herdlaw15.CountSums", spec := "countSums", unfollowed := true, recurses := true, named := ["herd/conf.limits"], apart := false, laid := [("herd/conf.limits", laid_herd_conf_limits)] }
def CountSumsSaid : Prop := countSumsRow.holds Tryd.pinned (OpenSpec.ofChange countSumsSpec)

/-- ITS FALSE NEIGHBOUR: 'it returns false'. Refute it at one input. -/
def countSumsWrong : ChangeSpec := { name := "countSums", fn := fun _ => fun
  | [d] => { results := [.lit (.bool false)], args := [d] }
  | _ => none }
def CountSumsWrongFalsely : Prop := countSumsRow.holds Tryd.pinned (OpenSpec.ofChange countSumsWrong)

/-- 'herdlaw15.CountMore': WHATEVER THE INPUT: true; the input reads as it did. -/
def countMoreSpec : ChangeSpec := { name := "countMore", fn := fun _ => fun
  | [d1, d2] => { results := [.lit (.bool true)], args := [d1, d2] }
  | _ => none }
def countMoreRow : OpenClaim := { program := "ytiebgcahdnaekaadoor", sum := "eaec0c2e13a7b9ed04aead21f91a398dc3bd2c001f4b5ee8fb3dd75edd65b2e6", func := "herd/herdlaw15.CountMore", spec := "countMore", unfollowed := true, recurses := true, named := ["herd/conf.limits"], apart := false, laid := [("herd/conf.limits", laid_herd_conf_limits)] }
def CountMoreSaid : Prop := countMoreRow.holds Tryd.pinned (OpenSpec.ofChange countMoreSpec)

/-- ITS FALSE NEIGHBOUR: 'it returns false'. Refute it at one input. -/
def countMoreWrong : ChangeSpec := { name := "countMore", fn := fun _ => fun
  | [d1, d2] => { results := [.lit (.bool false)], args := [d1, d2] }
  | _ => none }
def CountMoreWrongFalsely : Prop := countMoreRow.holds Tryd.pinned (OpenSpec.ofChange countMoreWrong)

/-- 'herdlaw15.CountOrder': WHATEVER THE INPUT: true; the input reads as it did. -/
def countOrderSpec : ChangeSpec := { name := "countOrder", fn := fun _ => fun
  | [d1, d2] => { results := [.lit (.bool true)], args := [d1, d2] }
  | _ => none }
def countOrderRow : OpenClaim := { program := "ytiebgcahdnaekaadoor", sum := "eaec0c2e13a7b9ed04aead21f91a398dc3bd2c001f4b5ee8fb3dd75edd65b2e6", func := "herd/herdlaw15.CountOrder", spec := "countOrder", unfollowed := true, recurses := true, named := ["herd/conf.limits"], apart := false, laid := [("herd/conf.limits", laid_herd_conf_limits)] }
def CountOrderSaid : Prop := countOrderRow.holds Tryd.pinned (OpenSpec.ofChange countOrderSpec)

/-- ITS FALSE NEIGHBOUR: 'it returns false'. Refute it at one input. -/
def countOrderWrong : ChangeSpec := { name := "countOrder", fn := fun _ => fun
  | [d1, d2] => { results := [.lit (.bool false)], args := [d1, d2] }
  | _ => none }
def CountOrderWrongFalsely : Prop := countOrderRow.holds Tryd.pinned (OpenSpec.ofChange countOrderWrong)

/-- 'herdlaw15.CountStart': WHATEVER THE INPUT: true; the input reads as it did. -/
def countStartSpec : ChangeSpec := { name := "countStart", fn := fun _ => fun
  | [d1, d2] => { results := [.lit (.bool true)], args := [d1, d2] }
  | _ => none }
def countStartRow : OpenClaim := { program := "ytiebgcahdnaekaadoor", sum := "eaec0c2e13a7b9ed04aead21f91a398dc3bd2c001f4b5ee8fb3dd75edd65b2e6", func := "herd/herdlaw15.CountStart", spec := "countStart", unfollowed := true, recurses := true, named := ["herd/conf.limits"], apart := false, laid := [("herd/conf.limits", laid_herd_conf_limits)] }
def CountStartSaid : Prop := countStartRow.holds Tryd.pinned (OpenSpec.ofChange countStartSpec)

/-- ITS FALSE NEIGHBOUR: 'it returns false'. Refute it at one input. -/
def countStartWrong : ChangeSpec := { name := "countStart", fn := fun _ => fun
  | [d1, d2] => { results := [.lit (.bool false)], args := [d1, d2] }
  | _ => none }
def CountStartWrongFalsely : Prop := countStartRow.holds Tryd.pinned (OpenSpec.ofChange countStartWrong)

/- THE SECOND FORM. 'bulk': how many values and letters a reading holds, each counted each time it is reached (what is shared counts as often as it is met; a slice's spare places count too). A statement '..UptoSaid' is the law's where the arguments, and the package variables that the reading takes, are together of bulk at most 1048576: NARROWER than '..Said'. Prove '..Said' where nothing that the law and all that it calls make is longer than what came in: it says more and counts as full. Else prove '..UptoSaid'. A law counts once. -/
mutual
def uptoBulk {H : Type} : DataW H → Nat
  | .lit (.string bytes) => bytes.length + 1
  | .lit _ => 1
  | .nil => 1
  | .ptr d => uptoBulk d + 1
  | .slice elems spare => uptoBulkAll elems + uptoBulkAll spare + 1
  | .agg parts => uptoBulkAll parts + 1
  | .iface _ d => uptoBulk d + 1
  | .map entries => uptoBulkEntries entries + 1
  | .held _ => 1
def uptoBulkAll {H : Type} : List (DataW H) → Nat
  | [] => 0
  | d :: r => uptoBulk d + uptoBulkAll r
def uptoBulkEntries {H : Type} : List (Lit × DataW H) → Nat
  | [] => 0
  | x :: r => uptoBulkEntry x + uptoBulkEntries r
def uptoBulkEntry {H : Type} : Lit × DataW H → Nat
  | (.string bytes, d) => bytes.length + uptoBulk d + 1
  | (_, d) => uptoBulk d + 1
 end
def uptoSmall : (H : Type) → List (DataW H) → Bool := fun _ ds => decide (uptoBulkAll ds ≤ 1048576)
def OpenSpec.upto (s : _root_.Go.ChangeSpec) : _root_.Go.OpenSpec := { _root_.Go.OpenSpec.ofChange s with cond := some uptoSmall }

/-- 'herdlaw15.CountSums', WHERE WHAT IT READS IS OF BULK AT MOST 1048576: true; the input reads as it did. -/
def countSumsUptoRow : OpenClaim := { program := "ytiebgcahdnaekaadoor", sum := "eaec0c2e13a7b9ed04aead21f91a398dc3bd2c001f4b5ee8fb3dd75edd65b2e6", func := "herd/herdlaw15.CountSums", spec := "countSums", unfollowed := true, recurses := true, named := ["herd/conf.limits"], apart := false, laid := [("herd/conf.limits", laid_herd_conf_limits)], narrowed := true }
def CountSumsUptoSaid : Prop := countSumsUptoRow.holds Tryd.pinned (OpenSpec.upto countSumsSpec)

/-- 'herdlaw15.CountMore', WHERE WHAT IT READS IS OF BULK AT MOST 1048576: true; the input reads as it did. -/
def countMoreUptoRow : OpenClaim := { program := "ytiebgcahdnaekaadoor", sum := "eaec0c2e13a7b9ed04aead21f91a398dc3bd2c001f4b5ee8fb3dd75edd65b2e6", func := "herd/herdlaw15.CountMore", spec := "countMore", unfollowed := true, recurses := true, named := ["herd/conf.limits"], apart := false, laid := [("herd/conf.limits", laid_herd_conf_limits)], narrowed := true }
def CountMoreUptoSaid : Prop := countMoreUptoRow.holds Tryd.pinned (OpenSpec.upto countMoreSpec)

/-- 'herdlaw15.CountOrder', WHERE WHAT IT READS IS OF BULK AT MOST 1048576: true; the input reads as it did. -/
def countOrderUptoRow : OpenClaim := { program := "ytiebgcahdnaekaadoor", sum := "eaec0c2e13a7b9ed04aead21f91a398dc3bd2c001f4b5ee8fb3dd75edd65b2e6", func := "herd/herdlaw15.CountOrder", spec := "countOrder", unfollowed := true, recurses := true, named := ["herd/conf.limits"], apart := false, laid := [("herd/conf.limits", laid_herd_conf_limits)], narrowed := true }
def CountOrderUptoSaid : Prop := countOrderUptoRow.holds Tryd.pinned (OpenSpec.upto countOrderSpec)

/-- 'herdlaw15.CountStart', WHERE WHAT IT READS IS OF BULK AT MOST 1048576: true; the input reads as it did. -/
def countStartUptoRow : OpenClaim := { program := "ytiebgcahdnaekaadoor", sum := "eaec0c2e13a7b9ed04aead21f91a398dc3bd2c001f4b5ee8fb3dd75edd65b2e6", func := "herd/herdlaw15.CountStart", spec := "countStart", unfollowed := true, recurses := true, named := ["herd/conf.limits"], apart := false, laid := [("herd/conf.limits", laid_herd_conf_limits)], narrowed := true }
def CountStartUptoSaid : Prop := countStartUptoRow.holds Tryd.pinned (OpenSpec.upto countStartSpec)

end Rows
end Go.Proofs.YtiebgcahdnaekaaDoor
