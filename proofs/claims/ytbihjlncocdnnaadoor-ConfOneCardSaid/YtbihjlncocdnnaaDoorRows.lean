/-
  NARROWER THAN 'FOR EVERY INPUT', by the rows' own cells (each row's printed sentence says how): ConfBack: laid · ConfFloor: laid · ConfTells: laid · ConfOne: laid · ConfRows: laid.
  DERIVED. THE GIVEN ROWS OF THIS SEAT. 5 by the template 'for every input the law returns true; each argument reads behind the call as it read before'; 0 by the template 'total and deterministic' (their statements: YtbihjlncocdnnaaDoorTotals.lean).
  GIVEN WITH THE SEED: the statements are not yours to turn. If you find one false, say at which input.
  Laid BY PROGRAM, IN A SANDBOX (cutbox-rows.mjs): the forced cells as the released guide's own fill.sh prints them over the translation a5f8060bb8f6d4f7… (all of the seat's roots in one cut). By AI agents, Wed Nov 11 2026. No macro, syntax, notation, axiom, sorry.
-/
import Derived.Test.YtbihjlncocdnnaaDoorChecked
import GoSem.Claim
import GoSem.ClaimJoined
import GoSem.ClaimMapViews
import Derived.JoinedTies
import Derived.KernelRfl
namespace Go.Proofs.YtbihjlncocdnnaaDoor
/- THE CELL 'sum', in the pinned program and in every row, IS THE sha256 OF THE DUMP (.gsa) THAT YtbihjlncocdnnaaDoorProg.lean LOADS. Nothing in Lean hashes anything: it is a label: what it is worth is what the hold of that sum in a sandbox is worth. -/
noncomputable def Tryd.pinned : Pinned := { name := "ytbihjlncocdnnaadoor", sum := "a5f8060bb8f6d4f7e225ec6a402c533c0a99824caa7b8aa587cae92ee07b1693", checked := Tryd.checked }
namespace Rows
def none {H : Type} : Left H := { results := [], args := [] }

/- WHAT THE LISTED PACKAGE-LEVEL VARIABLES READ AS WHEN THE CALL BEGINS. Each datum BY PROGRAM (the guide's laid-datum.mjs) off the statement by which the dump's own 'gosem.cut.vars' lays the variable. In a bare row this is a premise. The card (YtbihjlncocdnnaaDoorCards.lean) ties it to the program's text. -/
def laid_herd_conf_limits {H : Type} : DataW H := .agg [.agg [.lit (.int .i64 0), .lit (.int .i64 6)], .agg [.lit (.int .i64 0), .lit (.int .i64 100)], .agg [.lit (.int .i64 0), .lit (.int .i64 3)], .agg [.lit (.int .i64 0), .lit (.int .i64 3)], .agg [.lit (.int .i64 0), .lit (.int .i64 20)], .agg [.lit (.int .i64 0), .lit (.int .i64 20)], .agg [.lit (.int .i64 0), .lit (.int .i64 20)], .agg [.lit (.int .i64 0), .lit (.int .i64 20)], .agg [.lit (.int .i64 1), .lit (.int .i64 20)], .agg [.lit (.int .i64 1), .lit (.int .i64 20)], .agg [.lit (.int .i64 1), .lit (.int .i64 20)], .agg [.lit (.int .i64 0), .lit (.int .i64 20)], .agg [.lit (.int .i64 1), .lit (.int .i64 1099511627776)]]

/-- 'herdlaw07.ConfBack': WHATEVER THE INPUT: true; the input reads as it did. -/
def confBackSpec : ChangeSpec := { name := "confBack", fn := fun _ => fun
  | [d1, d2] => { results := [.lit (.bool true)], args := [d1, d2] }
  | _ => none }
def confBackRow : OpenClaim := { program := "ytbihjlncocdnnaadoor", sum := "a5f8060bb8f6d4f7e225ec6a402c533c0a99824caa7b8aa587cae92ee07b1693", func := "herd/herdlaw07.ConfBack", spec := "confBack", unfollowed := true, recurses := true, named := ["herd/conf.limits"], apart := false, laid := [("herd/conf.limits", laid_herd_conf_limits)] }
def ConfBackSaid : Prop := confBackRow.holds Tryd.pinned (OpenSpec.ofChange confBackSpec)

/-- ITS FALSE NEIGHBOUR: 'it returns false'. Refute it at one input. -/
def confBackWrong : ChangeSpec := { name := "confBack", fn := fun _ => fun
  | [d1, d2] => { results := [.lit (.bool false)], args := [d1, d2] }
  | _ => none }
def ConfBackWrongFalsely : Prop := confBackRow.holds Tryd.pinned (OpenSpec.ofChange confBackWrong)

/-- 'herdlaw07.ConfFloor': WHATEVER THE INPUT: true; the input reads as it did. -/
def confFloorSpec : ChangeSpec := { name := "confFloor", fn := fun _ => fun
  | [d] => { results := [.lit (.bool true)], args := [d] }
  | _ => none }
def confFloorRow : OpenClaim := { program := "ytbihjlncocdnnaadoor", sum := "a5f8060bb8f6d4f7e225ec6a402c533c0a99824caa7b8aa587cae92ee07b1693", func := "herd/herdlaw07.ConfFloor", spec := "confFloor", unfollowed := true, recurses := true, named := ["herd/conf.limits"], apart := false, laid := [("herd/conf.limits", laid_herd_conf_limits)] }
def ConfFloorSaid : Prop := confFloorRow.holds Tryd.pinned (OpenSpec.ofChange confFloorSpec)

/-- ITS FALSE NEIGHBOUR: 'it returns false'. Refute it at one input. -/
def confFloorWrong : ChangeSpec := { name := "confFloor", fn := fun _ => fun
  | [d] => { results := [.lit (.bool false)], args := [d] }
  | _ => none }
def ConfFloorWrongFalsely : Prop := confFloorRow.holds Tryd.pinned (OpenSpec.ofChange confFloorWrong)

/-- 'herdlaw07.ConfTells': WHATEVER THE INPUT: true; the input reads as it did. -/
def confTellsSpec : ChangeSpec := { name := "confTells", fn := fun _ => fun
  | [d1, d2, d3] => { results := [.lit (.bool true)], args := [d1, d2, d3] }
  | _ => none }
def confTellsRow : OpenClaim := { program := "ytbihjlncocdnnaadoor", sum := "a5f8060bb8f6d4f7e225ec6a402c533c0a99824caa7b8aa587cae92ee07b1693", func := "herd/herdlaw07.ConfTells", spec := "confTells", unfollowed := true, recurses := true, named := ["herd/conf.limits"], apart := false, laid := [("herd/conf.limits", laid_herd_conf_limits)] }
def ConfTellsSaid : Prop := confTellsRow.holds Tryd.pinned (OpenSpec.ofChange confTellsSpec)

/-- ITS FALSE NEIGHBOUR: 'it returns false'. Refute it at one input. -/
def confTellsWrong : ChangeSpec := { name := "confTells", fn := fun _ => fun
  | [d1, d2, d3] => { results := [.lit (.bool false)], args := [d1, d2, d3] }
  | _ => none }
def ConfTellsWrongFalsely : Prop := confTellsRow.holds Tryd.pinned (OpenSpec.ofChange confTellsWrong)

/-- 'herdlaw07.ConfOne': WHATEVER THE INPUT: true; the input reads as it did. -/
def confOneSpec : ChangeSpec := { name := "confOne", fn := fun _ => fun
  | [d1, d2, d3] => { results := [.lit (.bool true)], args := [d1, d2, d3] }
  | _ => none }
def confOneRow : OpenClaim := { program := "ytbihjlncocdnnaadoor", sum := "a5f8060bb8f6d4f7e225ec6a402c533c0a99824caa7b8aa587cae92ee07b1693", func := "herd/herdlaw07.ConfOne", spec := "confOne", unfollowed := true, recurses := true, named := ["herd/conf.limits"], apart := false, laid := [("herd/conf.limits", laid_herd_conf_limits)] }
def ConfOneSaid : Prop := confOneRow.holds Tryd.pinned (OpenSpec.ofChange confOneSpec)

/-- ITS FALSE NEIGHBOUR: 'it returns false'. Refute it at one input. -/
def confOneWrong : ChangeSpec := { name := "confOne", fn := fun _ => fun
  | [d1, d2, d3] => { results := [.lit (.bool false)], args := [d1, d2, d3] }
  | _ => none }
def ConfOneWrongFalsely : Prop := confOneRow.holds Tryd.pinned (OpenSpec.ofChange confOneWrong)

/-- 'herdlaw07.ConfRows': WHATEVER THE INPUT: true; the input reads as it did. -/
def confRowsSpec : ChangeSpec := { name := "confRows", fn := fun _ => fun
  | [d1, d2, d3, d4] => { results := [.lit (.bool true)], args := [d1, d2, d3, d4] }
  | _ => none }
def confRowsRow : OpenClaim := { program := "ytbihjlncocdnnaadoor", sum := "a5f8060bb8f6d4f7e225ec6a402c533c0a99824caa7b8aa587cae92ee07b1693", func := "herd/herdlaw07.ConfRows", spec := "confRows", unfollowed := true, recurses := true, named := ["herd/conf.limits"], apart := false, laid := [("herd/conf.limits", laid_herd_conf_limits)] }
def ConfRowsSaid : Prop := confRowsRow.holds Tryd.pinned (OpenSpec.ofChange confRowsSpec)

/-- ITS FALSE NEIGHBOUR: 'it returns false'. Refute it at one input. -/
def confRowsWrong : ChangeSpec := { name := "confRows", fn := fun _ => fun
  | [d1, d2, d3, d4] => { results := [.lit (.bool false)], args := [d1, d2, d3, d4] }
  | _ => none }
def ConfRowsWrongFalsely : Prop := confRowsRow.holds Tryd.pinned (OpenSpec.ofChange confRowsWrong)

/- THE SECOND FORM. 'bulk': how many values and letters a reading holds, each counted each time it is reached (what is shared counts as often as it is met; a slice's spare places count too). A statement '..UptoSaid' is the law's where the arguments, and the package variables that the reading takes, are together of bulk at most 1048576: NARROWER than '..Said'. Prove '..Said' where nothing that the law and all that it calls make is longer than what came in: it says more and counts as full. Else prove '..UptoSaid'. A law counts once. -/
mutual
def uptoBulk {H : Type} : DataW H → Nat
  | .lit (.string bytes) => bytes.length + 1
  | .lit _ => 1
  | .nil => 1
  | .ptr d => uptoBulk d + 1
  | .slice elems spare => uptoBulkAll elems + uptoBulkAll spare + 1
  | .agg parts => uptoBulkAll parts + 1
  | .iface _ d => uptoBulk d + 1
  | .map entries => uptoBulkEntries entries + 1
  | .held _ => 1
def uptoBulkAll {H : Type} : List (DataW H) → Nat
  | [] => 0
  | d :: r => uptoBulk d + uptoBulkAll r
def uptoBulkEntries {H : Type} : List (Lit × DataW H) → Nat
  | [] => 0
  | x :: r => uptoBulkEntry x + uptoBulkEntries r
def uptoBulkEntry {H : Type} : Lit × DataW H → Nat
  | (.string bytes, d) => bytes.length + uptoBulk d + 1
  | (_, d) => uptoBulk d + 1
 end
def uptoSmall : (H : Type) → List (DataW H) → Bool := fun _ ds => decide (uptoBulkAll ds ≤ 1048576)
def OpenSpec.upto (s : _root_.Go.ChangeSpec) : _root_.Go.OpenSpec := { _root_.Go.OpenSpec.ofChange s with cond := some uptoSmall }

/-- 'herdlaw07.ConfBack', WHERE WHAT IT READS IS OF BULK AT MOST 1048576: true; the input reads as it did. -/
def confBackUptoRow : OpenClaim := { program := "ytbihjlncocdnnaadoor", sum := "a5f8060bb8f6d4f7e225ec6a402c533c0a99824caa7b8aa587cae92ee07b1693", func := "herd/herdlaw07.ConfBack", spec := "confBack", unfollowed := true, recurses := true, named := ["herd/conf.limits"], apart := false, laid := [("herd/conf.limits", laid_herd_conf_limits)], narrowed := true }
def ConfBackUptoSaid : Prop := confBackUptoRow.holds Tryd.pinned (OpenSpec.upto confBackSpec)

/-- 'herdlaw07.ConfFloor', WHERE WHAT IT READS IS OF BULK AT MOST 1048576: true; the input reads as it did. -/
def confFloorUptoRow : OpenClaim := { program := "ytbihjlncocdnnaadoor", sum := "a5f8060bb8f6d4f7e225ec6a402c533c0a99824caa7b8aa587cae92ee07b1693", func := "herd/herdlaw07.ConfFloor", spec := "confFloor", unfollowed := true, recurses := true, named := ["herd/conf.limits"], apart := false, laid := [("herd/conf.limits", laid_herd_conf_limits)], narrowed := true }
def ConfFloorUptoSaid : Prop := confFloorUptoRow.holds Tryd.pinned (OpenSpec.upto confFloorSpec)

/-- 'herdlaw07.ConfTells', WHERE WHAT IT READS IS OF BULK AT MOST 1048576: true; the input reads as it did. -/
def confTellsUptoRow : OpenClaim := { program := "ytbihjlncocdnnaadoor", sum := "a5f8060bb8f6d4f7e225ec6a402c533c0a99824caa7b8aa587cae92ee07b1693", func := "herd/herdlaw07.ConfTells", spec := "confTells", unfollowed := true, recurses := true, named := ["herd/conf.limits"], apart := false, laid := [("herd/conf.limits", laid_herd_conf_limits)], narrowed := true }
def ConfTellsUptoSaid : Prop := confTellsUptoRow.holds Tryd.pinned (OpenSpec.upto confTellsSpec)

/-- 'herdlaw07.ConfOne', WHERE WHAT IT READS IS OF BULK AT MOST 1048576: true; the input reads as it did. -/
def confOneUptoRow : OpenClaim := { program := "ytbihjlncocdnnaadoor", sum := "a5f8060bb8f6d4f7e225ec6a402c533c0a99824caa7b8aa587cae92ee07b1693", func := "herd/herdlaw07.ConfOne", spec := "confOne", unfollowed := true, recurses := true, named := ["herd/conf.limits"], apart := false, laid := [("herd/conf.limits", laid_herd_conf_limits)], narrowed := true }
def ConfOneUptoSaid : Prop := confOneUptoRow.holds Tryd.pinned (OpenSpec.upto confOneSpec)

/-- 'herdlaw07.ConfRows', WHERE WHAT IT READS IS OF BULK AT MOST 1048576: true; the input reads as it did. -/
def confRowsUptoRow : OpenClaim := { program := "ytbihjlncocdnnaadoor", sum := "a5f8060bb8f6d4f7e225ec6a402c533c0a99824caa7b8aa587cae92ee07b1693", func := "herd/herdlaw07.ConfRows", spec := "confRows", unfollowed := true, recurses := true, named := ["herd/conf.limits"], apart := false, laid := [("herd/conf.limits", laid_herd_conf_limits)], narrowed := true }
def ConfRowsUptoSaid : Prop := confRowsUptoRow.holds Tryd.pinned (OpenSpec.upto confRowsSpec)

end Rows
end Go.Proofs.YtbihjlncocdnnaaDoor
