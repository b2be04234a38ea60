/-
  No cell of these rows narrows 'for every input' (looked for: loops, veiled, ifaces, maps, wideKeys, modest, calm, conditions, laid).
  DERIVED. THE GIVEN ROWS OF THIS SEAT. 4 by the template 'for every input the law returns true; each argument reads behind the call as it read before'; 0 by the template 'total and deterministic' (their statements: YtoackajhekdckaaTotals.lean).
  GIVEN WITH THE SEED: the statements are not yours to turn. If you find one false, say at which input.
  Laid BY PROGRAM, IN A SANDBOX (cutbox-rows.mjs): the forced cells as the released guide's own fill.sh prints them over the translation 8826d61c7234edcc… (all of the seat's roots in one cut). By AI agents, Wed Nov 11 2026. No macro, syntax, notation, axiom, sorry.
-/
import Derived.Test.YtoackajhekdckaaChecked
import GoSem.Claim
import GoSem.ClaimJoined
import GoSem.ClaimMapViews
import Derived.JoinedTies
import Derived.KernelRfl
namespace Go.Proofs.Ytoackajhekdckaa
/- THE CELL 'sum', in the pinned program and in every row, IS THE sha256 OF THE DUMP (.gsa) THAT YtoackajhekdckaaProg.lean LOADS. Nothing in Lean hashes anything: it is a label: what it is worth is what the hold of that sum in a sandbox is worth. -/
noncomputable def Try.pinned : Pinned := { name := "ytoackajhekdckaa", sum := "8826d61c7234edcce5e99cf39154e1aba6fc15bfe1fe9bfbf7f9d5e81a5d21c8", checked := Try.checked }
namespace Rows
def none {H : Type} : Left H := { results := [], args := [] }

/-- 'herdlaw09.PageWhole': WHATEVER THE INPUT: true; the input reads as it did. -/
def pageWholeSpec : ChangeSpec := { name := "pageWhole", fn := fun _ => fun
  | [d] => { results := [.lit (.bool true)], args := [d] }
  | _ => none }
def pageWholeRow : OpenClaim := { program := "ytoackajhekdckaa", sum := "8826d61c7234edcce5e99cf39154e1aba6fc15bfe1fe9bfbf7f9d5e81a5d21c8", func := "herd/herdlaw09.PageWhole", spec := "pageWhole", unfollowed := true, recurses := true, apart := false }
def PageWholeSaid : Prop := pageWholeRow.holds Try.pinned (OpenSpec.ofChange pageWholeSpec)

/-- ITS FALSE NEIGHBOUR: 'it returns false'. Refute it at one input. -/
def pageWholeWrong : ChangeSpec := { name := "pageWhole", fn := fun _ => fun
  | [d] => { results := [.lit (.bool false)], args := [d] }
  | _ => none }
def PageWholeWrongFalsely : Prop := pageWholeRow.holds Try.pinned (OpenSpec.ofChange pageWholeWrong)

/-- 'herdlaw09.PageBehind': WHATEVER THE INPUT: true; the input reads as it did. -/
def pageBehindSpec : ChangeSpec := { name := "pageBehind", fn := fun _ => fun
  | [d1, d2, d3] => { results := [.lit (.bool true)], args := [d1, d2, d3] }
  | _ => none }
def pageBehindRow : OpenClaim := { program := "ytoackajhekdckaa", sum := "8826d61c7234edcce5e99cf39154e1aba6fc15bfe1fe9bfbf7f9d5e81a5d21c8", func := "herd/herdlaw09.PageBehind", spec := "pageBehind", unfollowed := true, recurses := true, apart := false }
def PageBehindSaid : Prop := pageBehindRow.holds Try.pinned (OpenSpec.ofChange pageBehindSpec)

/-- ITS FALSE NEIGHBOUR: 'it returns false'. Refute it at one input. -/
def pageBehindWrong : ChangeSpec := { name := "pageBehind", fn := fun _ => fun
  | [d1, d2, d3] => { results := [.lit (.bool false)], args := [d1, d2, d3] }
  | _ => none }
def PageBehindWrongFalsely : Prop := pageBehindRow.holds Try.pinned (OpenSpec.ofChange pageBehindWrong)

/-- 'herdlaw09.PageGone': WHATEVER THE INPUT: true; the input reads as it did. -/
def pageGoneSpec : ChangeSpec := { name := "pageGone", fn := fun _ => fun
  | [d1, d2] => { results := [.lit (.bool true)], args := [d1, d2] }
  | _ => none }
def pageGoneRow : OpenClaim := { program := "ytoackajhekdckaa", sum := "8826d61c7234edcce5e99cf39154e1aba6fc15bfe1fe9bfbf7f9d5e81a5d21c8", func := "herd/herdlaw09.PageGone", spec := "pageGone", unfollowed := true, recurses := true, apart := false }
def PageGoneSaid : Prop := pageGoneRow.holds Try.pinned (OpenSpec.ofChange pageGoneSpec)

/-- ITS FALSE NEIGHBOUR: 'it returns false'. Refute it at one input. -/
def pageGoneWrong : ChangeSpec := { name := "pageGone", fn := fun _ => fun
  | [d1, d2] => { results := [.lit (.bool false)], args := [d1, d2] }
  | _ => none }
def PageGoneWrongFalsely : Prop := pageGoneRow.holds Try.pinned (OpenSpec.ofChange pageGoneWrong)

/-- 'herdlaw09.PageRest': WHATEVER THE INPUT: true; the input reads as it did. -/
def pageRestSpec : ChangeSpec := { name := "pageRest", fn := fun _ => fun
  | [d1, d2, d3] => { results := [.lit (.bool true)], args := [d1, d2, d3] }
  | _ => none }
def pageRestRow : OpenClaim := { program := "ytoackajhekdckaa", sum := "8826d61c7234edcce5e99cf39154e1aba6fc15bfe1fe9bfbf7f9d5e81a5d21c8", func := "herd/herdlaw09.PageRest", spec := "pageRest", unfollowed := true, recurses := true, apart := false }
def PageRestSaid : Prop := pageRestRow.holds Try.pinned (OpenSpec.ofChange pageRestSpec)

/-- ITS FALSE NEIGHBOUR: 'it returns false'. Refute it at one input. -/
def pageRestWrong : ChangeSpec := { name := "pageRest", fn := fun _ => fun
  | [d1, d2, d3] => { results := [.lit (.bool false)], args := [d1, d2, d3] }
  | _ => none }
def PageRestWrongFalsely : Prop := pageRestRow.holds Try.pinned (OpenSpec.ofChange pageRestWrong)

/- THE SECOND FORM. 'bulk': how many values and letters a reading holds, each counted each time it is reached (what is shared counts as often as it is met; a slice's spare places count too). A statement '..UptoSaid' is the law's where the arguments, and the package variables that the reading takes, are together of bulk at most 1048576: NARROWER than '..Said'. Prove '..Said' where nothing that the law and all that it calls make is longer than what came in: it says more and counts as full. Else prove '..UptoSaid'. A law counts once. -/
mutual
def uptoBulk {H : Type} : DataW H → Nat
  | .lit (.string bytes) => bytes.length + 1
  | .lit _ => 1
  | .nil => 1
  | .ptr d => uptoBulk d + 1
  | .slice elems spare => uptoBulkAll elems + uptoBulkAll spare + 1
  | .agg parts => uptoBulkAll parts + 1
  | .iface _ d => uptoBulk d + 1
  | .map entries => uptoBulkEntries entries + 1
  | .held _ => 1
def uptoBulkAll {H : Type} : List (DataW H) → Nat
  | [] => 0
  | d :: r => uptoBulk d + uptoBulkAll r
def uptoBulkEntries {H : Type} : List (Lit × DataW H) → Nat
  | [] => 0
  | x :: r => uptoBulkEntry x + uptoBulkEntries r
def uptoBulkEntry {H : Type} : Lit × DataW H → Nat
  | (.string bytes, d) => bytes.length + uptoBulk d + 1
  | (_, d) => uptoBulk d + 1
 end
def uptoSmall : (H : Type) → List (DataW H) → Bool := fun _ ds => decide (uptoBulkAll ds ≤ 1048576)
def OpenSpec.upto (s : _root_.Go.ChangeSpec) : _root_.Go.OpenSpec := { _root_.Go.OpenSpec.ofChange s with cond := some uptoSmall }

/-- 'herdlaw09.PageWhole', WHERE WHAT IT READS IS OF BULK AT MOST 1048576: true; the input reads as it did. -/
def pageWholeUptoRow : OpenClaim := { program := "ytoackajhekdckaa", sum := "8826d61c7234edcce5e99cf39154e1aba6fc15bfe1fe9bfbf7f9d5e81a5d21c8", func := "herd/herdlaw09.PageWhole", spec := "pageWhole", unfollowed := true, recurses := true, apart := false, narrowed := true }
def PageWholeUptoSaid : Prop := pageWholeUptoRow.holds Try.pinned (OpenSpec.upto pageWholeSpec)

/-- 'herdlaw09.PageBehind', WHERE WHAT IT READS IS OF BULK AT MOST 1048576: true; the input reads as it did. -/
def pageBehindUptoRow : OpenClaim := { program := "ytoackajhekdckaa", sum := "8826d61c7234edcce5e99cf39154e1aba6fc15bfe1fe9bfbf7f9d5e81a5d21c8", func := "herd/herdlaw09.PageBehind", spec := "pageBehind", unfollowed := true, recurses := true, apart := false, narrowed := true }
def PageBehindUptoSaid : Prop := pageBehindUptoRow.holds Try.pinned (OpenSpec.upto pageBehindSpec)

/-- 'herdlaw09.PageGone', WHERE WHAT IT READS IS OF BULK AT MOST 1048576: true; the input reads as it did. -/
def pageGoneUptoRow : OpenClaim := { program := "ytoackajhekdckaa", sum := "8826d61c7234edcce5e99cf39154e1aba6fc15bfe1fe9bfbf7f9d5e81a5d21c8", func := "herd/herdlaw09.PageGone", spec := "pageGone", unfollowed := true, recurses := true, apart := false, narrowed := true }
def PageGoneUptoSaid : Prop := pageGoneUptoRow.holds Try.pinned (OpenSpec.upto pageGoneSpec)

/-- 'herdlaw09.PageRest', WHERE WHAT IT READS IS OF BULK AT MOST 1048576: true; the input reads as it did. -/
def pageRestUptoRow : OpenClaim := { program := "ytoackajhekdckaa", sum := "8826d61c7234edcce5e99cf39154e1aba6fc15bfe1fe9bfbf7f9d5e81a5d21c8", func := "herd/herdlaw09.PageRest", spec := "pageRest", unfollowed := true, recurses := true, apart := false, narrowed := true }
def PageRestUptoSaid : Prop := pageRestUptoRow.holds Try.pinned (OpenSpec.upto pageRestSpec)

end Rows
end Go.Proofs.Ytoackajhekdckaa
