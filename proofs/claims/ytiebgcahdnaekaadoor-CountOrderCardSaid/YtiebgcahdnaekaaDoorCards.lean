/-
  DERIVED. GIVEN WITH THE SEED: THE CARDS: each row of YtiebgcahdnaekaaDoorRows.lean that lists a variable, with what it lists TIED to the program's text (the seventh form; the later family's looks); each row that meets fmt, with fmt's text TOLD by the authors' own Lean function (tested against real Go, not proved from fmt's source: count such statements apart). THE CARD IS WHAT COUNTS. Prove the row's statement (the work); the ties are given (YtiebgcahdnaekaaDoorTie.lean); close each card by the builder's one call (the guide's Derived/Test/ToyasCard.lean, 'card_holds'). Laid BY PROGRAM, IN A SANDBOX (cutbox-door.mjs). By AI agents, Wed Nov 11 2026. No macro, syntax, notation, axiom, sorry.
-/
import Derived.Test.YtiebgcahdnaekaaDoorRows
import GoSem.ClaimSeven
namespace Go.Proofs.YtiebgcahdnaekaaDoor
namespace Rows

/-- THE TIED CARD OF 'herdlaw15.CountSums'. -/
def countSumsCard : Claim7 := { stood := { row := countSumsRow, standIns := [], harness := (true, "89ef6ad9d65437c72f44c2a35756ed8dfd380d02aa2a6732a71d7c392173b181"), looks := false }, kinds := [], alts := [], laidByText := true, laidKinds := [.data], laidTests := true, laidLooks := .later }
def CountSumsCardSaid : Prop := Claim7.holds Tryd.pinned (.plain (OpenSpec.ofChange countSumsSpec)) countSumsCard

/-- THE TIED CARD OF 'herdlaw15.CountMore'. -/
def countMoreCard : Claim7 := { stood := { row := countMoreRow, standIns := [], harness := (true, "89ef6ad9d65437c72f44c2a35756ed8dfd380d02aa2a6732a71d7c392173b181"), looks := false }, kinds := [], alts := [], laidByText := true, laidKinds := [.data], laidTests := true, laidLooks := .later }
def CountMoreCardSaid : Prop := Claim7.holds Tryd.pinned (.plain (OpenSpec.ofChange countMoreSpec)) countMoreCard

/-- THE TIED CARD OF 'herdlaw15.CountOrder'. -/
def countOrderCard : Claim7 := { stood := { row := countOrderRow, standIns := [], harness := (true, "89ef6ad9d65437c72f44c2a35756ed8dfd380d02aa2a6732a71d7c392173b181"), looks := false }, kinds := [], alts := [], laidByText := true, laidKinds := [.data], laidTests := true, laidLooks := .later }
def CountOrderCardSaid : Prop := Claim7.holds Tryd.pinned (.plain (OpenSpec.ofChange countOrderSpec)) countOrderCard

/-- THE TIED CARD OF 'herdlaw15.CountStart'. -/
def countStartCard : Claim7 := { stood := { row := countStartRow, standIns := [], harness := (true, "89ef6ad9d65437c72f44c2a35756ed8dfd380d02aa2a6732a71d7c392173b181"), looks := false }, kinds := [], alts := [], laidByText := true, laidKinds := [.data], laidTests := true, laidLooks := .later }
def CountStartCardSaid : Prop := Claim7.holds Tryd.pinned (.plain (OpenSpec.ofChange countStartSpec)) countStartCard

/-- THE SECOND FORM's CARD OF 'herdlaw15.CountSums'. -/
def countSumsUptoCard : Claim7 := { stood := { row := countSumsUptoRow, standIns := [], harness := (true, "89ef6ad9d65437c72f44c2a35756ed8dfd380d02aa2a6732a71d7c392173b181"), looks := false }, kinds := [], alts := [], laidByText := true, laidKinds := [.data], laidTests := true, laidLooks := .later }
def CountSumsUptoCardSaid : Prop := Claim7.holds Tryd.pinned (.plain (OpenSpec.upto countSumsSpec)) countSumsUptoCard

/-- THE SECOND FORM's CARD OF 'herdlaw15.CountMore'. -/
def countMoreUptoCard : Claim7 := { stood := { row := countMoreUptoRow, standIns := [], harness := (true, "89ef6ad9d65437c72f44c2a35756ed8dfd380d02aa2a6732a71d7c392173b181"), looks := false }, kinds := [], alts := [], laidByText := true, laidKinds := [.data], laidTests := true, laidLooks := .later }
def CountMoreUptoCardSaid : Prop := Claim7.holds Tryd.pinned (.plain (OpenSpec.upto countMoreSpec)) countMoreUptoCard

/-- THE SECOND FORM's CARD OF 'herdlaw15.CountOrder'. -/
def countOrderUptoCard : Claim7 := { stood := { row := countOrderUptoRow, standIns := [], harness := (true, "89ef6ad9d65437c72f44c2a35756ed8dfd380d02aa2a6732a71d7c392173b181"), looks := false }, kinds := [], alts := [], laidByText := true, laidKinds := [.data], laidTests := true, laidLooks := .later }
def CountOrderUptoCardSaid : Prop := Claim7.holds Tryd.pinned (.plain (OpenSpec.upto countOrderSpec)) countOrderUptoCard

/-- THE SECOND FORM's CARD OF 'herdlaw15.CountStart'. -/
def countStartUptoCard : Claim7 := { stood := { row := countStartUptoRow, standIns := [], harness := (true, "89ef6ad9d65437c72f44c2a35756ed8dfd380d02aa2a6732a71d7c392173b181"), looks := false }, kinds := [], alts := [], laidByText := true, laidKinds := [.data], laidTests := true, laidLooks := .later }
def CountStartUptoCardSaid : Prop := Claim7.holds Tryd.pinned (.plain (OpenSpec.upto countStartSpec)) countStartUptoCard
end Rows
end Go.Proofs.YtiebgcahdnaekaaDoor
