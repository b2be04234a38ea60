/-
  DERIVED. GIVEN WITH THE SEED: THE CARDS: each row of YtcppphgpbaablaaGreatDoorRows.lean that lists a variable, with what it lists TIED to the program's text (the seventh form; the later family's looks); each row that meets fmt, with fmt's text TOLD by the authors' own Lean function (tested against real Go, not proved from fmt's source: count such statements apart). THE CARD IS WHAT COUNTS. Prove the row's statement (the work); the ties are given (YtcppphgpbaablaaGreatDoorTie.lean); close each card by the builder's one call (the guide's Derived/Test/ToyasCard.lean, 'card_holds'). Laid BY PROGRAM, IN A SANDBOX (cutbox-door.mjs). By AI agents, Wed Nov 11 2026. No macro, syntax, notation, axiom, sorry.
-/
import Derived.Test.YtcppphgpbaablaaGreatDoorRows
import GoSem.ClaimSeven
namespace Go.Proofs.YtcppphgpbaablaaGreatDoor
namespace Rows

/-- THE TIED CARD OF 'herdlaw19.AdminFits'. -/
def adminFitsCard : Claim7 := { stood := { row := adminFitsRow, standIns := [], harness := (true, "50f64ca46c1fd0ca6092ca51add0eb9a1f33437116174d4cabc9454c9e0dd2a4"), looks := false }, kinds := [], alts := [], laidByText := true, laidKinds := [.data, .widerDeep, .data], laidTests := true, laidLooks := .later }
def AdminFitsCardSaid : Prop := Claim7.holds Tryz.pinned (.plain (OpenSpec.ofChange adminFitsSpec)) adminFitsCard

/-- THE SECOND FORM's CARD OF 'herdlaw19.AdminFits'. -/
def adminFitsUptoCard : Claim7 := { stood := { row := adminFitsUptoRow, standIns := [], harness := (true, "50f64ca46c1fd0ca6092ca51add0eb9a1f33437116174d4cabc9454c9e0dd2a4"), looks := false }, kinds := [], alts := [], laidByText := true, laidKinds := [.data, .widerDeep, .data], laidTests := true, laidLooks := .later }
def AdminFitsUptoCardSaid : Prop := Claim7.holds Tryz.pinned (.plain (OpenSpec.upto adminFitsSpec)) adminFitsUptoCard
end Rows
end Go.Proofs.YtcppphgpbaablaaGreatDoor
