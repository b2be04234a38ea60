/-
  DERIVED. GIVEN WITH THE SEED: THE CARDS: each row of YtcppphgpbaablaaDoorRows.lean that lists a variable, with what it lists TIED to the program's text (the seventh form; the later family's looks); each row that meets fmt, with fmt's text TOLD by the authors' own Lean function (tested against real Go, not proved from fmt's source: count such statements apart). THE CARD IS WHAT COUNTS. Prove the row's statement (the work); the ties are given (YtcppphgpbaablaaDoorTie.lean); close each card by the builder's one call (the guide's Derived/Test/ToyasCard.lean, 'card_holds'). Laid BY PROGRAM, IN A SANDBOX (cutbox-door.mjs). By AI agents, Wed Nov 11 2026. No macro, syntax, notation, axiom, sorry.
-/
import Derived.Test.YtcppphgpbaablaaDoorRows
import GoSem.ClaimSeven
namespace Go.Proofs.YtcppphgpbaablaaDoor
namespace Rows

/-- THE TIED CARD OF 'herdlaw19.AdminOnce'. -/
def adminOnceCard : Claim7 := { stood := { row := adminOnceRow, standIns := [], harness := (true, "9d611b366db80b8e27ccfce7eb3b3514cb7c115ff44a03ea3de704a12a8a4206"), looks := false }, kinds := [], alts := [], laidByText := true, laidKinds := [.data, .widerDeep, .data], laidTests := true, laidLooks := .later }
def AdminOnceCardSaid : Prop := Claim7.holds Tryd.pinned (.plain (OpenSpec.ofChange adminOnceSpec)) adminOnceCard

/-- THE TIED CARD OF 'herdlaw19.AdminConf'. -/
def adminConfCard : Claim7 := { stood := { row := adminConfRow, standIns := [], harness := (true, "9d611b366db80b8e27ccfce7eb3b3514cb7c115ff44a03ea3de704a12a8a4206"), looks := false }, kinds := [], alts := [], laidByText := true, laidKinds := [.data, .widerDeep, .data], laidTests := true, laidLooks := .later }
def AdminConfCardSaid : Prop := Claim7.holds Tryd.pinned (.plain (OpenSpec.ofChange adminConfSpec)) adminConfCard

/-- THE TIED CARD OF 'herdlaw19.AdminKept'. -/
def adminKeptCard : Claim7 := { stood := { row := adminKeptRow, standIns := [], harness := (true, "9d611b366db80b8e27ccfce7eb3b3514cb7c115ff44a03ea3de704a12a8a4206"), looks := false }, kinds := [], alts := [], laidByText := true, laidKinds := [.data, .widerDeep, .data], laidTests := true, laidLooks := .later }
def AdminKeptCardSaid : Prop := Claim7.holds Tryd.pinned (.plain (OpenSpec.ofChange adminKeptSpec)) adminKeptCard

/-- THE SECOND FORM's CARD OF 'herdlaw19.AdminOnce'. -/
def adminOnceUptoCard : Claim7 := { stood := { row := adminOnceUptoRow, standIns := [], harness := (true, "9d611b366db80b8e27ccfce7eb3b3514cb7c115ff44a03ea3de704a12a8a4206"), looks := false }, kinds := [], alts := [], laidByText := true, laidKinds := [.data, .widerDeep, .data], laidTests := true, laidLooks := .later }
def AdminOnceUptoCardSaid : Prop := Claim7.holds Tryd.pinned (.plain (OpenSpec.upto adminOnceSpec)) adminOnceUptoCard

/-- THE SECOND FORM's CARD OF 'herdlaw19.AdminConf'. -/
def adminConfUptoCard : Claim7 := { stood := { row := adminConfUptoRow, standIns := [], harness := (true, "9d611b366db80b8e27ccfce7eb3b3514cb7c115ff44a03ea3de704a12a8a4206"), looks := false }, kinds := [], alts := [], laidByText := true, laidKinds := [.data, .widerDeep, .data], laidTests := true, laidLooks := .later }
def AdminConfUptoCardSaid : Prop := Claim7.holds Tryd.pinned (.plain (OpenSpec.upto adminConfSpec)) adminConfUptoCard

/-- THE SECOND FORM's CARD OF 'herdlaw19.AdminKept'. -/
def adminKeptUptoCard : Claim7 := { stood := { row := adminKeptUptoRow, standIns := [], harness := (true, "9d611b366db80b8e27ccfce7eb3b3514cb7c115ff44a03ea3de704a12a8a4206"), looks := false }, kinds := [], alts := [], laidByText := true, laidKinds := [.data, .widerDeep, .data], laidTests := true, laidLooks := .later }
def AdminKeptUptoCardSaid : Prop := Claim7.holds Tryd.pinned (.plain (OpenSpec.upto adminKeptSpec)) adminKeptUptoCard
end Rows
end Go.Proofs.YtcppphgpbaablaaDoor
