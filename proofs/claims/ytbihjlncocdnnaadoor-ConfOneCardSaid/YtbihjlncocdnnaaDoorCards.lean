/-
  DERIVED. GIVEN WITH THE SEED: THE CARDS: each row of YtbihjlncocdnnaaDoorRows.lean that lists a variable, with what it lists TIED to the program's text (the seventh form; the later family's looks); each row that meets fmt, with fmt's text TOLD by the authors' own Lean function (tested against real Go, not proved from fmt's source: count such statements apart). THE CARD IS WHAT COUNTS. Prove the row's statement (the work); the ties are given (YtbihjlncocdnnaaDoorTie.lean); close each card by the builder's one call (the guide's Derived/Test/ToyasCard.lean, 'card_holds'). Laid BY PROGRAM, IN A SANDBOX (cutbox-door.mjs). By AI agents, Wed Nov 11 2026. No macro, syntax, notation, axiom, sorry.
-/
import Derived.Test.YtbihjlncocdnnaaDoorRows
import GoSem.ClaimSeven
namespace Go.Proofs.YtbihjlncocdnnaaDoor
namespace Rows

/-- THE TIED CARD OF 'herdlaw07.ConfBack'. -/
def confBackCard : Claim7 := { stood := { row := confBackRow, standIns := [], harness := (true, "b366fa5917c00ea1293daec4a3a2557aecf976bfdba721b64a7137f27c3bef93"), looks := false }, kinds := [], alts := [], laidByText := true, laidKinds := [.data], laidTests := true, laidLooks := .later }
def ConfBackCardSaid : Prop := Claim7.holds Tryd.pinned (.plain (OpenSpec.ofChange confBackSpec)) confBackCard

/-- THE TIED CARD OF 'herdlaw07.ConfFloor'. -/
def confFloorCard : Claim7 := { stood := { row := confFloorRow, standIns := [], harness := (true, "b366fa5917c00ea1293daec4a3a2557aecf976bfdba721b64a7137f27c3bef93"), looks := false }, kinds := [], alts := [], laidByText := true, laidKinds := [.data], laidTests := true, laidLooks := .later }
def ConfFloorCardSaid : Prop := Claim7.holds Tryd.pinned (.plain (OpenSpec.ofChange confFloorSpec)) confFloorCard

/-- THE TIED CARD OF 'herdlaw07.ConfTells'. -/
def confTellsCard : Claim7 := { stood := { row := confTellsRow, standIns := [], harness := (true, "b366fa5917c00ea1293daec4a3a2557aecf976bfdba721b64a7137f27c3bef93"), looks := false }, kinds := [], alts := [], laidByText := true, laidKinds := [.data], laidTests := true, laidLooks := .later }
def ConfTellsCardSaid : Prop := Claim7.holds Tryd.pinned (.plain (OpenSpec.ofChange confTellsSpec)) confTellsCard

/-- THE TIED CARD OF 'herdlaw07.ConfOne'. -/
def confOneCard : Claim7 := { stood := { row := confOneRow, standIns := [], harness := (true, "b366fa5917c00ea1293daec4a3a2557aecf976bfdba721b64a7137f27c3bef93"), looks := false }, kinds := [], alts := [], laidByText := true, laidKinds := [.data], laidTests := true, laidLooks := .later }
def ConfOneCardSaid : Prop := Claim7.holds Tryd.pinned (.plain (OpenSpec.ofChange confOneSpec)) confOneCard

/-- THE TIED CARD OF 'herdlaw07.ConfRows'. -/
def confRowsCard : Claim7 := { stood := { row := confRowsRow, standIns := [], harness := (true, "b366fa5917c00ea1293daec4a3a2557aecf976bfdba721b64a7137f27c3bef93"), looks := false }, kinds := [], alts := [], laidByText := true, laidKinds := [.data], laidTests := true, laidLooks := .later }
def ConfRowsCardSaid : Prop := Claim7.holds Tryd.pinned (.plain (OpenSpec.ofChange confRowsSpec)) confRowsCard

/-- THE SECOND FORM's CARD OF 'herdlaw07.ConfBack'. -/
def confBackUptoCard : Claim7 := { stood := { row := confBackUptoRow, standIns := [], harness := (true, "b366fa5917c00ea1293daec4a3a2557aecf976bfdba721b64a7137f27c3bef93"), looks := false }, kinds := [], alts := [], laidByText := true, laidKinds := [.data], laidTests := true, laidLooks := .later }
def ConfBackUptoCardSaid : Prop := Claim7.holds Tryd.pinned (.plain (OpenSpec.upto confBackSpec)) confBackUptoCard

/-- THE SECOND FORM's CARD OF 'herdlaw07.ConfFloor'. -/
def confFloorUptoCard : Claim7 := { stood := { row := confFloorUptoRow, standIns := [], harness := (true, "b366fa5917c00ea1293daec4a3a2557aecf976bfdba721b64a7137f27c3bef93"), looks := false }, kinds := [], alts := [], laidByText := true, laidKinds := [.data], laidTests := true, laidLooks := .later }
def ConfFloorUptoCardSaid : Prop := Claim7.holds Tryd.pinned (.plain (OpenSpec.upto confFloorSpec)) confFloorUptoCard

/-- THE SECOND FORM's CARD OF 'herdlaw07.ConfTells'. -/
def confTellsUptoCard : Claim7 := { stood := { row := confTellsUptoRow, standIns := [], harness := (true, "b366fa5917c00ea1293daec4a3a2557aecf976bfdba721b64a7137f27c3bef93"), looks := false }, kinds := [], alts := [], laidByText := true, laidKinds := [.data], laidTests := true, laidLooks := .later }
def ConfTellsUptoCardSaid : Prop := Claim7.holds Tryd.pinned (.plain (OpenSpec.upto confTellsSpec)) confTellsUptoCard

/-- THE SECOND FORM's CARD OF 'herdlaw07.ConfOne'. -/
def confOneUptoCard : Claim7 := { stood := { row := confOneUptoRow, standIns := [], harness := (true, "b366fa5917c00ea1293daec4a3a2557aecf976bfdba721b64a7137f27c3bef93"), looks := false }, kinds := [], alts := [], laidByText := true, laidKinds := [.data], laidTests := true, laidLooks := .later }
def ConfOneUptoCardSaid : Prop := Claim7.holds Tryd.pinned (.plain (OpenSpec.upto confOneSpec)) confOneUptoCard

/-- THE SECOND FORM's CARD OF 'herdlaw07.ConfRows'. -/
def confRowsUptoCard : Claim7 := { stood := { row := confRowsUptoRow, standIns := [], harness := (true, "b366fa5917c00ea1293daec4a3a2557aecf976bfdba721b64a7137f27c3bef93"), looks := false }, kinds := [], alts := [], laidByText := true, laidKinds := [.data], laidTests := true, laidLooks := .later }
def ConfRowsUptoCardSaid : Prop := Claim7.holds Tryd.pinned (.plain (OpenSpec.upto confRowsSpec)) confRowsUptoCard
end Rows
end Go.Proofs.YtbihjlncocdnnaaDoor
