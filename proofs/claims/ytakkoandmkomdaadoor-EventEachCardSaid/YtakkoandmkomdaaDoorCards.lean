/-
  DERIVED. GIVEN WITH THE SEED: THE CARDS: each row of YtakkoandmkomdaaDoorRows.lean that lists a variable, with what it lists TIED to the program's text (the seventh form; the later family's looks); each row that meets fmt, with fmt's text TOLD by the authors' own Lean function (tested against real Go, not proved from fmt's source: count such statements apart). THE CARD IS WHAT COUNTS. Prove the row's statement (the work); the ties are given (YtakkoandmkomdaaDoorTie.lean); close each card by the builder's one call (the guide's Derived/Test/ToyasCard.lean, 'card_holds'). Laid BY PROGRAM, IN A SANDBOX (cutbox-door.mjs). By AI agents, Wed Nov 11 2026. No macro, syntax, notation, axiom, sorry.
-/
import Derived.Test.YtakkoandmkomdaaDoorRows
import GoSem.ClaimSeven
namespace Go.Proofs.YtakkoandmkomdaaDoor
namespace Rows

/-- THE TIED CARD OF 'herdlaw10.EventTells'. -/
def eventTellsCard : Claim7 := { stood := { row := eventTellsRow, standIns := [], harness := (true, "fb2aa079f436bf6a7b19a294f7c7ca44730419feed9aa095a46fd0f3f70be9b0"), looks := false }, kinds := [], alts := [], laidByText := true, laidKinds := [.funcs], laidTests := true, laidLooks := .later }
def EventTellsCardSaid : Prop := Claim7.holds Tryd.pinned (.plain (OpenSpec.ofChange eventTellsSpec)) eventTellsCard

/-- THE TIED CARD OF 'herdlaw10.EventRight'. -/
def eventRightCard : Claim7 := { stood := { row := eventRightRow, standIns := [], harness := (true, "fb2aa079f436bf6a7b19a294f7c7ca44730419feed9aa095a46fd0f3f70be9b0"), looks := false }, kinds := [], alts := [], laidByText := true, laidKinds := [.funcs], laidTests := true, laidLooks := .later }
def EventRightCardSaid : Prop := Claim7.holds Tryd.pinned (.plain (OpenSpec.ofChange eventRightSpec)) eventRightCard

/-- THE TIED CARD OF 'herdlaw10.EventTicks'. -/
def eventTicksCard : Claim7 := { stood := { row := eventTicksRow, standIns := [], harness := (true, "fb2aa079f436bf6a7b19a294f7c7ca44730419feed9aa095a46fd0f3f70be9b0"), looks := false }, kinds := [], alts := [], laidByText := true, laidKinds := [.funcs], laidTests := true, laidLooks := .later }
def EventTicksCardSaid : Prop := Claim7.holds Tryd.pinned (.plain (OpenSpec.ofChange eventTicksSpec)) eventTicksCard

/-- THE TIED CARD OF 'herdlaw10.EventTwice'. -/
def eventTwiceCard : Claim7 := { stood := { row := eventTwiceRow, standIns := [], harness := (true, "fb2aa079f436bf6a7b19a294f7c7ca44730419feed9aa095a46fd0f3f70be9b0"), looks := false }, kinds := [], alts := [], laidByText := true, laidKinds := [.funcs], laidTests := true, laidLooks := .later }
def EventTwiceCardSaid : Prop := Claim7.holds Tryd.pinned (.plain (OpenSpec.ofChange eventTwiceSpec)) eventTwiceCard

/-- THE TIED CARD OF 'herdlaw10.EventEach'. -/
def eventEachCard : Claim7 := { stood := { row := eventEachRow, standIns := [], harness := (true, "fb2aa079f436bf6a7b19a294f7c7ca44730419feed9aa095a46fd0f3f70be9b0"), looks := false }, kinds := [], alts := [], laidByText := true, laidKinds := [.funcs], laidTests := true, laidLooks := .later }
def EventEachCardSaid : Prop := Claim7.holds Tryd.pinned (.plain (OpenSpec.ofChange eventEachSpec)) eventEachCard

/-- THE SECOND FORM's CARD OF 'herdlaw10.EventTells'. -/
def eventTellsUptoCard : Claim7 := { stood := { row := eventTellsUptoRow, standIns := [], harness := (true, "fb2aa079f436bf6a7b19a294f7c7ca44730419feed9aa095a46fd0f3f70be9b0"), looks := false }, kinds := [], alts := [], laidByText := true, laidKinds := [.funcs], laidTests := true, laidLooks := .later }
def EventTellsUptoCardSaid : Prop := Claim7.holds Tryd.pinned (.plain (OpenSpec.upto eventTellsSpec)) eventTellsUptoCard

/-- THE SECOND FORM's CARD OF 'herdlaw10.EventRight'. -/
def eventRightUptoCard : Claim7 := { stood := { row := eventRightUptoRow, standIns := [], harness := (true, "fb2aa079f436bf6a7b19a294f7c7ca44730419feed9aa095a46fd0f3f70be9b0"), looks := false }, kinds := [], alts := [], laidByText := true, laidKinds := [.funcs], laidTests := true, laidLooks := .later }
def EventRightUptoCardSaid : Prop := Claim7.holds Tryd.pinned (.plain (OpenSpec.upto eventRightSpec)) eventRightUptoCard

/-- THE SECOND FORM's CARD OF 'herdlaw10.EventTicks'. -/
def eventTicksUptoCard : Claim7 := { stood := { row := eventTicksUptoRow, standIns := [], harness := (true, "fb2aa079f436bf6a7b19a294f7c7ca44730419feed9aa095a46fd0f3f70be9b0"), looks := false }, kinds := [], alts := [], laidByText := true, laidKinds := [.funcs], laidTests := true, laidLooks := .later }
def EventTicksUptoCardSaid : Prop := Claim7.holds Tryd.pinned (.plain (OpenSpec.upto eventTicksSpec)) eventTicksUptoCard

/-- THE SECOND FORM's CARD OF 'herdlaw10.EventTwice'. -/
def eventTwiceUptoCard : Claim7 := { stood := { row := eventTwiceUptoRow, standIns := [], harness := (true, "fb2aa079f436bf6a7b19a294f7c7ca44730419feed9aa095a46fd0f3f70be9b0"), looks := false }, kinds := [], alts := [], laidByText := true, laidKinds := [.funcs], laidTests := true, laidLooks := .later }
def EventTwiceUptoCardSaid : Prop := Claim7.holds Tryd.pinned (.plain (OpenSpec.upto eventTwiceSpec)) eventTwiceUptoCard

/-- THE SECOND FORM's CARD OF 'herdlaw10.EventEach'. -/
def eventEachUptoCard : Claim7 := { stood := { row := eventEachUptoRow, standIns := [], harness := (true, "fb2aa079f436bf6a7b19a294f7c7ca44730419feed9aa095a46fd0f3f70be9b0"), looks := false }, kinds := [], alts := [], laidByText := true, laidKinds := [.funcs], laidTests := true, laidLooks := .later }
def EventEachUptoCardSaid : Prop := Claim7.holds Tryd.pinned (.plain (OpenSpec.upto eventEachSpec)) eventEachUptoCard
end Rows
end Go.Proofs.YtakkoandmkomdaaDoor
