/-
  DERIVED. GIVEN WITH THE SEED: THE CARDS: each row of YtljgaglbgkejhaaDoorRows.lean that lists a variable, with what it lists TIED to the program's text (the seventh form; the later family's looks); each row that meets fmt, with fmt's text TOLD by the authors' own Lean function (tested against real Go, not proved from fmt's source: count such statements apart). THE CARD IS WHAT COUNTS. Prove the row's statement (the work); the ties are given (YtljgaglbgkejhaaDoorTie.lean); close each card by the builder's one call (the guide's Derived/Test/ToyasCard.lean, 'card_holds'). Laid BY PROGRAM, IN A SANDBOX (cutbox-door.mjs). By AI agents, Wed Nov 11 2026. No macro, syntax, notation, axiom, sorry.
-/
import Derived.Test.YtljgaglbgkejhaaDoorRows
import GoSem.ClaimSeven
namespace Go.Proofs.YtljgaglbgkejhaaDoor
namespace Rows

/-- THE TIED CARD OF 'herdlaw02.RecordTells'. -/
def recordTellsCard : Claim7 := { stood := { row := recordTellsRow, standIns := [], harness := (true, "97f6d0255f74c2e144f6e64b9ba3644e06e6ca8a858720884dae3b4bb8abf776"), looks := false }, kinds := [], alts := [], laidByText := true, laidKinds := [.data, .mapped], laidTests := true, laidLooks := .later }
def RecordTellsCardSaid : Prop := Claim7.holds Tryd.pinned (.plain (OpenSpec.ofChange recordTellsSpec)) recordTellsCard

/-- THE TIED CARD OF 'herdlaw02.RecordBack'. -/
def recordBackCard : Claim7 := { stood := { row := recordBackRow, standIns := [], harness := (true, "97f6d0255f74c2e144f6e64b9ba3644e06e6ca8a858720884dae3b4bb8abf776"), looks := false }, kinds := [], alts := [], laidByText := true, laidKinds := [.data, .mapped], laidTests := true, laidLooks := .later }
def RecordBackCardSaid : Prop := Claim7.holds Tryd.pinned (.plain (OpenSpec.ofChange recordBackSpec)) recordBackCard

/-- THE TIED CARD OF 'herdlaw02.RecordOnly'. -/
def recordOnlyCard : Claim7 := { stood := { row := recordOnlyRow, standIns := [], harness := (true, "97f6d0255f74c2e144f6e64b9ba3644e06e6ca8a858720884dae3b4bb8abf776"), looks := false }, kinds := [], alts := [], laidByText := true, laidKinds := [.data, .mapped], laidTests := true, laidLooks := .later }
def RecordOnlyCardSaid : Prop := Claim7.holds Tryd.pinned (.plain (OpenSpec.ofChange recordOnlySpec)) recordOnlyCard

/-- THE TIED CARD OF 'herdlaw02.RecordNumbers'. -/
def recordNumbersCard : Claim7 := { stood := { row := recordNumbersRow, standIns := [], harness := (true, "97f6d0255f74c2e144f6e64b9ba3644e06e6ca8a858720884dae3b4bb8abf776"), looks := false }, kinds := [], alts := [], laidByText := true, laidKinds := [.data, .mapped], laidTests := true, laidLooks := .later }
def RecordNumbersCardSaid : Prop := Claim7.holds Tryd.pinned (.plain (OpenSpec.ofChange recordNumbersSpec)) recordNumbersCard

/-- THE TIED CARD OF 'herdlaw02.RecordNames'. -/
def recordNamesCard : Claim7 := { stood := { row := recordNamesRow, standIns := [], harness := (true, "97f6d0255f74c2e144f6e64b9ba3644e06e6ca8a858720884dae3b4bb8abf776"), looks := false }, kinds := [], alts := [], laidByText := true, laidKinds := [.data, .mapped], laidTests := true, laidLooks := .later }
def RecordNamesCardSaid : Prop := Claim7.holds Tryd.pinned (.plain (OpenSpec.ofChange recordNamesSpec)) recordNamesCard

/-- THE TIED CARD OF 'herdlaw02.RecordApart'. -/
def recordApartCard : Claim7 := { stood := { row := recordApartRow, standIns := [], harness := (true, "97f6d0255f74c2e144f6e64b9ba3644e06e6ca8a858720884dae3b4bb8abf776"), looks := false }, kinds := [], alts := [], laidByText := true, laidKinds := [.data, .mapped], laidTests := true, laidLooks := .later }
def RecordApartCardSaid : Prop := Claim7.holds Tryd.pinned (.plain (OpenSpec.ofChange recordApartSpec)) recordApartCard

/-- THE SECOND FORM's CARD OF 'herdlaw02.RecordTells'. -/
def recordTellsUptoCard : Claim7 := { stood := { row := recordTellsUptoRow, standIns := [], harness := (true, "97f6d0255f74c2e144f6e64b9ba3644e06e6ca8a858720884dae3b4bb8abf776"), looks := false }, kinds := [], alts := [], laidByText := true, laidKinds := [.data, .mapped], laidTests := true, laidLooks := .later }
def RecordTellsUptoCardSaid : Prop := Claim7.holds Tryd.pinned (.plain (OpenSpec.upto recordTellsSpec)) recordTellsUptoCard

/-- THE SECOND FORM's CARD OF 'herdlaw02.RecordBack'. -/
def recordBackUptoCard : Claim7 := { stood := { row := recordBackUptoRow, standIns := [], harness := (true, "97f6d0255f74c2e144f6e64b9ba3644e06e6ca8a858720884dae3b4bb8abf776"), looks := false }, kinds := [], alts := [], laidByText := true, laidKinds := [.data, .mapped], laidTests := true, laidLooks := .later }
def RecordBackUptoCardSaid : Prop := Claim7.holds Tryd.pinned (.plain (OpenSpec.upto recordBackSpec)) recordBackUptoCard

/-- THE SECOND FORM's CARD OF 'herdlaw02.RecordOnly'. -/
def recordOnlyUptoCard : Claim7 := { stood := { row := recordOnlyUptoRow, standIns := [], harness := (true, "97f6d0255f74c2e144f6e64b9ba3644e06e6ca8a858720884dae3b4bb8abf776"), looks := false }, kinds := [], alts := [], laidByText := true, laidKinds := [.data, .mapped], laidTests := true, laidLooks := .later }
def RecordOnlyUptoCardSaid : Prop := Claim7.holds Tryd.pinned (.plain (OpenSpec.upto recordOnlySpec)) recordOnlyUptoCard

/-- THE SECOND FORM's CARD OF 'herdlaw02.RecordNumbers'. -/
def recordNumbersUptoCard : Claim7 := { stood := { row := recordNumbersUptoRow, standIns := [], harness := (true, "97f6d0255f74c2e144f6e64b9ba3644e06e6ca8a858720884dae3b4bb8abf776"), looks := false }, kinds := [], alts := [], laidByText := true, laidKinds := [.data, .mapped], laidTests := true, laidLooks := .later }
def RecordNumbersUptoCardSaid : Prop := Claim7.holds Tryd.pinned (.plain (OpenSpec.upto recordNumbersSpec)) recordNumbersUptoCard

/-- THE SECOND FORM's CARD OF 'herdlaw02.RecordNames'. -/
def recordNamesUptoCard : Claim7 := { stood := { row := recordNamesUptoRow, standIns := [], harness := (true, "97f6d0255f74c2e144f6e64b9ba3644e06e6ca8a858720884dae3b4bb8abf776"), looks := false }, kinds := [], alts := [], laidByText := true, laidKinds := [.data, .mapped], laidTests := true, laidLooks := .later }
def RecordNamesUptoCardSaid : Prop := Claim7.holds Tryd.pinned (.plain (OpenSpec.upto recordNamesSpec)) recordNamesUptoCard

/-- THE SECOND FORM's CARD OF 'herdlaw02.RecordApart'. -/
def recordApartUptoCard : Claim7 := { stood := { row := recordApartUptoRow, standIns := [], harness := (true, "97f6d0255f74c2e144f6e64b9ba3644e06e6ca8a858720884dae3b4bb8abf776"), looks := false }, kinds := [], alts := [], laidByText := true, laidKinds := [.data, .mapped], laidTests := true, laidLooks := .later }
def RecordApartUptoCardSaid : Prop := Claim7.holds Tryd.pinned (.plain (OpenSpec.upto recordApartSpec)) recordApartUptoCard
end Rows
end Go.Proofs.YtljgaglbgkejhaaDoor
