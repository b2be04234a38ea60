/-
  DERIVED. GIVEN WITH THE SEED: THE CARDS: each row of YtakbgccddokbbaaGreatDoorRows.lean that lists a variable, with what it lists TIED to the program's text (the seventh form; the later family's looks); each row that meets fmt, with fmt's text TOLD by the authors' own Lean function (tested against real Go, not proved from fmt's source: count such statements apart). THE CARD IS WHAT COUNTS. Prove the row's statement (the work); the ties are given (YtakbgccddokbbaaGreatDoorTie.lean); close each card by the builder's one call (the guide's Derived/Test/ToyasCard.lean, 'card_holds'). Laid BY PROGRAM, IN A SANDBOX (cutbox-door.mjs). By AI agents, Wed Nov 11 2026. No macro, syntax, notation, axiom, sorry.
-/
import Derived.Test.YtakbgccddokbbaaGreatDoorRows
import GoSem.ClaimSeven
namespace Go.Proofs.YtakbgccddokbbaaGreatDoor
namespace Rows

/-- THE TIED CARD OF 'herdlaw23.ReplayCrash'. -/
def replayCrashCard : Claim7 := { stood := { row := replayCrashRow, standIns := [], harness := (true, "314fc6752b283d49c128b531d9b680d8d9b065e075c39f2f9b5876d5ab2f8f80"), looks := false }, kinds := [], alts := [], laidByText := true, laidKinds := [.data, .widerDeep, .data], laidTests := true, laidLooks := .later }
def ReplayCrashCardSaid : Prop := Claim7.holds Tryz.pinned (.plain (OpenSpec.ofChange replayCrashSpec)) replayCrashCard

/-- THE TIED CARD OF 'herdlaw23.ReplayBoot'. -/
def replayBootCard : Claim7 := { stood := { row := replayBootRow, standIns := [], harness := (true, "314fc6752b283d49c128b531d9b680d8d9b065e075c39f2f9b5876d5ab2f8f80"), looks := false }, kinds := [], alts := [], laidByText := true, laidKinds := [.data, .widerDeep, .data], laidTests := true, laidLooks := .later }
def ReplayBootCardSaid : Prop := Claim7.holds Tryz.pinned (.plain (OpenSpec.ofChange replayBootSpec)) replayBootCard

/-- THE TIED CARD OF 'herdlaw23.ReplayBrains'. -/
def replayBrainsCard : Claim7 := { stood := { row := replayBrainsRow, standIns := [], harness := (true, "314fc6752b283d49c128b531d9b680d8d9b065e075c39f2f9b5876d5ab2f8f80"), looks := false }, kinds := [], alts := [], laidByText := true, laidKinds := [.data, .widerDeep, .data], laidTests := true, laidLooks := .later }
def ReplayBrainsCardSaid : Prop := Claim7.holds Tryz.pinned (.plain (OpenSpec.ofChange replayBrainsSpec)) replayBrainsCard

/-- THE TIED CARD OF 'herdlaw23.ReplayOpen'. -/
def replayOpenCard : Claim7 := { stood := { row := replayOpenRow, standIns := [], harness := (true, "314fc6752b283d49c128b531d9b680d8d9b065e075c39f2f9b5876d5ab2f8f80"), looks := false }, kinds := [], alts := [], laidByText := true, laidKinds := [.data, .widerDeep, .data], laidTests := true, laidLooks := .later }
def ReplayOpenCardSaid : Prop := Claim7.holds Tryz.pinned (.plain (OpenSpec.ofChange replayOpenSpec)) replayOpenCard

/-- THE SECOND FORM's CARD OF 'herdlaw23.ReplayCrash'. -/
def replayCrashUptoCard : Claim7 := { stood := { row := replayCrashUptoRow, standIns := [], harness := (true, "314fc6752b283d49c128b531d9b680d8d9b065e075c39f2f9b5876d5ab2f8f80"), looks := false }, kinds := [], alts := [], laidByText := true, laidKinds := [.data, .widerDeep, .data], laidTests := true, laidLooks := .later }
def ReplayCrashUptoCardSaid : Prop := Claim7.holds Tryz.pinned (.plain (OpenSpec.upto replayCrashSpec)) replayCrashUptoCard

/-- THE SECOND FORM's CARD OF 'herdlaw23.ReplayBoot'. -/
def replayBootUptoCard : Claim7 := { stood := { row := replayBootUptoRow, standIns := [], harness := (true, "314fc6752b283d49c128b531d9b680d8d9b065e075c39f2f9b5876d5ab2f8f80"), looks := false }, kinds := [], alts := [], laidByText := true, laidKinds := [.data, .widerDeep, .data], laidTests := true, laidLooks := .later }
def ReplayBootUptoCardSaid : Prop := Claim7.holds Tryz.pinned (.plain (OpenSpec.upto replayBootSpec)) replayBootUptoCard

/-- THE SECOND FORM's CARD OF 'herdlaw23.ReplayBrains'. -/
def replayBrainsUptoCard : Claim7 := { stood := { row := replayBrainsUptoRow, standIns := [], harness := (true, "314fc6752b283d49c128b531d9b680d8d9b065e075c39f2f9b5876d5ab2f8f80"), looks := false }, kinds := [], alts := [], laidByText := true, laidKinds := [.data, .widerDeep, .data], laidTests := true, laidLooks := .later }
def ReplayBrainsUptoCardSaid : Prop := Claim7.holds Tryz.pinned (.plain (OpenSpec.upto replayBrainsSpec)) replayBrainsUptoCard

/-- THE SECOND FORM's CARD OF 'herdlaw23.ReplayOpen'. -/
def replayOpenUptoCard : Claim7 := { stood := { row := replayOpenUptoRow, standIns := [], harness := (true, "314fc6752b283d49c128b531d9b680d8d9b065e075c39f2f9b5876d5ab2f8f80"), looks := false }, kinds := [], alts := [], laidByText := true, laidKinds := [.data, .widerDeep, .data], laidTests := true, laidLooks := .later }
def ReplayOpenUptoCardSaid : Prop := Claim7.holds Tryz.pinned (.plain (OpenSpec.upto replayOpenSpec)) replayOpenUptoCard
end Rows
end Go.Proofs.YtakbgccddokbbaaGreatDoor
