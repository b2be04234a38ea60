/-
  DERIVED. GIVEN WITH THE SEED: THE CARDS: each row of YtcohgnagffibcaaDoorRows.lean that lists a variable, with what it lists TIED to the program's text (the seventh form; the later family's looks); each row that meets fmt, with fmt's text TOLD by the authors' own Lean function (tested against real Go, not proved from fmt's source: count such statements apart). THE CARD IS WHAT COUNTS. Prove the row's statement (the work); the ties are given (YtcohgnagffibcaaDoorTie.lean); close each card by the builder's one call (the guide's Derived/Test/ToyasCard.lean, 'card_holds'). Laid BY PROGRAM, IN A SANDBOX (cutbox-door.mjs). By AI agents, Wed Nov 11 2026. No macro, syntax, notation, axiom, sorry.
-/
import Derived.Test.YtcohgnagffibcaaDoorRows
import GoSem.ClaimSeven
namespace Go.Proofs.YtcohgnagffibcaaDoor
namespace Rows

/-- THE TIED CARD OF 'herdlaw05.LogTells'. -/
def logTellsCard : Claim7 := { stood := { row := logTellsRow, standIns := [], harness := (true, "2791d4dd5b0a1c25e3982ab8f828c3b5fbf01954be0a465481b7e49f5a3efe63"), looks := false }, kinds := [], alts := [], laidByText := true, laidKinds := [.data], laidTests := true, laidLooks := .later }
def LogTellsCardSaid : Prop := Claim7.holds Tryd.pinned (.plain (OpenSpec.ofChange logTellsSpec)) logTellsCard

/-- THE TIED CARD OF 'herdlaw05.LogCrash'. -/
def logCrashCard : Claim7 := { stood := { row := logCrashRow, standIns := [], harness := (true, "2791d4dd5b0a1c25e3982ab8f828c3b5fbf01954be0a465481b7e49f5a3efe63"), looks := false }, kinds := [], alts := [], laidByText := true, laidKinds := [.data], laidTests := true, laidLooks := .later }
def LogCrashCardSaid : Prop := Claim7.holds Tryd.pinned (.plain (OpenSpec.ofChange logCrashSpec)) logCrashCard

/-- THE TIED CARD OF 'herdlaw05.LogOpen'. -/
def logOpenCard : Claim7 := { stood := { row := logOpenRow, standIns := [], harness := (true, "2791d4dd5b0a1c25e3982ab8f828c3b5fbf01954be0a465481b7e49f5a3efe63"), looks := false }, kinds := [], alts := [], laidByText := true, laidKinds := [.data], laidTests := true, laidLooks := .later }
def LogOpenCardSaid : Prop := Claim7.holds Tryd.pinned (.plain (OpenSpec.ofChange logOpenSpec)) logOpenCard

/-- THE TIED CARD OF 'herdlaw05.LogParts'. -/
def logPartsCard : Claim7 := { stood := { row := logPartsRow, standIns := [], harness := (true, "2791d4dd5b0a1c25e3982ab8f828c3b5fbf01954be0a465481b7e49f5a3efe63"), looks := false }, kinds := [], alts := [], laidByText := true, laidKinds := [.data], laidTests := true, laidLooks := .later }
def LogPartsCardSaid : Prop := Claim7.holds Tryd.pinned (.plain (OpenSpec.ofChange logPartsSpec)) logPartsCard

/-- THE TIED CARD OF 'herdlaw05.LogSafe'. -/
def logSafeCard : Claim7 := { stood := { row := logSafeRow, standIns := [], harness := (true, "2791d4dd5b0a1c25e3982ab8f828c3b5fbf01954be0a465481b7e49f5a3efe63"), looks := false }, kinds := [], alts := [], laidByText := true, laidKinds := [.data], laidTests := true, laidLooks := .later }
def LogSafeCardSaid : Prop := Claim7.holds Tryd.pinned (.plain (OpenSpec.ofChange logSafeSpec)) logSafeCard

/-- THE SECOND FORM's CARD OF 'herdlaw05.LogTells'. -/
def logTellsUptoCard : Claim7 := { stood := { row := logTellsUptoRow, standIns := [], harness := (true, "2791d4dd5b0a1c25e3982ab8f828c3b5fbf01954be0a465481b7e49f5a3efe63"), looks := false }, kinds := [], alts := [], laidByText := true, laidKinds := [.data], laidTests := true, laidLooks := .later }
def LogTellsUptoCardSaid : Prop := Claim7.holds Tryd.pinned (.plain (OpenSpec.upto logTellsSpec)) logTellsUptoCard

/-- THE SECOND FORM's CARD OF 'herdlaw05.LogCrash'. -/
def logCrashUptoCard : Claim7 := { stood := { row := logCrashUptoRow, standIns := [], harness := (true, "2791d4dd5b0a1c25e3982ab8f828c3b5fbf01954be0a465481b7e49f5a3efe63"), looks := false }, kinds := [], alts := [], laidByText := true, laidKinds := [.data], laidTests := true, laidLooks := .later }
def LogCrashUptoCardSaid : Prop := Claim7.holds Tryd.pinned (.plain (OpenSpec.upto logCrashSpec)) logCrashUptoCard

/-- THE SECOND FORM's CARD OF 'herdlaw05.LogOpen'. -/
def logOpenUptoCard : Claim7 := { stood := { row := logOpenUptoRow, standIns := [], harness := (true, "2791d4dd5b0a1c25e3982ab8f828c3b5fbf01954be0a465481b7e49f5a3efe63"), looks := false }, kinds := [], alts := [], laidByText := true, laidKinds := [.data], laidTests := true, laidLooks := .later }
def LogOpenUptoCardSaid : Prop := Claim7.holds Tryd.pinned (.plain (OpenSpec.upto logOpenSpec)) logOpenUptoCard

/-- THE SECOND FORM's CARD OF 'herdlaw05.LogParts'. -/
def logPartsUptoCard : Claim7 := { stood := { row := logPartsUptoRow, standIns := [], harness := (true, "2791d4dd5b0a1c25e3982ab8f828c3b5fbf01954be0a465481b7e49f5a3efe63"), looks := false }, kinds := [], alts := [], laidByText := true, laidKinds := [.data], laidTests := true, laidLooks := .later }
def LogPartsUptoCardSaid : Prop := Claim7.holds Tryd.pinned (.plain (OpenSpec.upto logPartsSpec)) logPartsUptoCard

/-- THE SECOND FORM's CARD OF 'herdlaw05.LogSafe'. -/
def logSafeUptoCard : Claim7 := { stood := { row := logSafeUptoRow, standIns := [], harness := (true, "2791d4dd5b0a1c25e3982ab8f828c3b5fbf01954be0a465481b7e49f5a3efe63"), looks := false }, kinds := [], alts := [], laidByText := true, laidKinds := [.data], laidTests := true, laidLooks := .later }
def LogSafeUptoCardSaid : Prop := Claim7.holds Tryd.pinned (.plain (OpenSpec.upto logSafeSpec)) logSafeUptoCard
end Rows
end Go.Proofs.YtcohgnagffibcaaDoor
