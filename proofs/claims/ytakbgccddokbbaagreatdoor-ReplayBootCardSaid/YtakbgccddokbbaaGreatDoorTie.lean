/-
  DERIVED. GIVEN WITH THE SEED: THE PROGRAM's TIES (one call each: nine closed facts by the kernel) AND EACH ROW's TIE, after the 31st guide's Derived/Test/Toyas{Tie, Card}.lean. No idea stands in it: it is a product of the set-up. Laid BY PROGRAM, IN A SANDBOX (cutbox-door.mjs). By AI agents, Wed Nov 11 2026. No macro, syntax, notation, axiom, sorry.
-/
import Derived.Test.YtakbgccddokbbaaGreatDoorRows
import Derived.LaidByTextLater
import Derived.SevenTiedAt
import Derived.LaidSub
import Derived.LaidOnce
namespace Go.Proofs.YtakbgccddokbbaaGreatDoor
open Go
set_option maxRecDepth 100000
theorem seatTie1 : Tryz.prog.laidByTextLater [("herd/conf.limits", Rows.laid_herd_conf_limits), ("herd/brain.changes", Rows.laid_herd_brain_changes), ("herd/record.many", Rows.laid_herd_record_many)] [.data, .widerDeep, .data] true :=
  Program.laidByTextLater_by_one 62 8 27 (by kernel_rfl) (by kernel_rfl) (by kernel_rfl) (by kernel_rfl) (by kernel_rfl) (by kernel_rfl) (fun _ _ => by kernel_rfl)
theorem noOwnUnsafe : Tryz.pinned.checked.prog.headLifts.contains "ownunsafe" = false := by kernel_rfl
theorem tie : Tryz.prog.laidByTextLater [("herd/conf.limits", Rows.laid_herd_conf_limits), ("herd/brain.changes", Rows.laid_herd_brain_changes), ("herd/record.many", Rows.laid_herd_record_many)] [.data, .widerDeep, .data] true :=
  Program.laidByTextLater.sub seatTie1 ["herd/conf.limits", "herd/brain.changes", "herd/record.many"] (by kernel_rfl) (by kernel_rfl)
theorem replayCrash_row_tie : Rows.replayCrashRow.laidByTextAt .later Tryz.pinned [.data, .widerDeep, .data] true :=
  OpenClaim.laidByTextAt_later rfl rfl tie noOwnUnsafe
theorem replayBoot_row_tie : Rows.replayBootRow.laidByTextAt .later Tryz.pinned [.data, .widerDeep, .data] true :=
  OpenClaim.laidByTextAt_later rfl rfl tie noOwnUnsafe
theorem replayBrains_row_tie : Rows.replayBrainsRow.laidByTextAt .later Tryz.pinned [.data, .widerDeep, .data] true :=
  OpenClaim.laidByTextAt_later rfl rfl tie noOwnUnsafe
theorem replayOpen_row_tie : Rows.replayOpenRow.laidByTextAt .later Tryz.pinned [.data, .widerDeep, .data] true :=
  OpenClaim.laidByTextAt_later rfl rfl tie noOwnUnsafe
theorem replayCrashUpto_row_tie : Rows.replayCrashUptoRow.laidByTextAt .later Tryz.pinned [.data, .widerDeep, .data] true :=
  OpenClaim.laidByTextAt_later rfl rfl tie noOwnUnsafe
theorem replayBootUpto_row_tie : Rows.replayBootUptoRow.laidByTextAt .later Tryz.pinned [.data, .widerDeep, .data] true :=
  OpenClaim.laidByTextAt_later rfl rfl tie noOwnUnsafe
theorem replayBrainsUpto_row_tie : Rows.replayBrainsUptoRow.laidByTextAt .later Tryz.pinned [.data, .widerDeep, .data] true :=
  OpenClaim.laidByTextAt_later rfl rfl tie noOwnUnsafe
theorem replayOpenUpto_row_tie : Rows.replayOpenUptoRow.laidByTextAt .later Tryz.pinned [.data, .widerDeep, .data] true :=
  OpenClaim.laidByTextAt_later rfl rfl tie noOwnUnsafe
end Go.Proofs.YtakbgccddokbbaaGreatDoor
