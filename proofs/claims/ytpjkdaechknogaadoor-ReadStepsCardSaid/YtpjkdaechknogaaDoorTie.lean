/-
  DERIVED. GIVEN WITH THE SEED: THE PROGRAM's TIES (one call each: nine closed facts by the kernel) AND EACH ROW's TIE, after the 31st guide's Derived/Test/Toyas{Tie, Card}.lean. No idea stands in it: it is a product of the set-up. Laid BY PROGRAM, IN A SANDBOX (cutbox-door.mjs). By AI agents, Wed Nov 11 2026. No macro, syntax, notation, axiom, sorry.
-/
import Derived.Test.YtpjkdaechknogaaDoorRows
import Derived.LaidByTextLater
import Derived.SevenTiedAt
import Derived.LaidSub
import Derived.LaidOnce
namespace Go.Proofs.YtpjkdaechknogaaDoor
open Go
set_option maxRecDepth 100000
theorem seatTie1 : Tryd.prog.laidByTextLater [("errors.errorType", Rows.laid_errors_errorType), ("castings/name.reserved", Rows.laid_castings_name_reserved)] [.handle, .widerDeep] true :=
  Program.laidByTextLater_by_one 21 8 8 (by kernel_rfl) (by kernel_rfl) (by kernel_rfl) (by kernel_rfl) (by kernel_rfl) (by kernel_rfl) (fun _ _ => by kernel_rfl)
theorem noOwnUnsafe : Tryd.pinned.checked.prog.headLifts.contains "ownunsafe" = false := by kernel_rfl
theorem tie : Tryd.prog.laidByTextLater [("errors.errorType", Rows.laid_errors_errorType), ("castings/name.reserved", Rows.laid_castings_name_reserved)] [.handle, .widerDeep] true :=
  Program.laidByTextLater.sub seatTie1 ["errors.errorType", "castings/name.reserved"] (by kernel_rfl) (by kernel_rfl)
theorem readBack_row_tie : Rows.readBackRow.laidByTextAt .later Tryd.pinned [.handle, .widerDeep] true :=
  OpenClaim.laidByTextAt_later rfl rfl tie noOwnUnsafe
theorem readSpaces_row_tie : Rows.readSpacesRow.laidByTextAt .later Tryd.pinned [.handle, .widerDeep] true :=
  OpenClaim.laidByTextAt_later rfl rfl tie noOwnUnsafe
theorem readSteps_row_tie : Rows.readStepsRow.laidByTextAt .later Tryd.pinned [.handle, .widerDeep] true :=
  OpenClaim.laidByTextAt_later rfl rfl tie noOwnUnsafe
theorem readTypes_row_tie : Rows.readTypesRow.laidByTextAt .later Tryd.pinned [.handle, .widerDeep] true :=
  OpenClaim.laidByTextAt_later rfl rfl tie noOwnUnsafe
theorem readBackUpto_row_tie : Rows.readBackUptoRow.laidByTextAt .later Tryd.pinned [.handle, .widerDeep] true :=
  OpenClaim.laidByTextAt_later rfl rfl tie noOwnUnsafe
theorem readSpacesUpto_row_tie : Rows.readSpacesUptoRow.laidByTextAt .later Tryd.pinned [.handle, .widerDeep] true :=
  OpenClaim.laidByTextAt_later rfl rfl tie noOwnUnsafe
theorem readStepsUpto_row_tie : Rows.readStepsUptoRow.laidByTextAt .later Tryd.pinned [.handle, .widerDeep] true :=
  OpenClaim.laidByTextAt_later rfl rfl tie noOwnUnsafe
theorem readTypesUpto_row_tie : Rows.readTypesUptoRow.laidByTextAt .later Tryd.pinned [.handle, .widerDeep] true :=
  OpenClaim.laidByTextAt_later rfl rfl tie noOwnUnsafe
end Go.Proofs.YtpjkdaechknogaaDoor
