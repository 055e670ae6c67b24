/-
  DERIVED. GIVEN WITH THE SEED: THE PROGRAM's TIES (one call each: nine closed facts by the kernel) AND EACH ROW's TIE, after the 31st guide's Derived/Test/Toyas{Tie, Card}.lean. No idea stands in it: it is a product of the set-up. Laid BY PROGRAM, IN A SANDBOX (cutbox-door.mjs). By AI agents, Wed Nov 11 2026. No macro, syntax, notation, axiom, sorry.
-/
import Derived.Test.YtmjdkddpfcfepaaDoorRows
import Derived.LaidByTextLater
import Derived.SevenTiedAt
import Derived.LaidSub
import Derived.LaidOnce
namespace Go.Proofs.YtmjdkddpfcfepaaDoor
open Go
set_option maxRecDepth 100000
theorem seatTie1 : Tryd.prog.laidByTextLater [("copse/api.ErrArg", Rows.laid_copse_api_ErrArg), ("copse/api.ErrText", Rows.laid_copse_api_ErrText), ("copse/api.ErrMany", Rows.laid_copse_api_ErrMany), ("copse/api.ErrShort", Rows.laid_copse_api_ErrShort), ("copse/api.ErrTwice", Rows.laid_copse_api_ErrTwice), ("copse/api.ErrLost", Rows.laid_copse_api_ErrLost), ("copse/api.ErrFull", Rows.laid_copse_api_ErrFull), ("copse/api.ErrDead", Rows.laid_copse_api_ErrDead), ("copse/api.ErrCorrupt", Rows.laid_copse_api_ErrCorrupt), ("copse/api.ErrStatus", Rows.laid_copse_api_ErrStatus), ("copse/api.ErrTxid", Rows.laid_copse_api_ErrTxid), ("copse/api.ErrOrder", Rows.laid_copse_api_ErrOrder), ("copse/api.ErrKind", Rows.laid_copse_api_ErrKind)] [.sentinel, .sentinel, .sentinel, .sentinel, .sentinel, .sentinel, .sentinel, .sentinel, .sentinel, .sentinel, .sentinel, .sentinel, .sentinel] true :=
  Program.laidByTextLater_by_one 256 8 2 (by kernel_rfl) (by kernel_rfl) (by kernel_rfl) (by kernel_rfl) (by kernel_rfl) (by kernel_rfl) (fun _ _ => by kernel_rfl)
theorem noOwnUnsafe : Tryd.pinned.checked.prog.headLifts.contains "ownunsafe" = false := by kernel_rfl
theorem tie : Tryd.prog.laidByTextLater [("copse/api.ErrArg", Rows.laid_copse_api_ErrArg), ("copse/api.ErrText", Rows.laid_copse_api_ErrText), ("copse/api.ErrMany", Rows.laid_copse_api_ErrMany), ("copse/api.ErrShort", Rows.laid_copse_api_ErrShort), ("copse/api.ErrTwice", Rows.laid_copse_api_ErrTwice), ("copse/api.ErrLost", Rows.laid_copse_api_ErrLost), ("copse/api.ErrFull", Rows.laid_copse_api_ErrFull), ("copse/api.ErrDead", Rows.laid_copse_api_ErrDead), ("copse/api.ErrCorrupt", Rows.laid_copse_api_ErrCorrupt), ("copse/api.ErrStatus", Rows.laid_copse_api_ErrStatus), ("copse/api.ErrTxid", Rows.laid_copse_api_ErrTxid), ("copse/api.ErrOrder", Rows.laid_copse_api_ErrOrder), ("copse/api.ErrKind", Rows.laid_copse_api_ErrKind)] [.sentinel, .sentinel, .sentinel, .sentinel, .sentinel, .sentinel, .sentinel, .sentinel, .sentinel, .sentinel, .sentinel, .sentinel, .sentinel] true :=
  Program.laidByTextLater.sub seatTie1 ["copse/api.ErrArg", "copse/api.ErrText", "copse/api.ErrMany", "copse/api.ErrShort", "copse/api.ErrTwice", "copse/api.ErrLost", "copse/api.ErrFull", "copse/api.ErrDead", "copse/api.ErrCorrupt", "copse/api.ErrStatus", "copse/api.ErrTxid", "copse/api.ErrOrder", "copse/api.ErrKind"] (by kernel_rfl) (by kernel_rfl)
theorem cellsLays_row_tie : Rows.cellsLaysRow.laidByTextAt .later Tryd.pinned [.sentinel, .sentinel, .sentinel, .sentinel, .sentinel, .sentinel, .sentinel, .sentinel, .sentinel, .sentinel, .sentinel, .sentinel, .sentinel] true :=
  OpenClaim.laidByTextAt_later rfl rfl tie noOwnUnsafe
theorem cellsReads_row_tie : Rows.cellsReadsRow.laidByTextAt .later Tryd.pinned [.sentinel, .sentinel, .sentinel, .sentinel, .sentinel, .sentinel, .sentinel, .sentinel, .sentinel, .sentinel, .sentinel, .sentinel, .sentinel] true :=
  OpenClaim.laidByTextAt_later rfl rfl tie noOwnUnsafe
theorem cellsCuts_row_tie : Rows.cellsCutsRow.laidByTextAt .later Tryd.pinned [.sentinel, .sentinel, .sentinel, .sentinel, .sentinel, .sentinel, .sentinel, .sentinel, .sentinel, .sentinel, .sentinel, .sentinel, .sentinel] true :=
  OpenClaim.laidByTextAt_later rfl rfl tie noOwnUnsafe
theorem tie2 : Tryd.prog.laidByTextLater [("copse/api.ErrArg", Rows.laid_copse_api_ErrArg), ("copse/api.ErrText", Rows.laid_copse_api_ErrText), ("copse/api.ErrMany", Rows.laid_copse_api_ErrMany), ("copse/api.ErrShort", Rows.laid_copse_api_ErrShort)] [.sentinel, .sentinel, .sentinel, .sentinel] true :=
  Program.laidByTextLater.sub seatTie1 ["copse/api.ErrArg", "copse/api.ErrText", "copse/api.ErrMany", "copse/api.ErrShort"] (by kernel_rfl) (by kernel_rfl)
theorem cellsBack_row_tie : Rows.cellsBackRow.laidByTextAt .later Tryd.pinned [.sentinel, .sentinel, .sentinel, .sentinel] true :=
  OpenClaim.laidByTextAt_later rfl rfl tie2 noOwnUnsafe
theorem cellsAgain_row_tie : Rows.cellsAgainRow.laidByTextAt .later Tryd.pinned [.sentinel, .sentinel, .sentinel, .sentinel] true :=
  OpenClaim.laidByTextAt_later rfl rfl tie2 noOwnUnsafe
theorem cellsSpot_row_tie : Rows.cellsSpotRow.laidByTextAt .later Tryd.pinned [.sentinel, .sentinel, .sentinel, .sentinel] true :=
  OpenClaim.laidByTextAt_later rfl rfl tie2 noOwnUnsafe
theorem cellsEven_row_tie : Rows.cellsEvenRow.laidByTextAt .later Tryd.pinned [.sentinel, .sentinel, .sentinel, .sentinel] true :=
  OpenClaim.laidByTextAt_later rfl rfl tie2 noOwnUnsafe
theorem cellsLaysUpto_row_tie : Rows.cellsLaysUptoRow.laidByTextAt .later Tryd.pinned [.sentinel, .sentinel, .sentinel, .sentinel, .sentinel, .sentinel, .sentinel, .sentinel, .sentinel, .sentinel, .sentinel, .sentinel, .sentinel] true :=
  OpenClaim.laidByTextAt_later rfl rfl tie noOwnUnsafe
theorem cellsReadsUpto_row_tie : Rows.cellsReadsUptoRow.laidByTextAt .later Tryd.pinned [.sentinel, .sentinel, .sentinel, .sentinel, .sentinel, .sentinel, .sentinel, .sentinel, .sentinel, .sentinel, .sentinel, .sentinel, .sentinel] true :=
  OpenClaim.laidByTextAt_later rfl rfl tie noOwnUnsafe
theorem cellsCutsUpto_row_tie : Rows.cellsCutsUptoRow.laidByTextAt .later Tryd.pinned [.sentinel, .sentinel, .sentinel, .sentinel, .sentinel, .sentinel, .sentinel, .sentinel, .sentinel, .sentinel, .sentinel, .sentinel, .sentinel] true :=
  OpenClaim.laidByTextAt_later rfl rfl tie noOwnUnsafe
theorem cellsBackUpto_row_tie : Rows.cellsBackUptoRow.laidByTextAt .later Tryd.pinned [.sentinel, .sentinel, .sentinel, .sentinel] true :=
  OpenClaim.laidByTextAt_later rfl rfl tie2 noOwnUnsafe
theorem cellsAgainUpto_row_tie : Rows.cellsAgainUptoRow.laidByTextAt .later Tryd.pinned [.sentinel, .sentinel, .sentinel, .sentinel] true :=
  OpenClaim.laidByTextAt_later rfl rfl tie2 noOwnUnsafe
theorem cellsSpotUpto_row_tie : Rows.cellsSpotUptoRow.laidByTextAt .later Tryd.pinned [.sentinel, .sentinel, .sentinel, .sentinel] true :=
  OpenClaim.laidByTextAt_later rfl rfl tie2 noOwnUnsafe
theorem cellsEvenUpto_row_tie : Rows.cellsEvenUptoRow.laidByTextAt .later Tryd.pinned [.sentinel, .sentinel, .sentinel, .sentinel] true :=
  OpenClaim.laidByTextAt_later rfl rfl tie2 noOwnUnsafe
end Go.Proofs.YtmjdkddpfcfepaaDoor
