/-
  DERIVED. GIVEN WITH THE SEED: THE PROGRAM's TIES (one call each: nine closed facts by the kernel) AND EACH ROW's TIE, after the 31st guide's Derived/Test/Toyas{Tie, Card}.lean. No idea stands in it: it is a product of the set-up. Laid BY PROGRAM, IN A SANDBOX (cutbox-door.mjs). By AI agents, Wed Nov 11 2026. No macro, syntax, notation, axiom, sorry.
-/
import Derived.Test.YtdailhlghlledaaDoorRows
import Derived.LaidByTextLater
import Derived.SevenTiedAt
import Derived.LaidSub
import Derived.LaidOnce
namespace Go.Proofs.YtdailhlghlledaaDoor
open Go
set_option maxRecDepth 100000
theorem seatTie1 : Tryd.prog.laidByTextLater [("copse/api.ErrArg", Rows.laid_copse_api_ErrArg), ("copse/api.ErrText", Rows.laid_copse_api_ErrText), ("copse/api.ErrMany", Rows.laid_copse_api_ErrMany), ("copse/api.ErrShort", Rows.laid_copse_api_ErrShort), ("copse/api.ErrTwice", Rows.laid_copse_api_ErrTwice), ("copse/api.ErrLost", Rows.laid_copse_api_ErrLost), ("copse/api.ErrFull", Rows.laid_copse_api_ErrFull), ("copse/api.ErrDead", Rows.laid_copse_api_ErrDead), ("copse/api.ErrCorrupt", Rows.laid_copse_api_ErrCorrupt), ("copse/api.ErrStatus", Rows.laid_copse_api_ErrStatus), ("copse/api.ErrTxid", Rows.laid_copse_api_ErrTxid), ("copse/api.ErrOrder", Rows.laid_copse_api_ErrOrder), ("copse/api.ErrKind", Rows.laid_copse_api_ErrKind)] [.sentinel, .sentinel, .sentinel, .sentinel, .sentinel, .sentinel, .sentinel, .sentinel, .sentinel, .sentinel, .sentinel, .sentinel, .sentinel] true :=
  Program.laidByTextLater_by_one 256 8 2 (by kernel_rfl) (by kernel_rfl) (by kernel_rfl) (by kernel_rfl) (by kernel_rfl) (by kernel_rfl) (fun _ _ => by kernel_rfl)
theorem noOwnUnsafe : Tryd.pinned.checked.prog.headLifts.contains "ownunsafe" = false := by kernel_rfl
theorem tie : Tryd.prog.laidByTextLater [("copse/api.ErrArg", Rows.laid_copse_api_ErrArg), ("copse/api.ErrText", Rows.laid_copse_api_ErrText), ("copse/api.ErrMany", Rows.laid_copse_api_ErrMany), ("copse/api.ErrShort", Rows.laid_copse_api_ErrShort), ("copse/api.ErrTwice", Rows.laid_copse_api_ErrTwice), ("copse/api.ErrLost", Rows.laid_copse_api_ErrLost), ("copse/api.ErrFull", Rows.laid_copse_api_ErrFull), ("copse/api.ErrDead", Rows.laid_copse_api_ErrDead), ("copse/api.ErrCorrupt", Rows.laid_copse_api_ErrCorrupt), ("copse/api.ErrStatus", Rows.laid_copse_api_ErrStatus), ("copse/api.ErrTxid", Rows.laid_copse_api_ErrTxid), ("copse/api.ErrOrder", Rows.laid_copse_api_ErrOrder), ("copse/api.ErrKind", Rows.laid_copse_api_ErrKind)] [.sentinel, .sentinel, .sentinel, .sentinel, .sentinel, .sentinel, .sentinel, .sentinel, .sentinel, .sentinel, .sentinel, .sentinel, .sentinel] true :=
  Program.laidByTextLater.sub seatTie1 ["copse/api.ErrArg", "copse/api.ErrText", "copse/api.ErrMany", "copse/api.ErrShort", "copse/api.ErrTwice", "copse/api.ErrLost", "copse/api.ErrFull", "copse/api.ErrDead", "copse/api.ErrCorrupt", "copse/api.ErrStatus", "copse/api.ErrTxid", "copse/api.ErrOrder", "copse/api.ErrKind"] (by kernel_rfl) (by kernel_rfl)
theorem leafSizes_row_tie : Rows.leafSizesRow.laidByTextAt .later Tryd.pinned [.sentinel, .sentinel, .sentinel, .sentinel, .sentinel, .sentinel, .sentinel, .sentinel, .sentinel, .sentinel, .sentinel, .sentinel, .sentinel] true :=
  OpenClaim.laidByTextAt_later rfl rfl tie noOwnUnsafe
theorem leafCuts_row_tie : Rows.leafCutsRow.laidByTextAt .later Tryd.pinned [.sentinel, .sentinel, .sentinel, .sentinel, .sentinel, .sentinel, .sentinel, .sentinel, .sentinel, .sentinel, .sentinel, .sentinel, .sentinel] true :=
  OpenClaim.laidByTextAt_later rfl rfl tie noOwnUnsafe
theorem leafEncodes_row_tie : Rows.leafEncodesRow.laidByTextAt .later Tryd.pinned [.sentinel, .sentinel, .sentinel, .sentinel, .sentinel, .sentinel, .sentinel, .sentinel, .sentinel, .sentinel, .sentinel, .sentinel, .sentinel] true :=
  OpenClaim.laidByTextAt_later rfl rfl tie noOwnUnsafe
theorem leafDecodes_row_tie : Rows.leafDecodesRow.laidByTextAt .later Tryd.pinned [.sentinel, .sentinel, .sentinel, .sentinel, .sentinel, .sentinel, .sentinel, .sentinel, .sentinel, .sentinel, .sentinel, .sentinel, .sentinel] true :=
  OpenClaim.laidByTextAt_later rfl rfl tie noOwnUnsafe
theorem leafBack_row_tie : Rows.leafBackRow.laidByTextAt .later Tryd.pinned [.sentinel, .sentinel, .sentinel, .sentinel, .sentinel, .sentinel, .sentinel, .sentinel, .sentinel, .sentinel, .sentinel, .sentinel, .sentinel] true :=
  OpenClaim.laidByTextAt_later rfl rfl tie noOwnUnsafe
theorem leafNew_row_tie : Rows.leafNewRow.laidByTextAt .later Tryd.pinned [.sentinel, .sentinel, .sentinel, .sentinel, .sentinel, .sentinel, .sentinel, .sentinel, .sentinel, .sentinel, .sentinel, .sentinel, .sentinel] true :=
  OpenClaim.laidByTextAt_later rfl rfl tie noOwnUnsafe
theorem tie2 : Tryd.prog.laidByTextLater [("copse/api.ErrArg", Rows.laid_copse_api_ErrArg), ("copse/api.ErrText", Rows.laid_copse_api_ErrText), ("copse/api.ErrMany", Rows.laid_copse_api_ErrMany), ("copse/api.ErrShort", Rows.laid_copse_api_ErrShort), ("copse/api.ErrOrder", Rows.laid_copse_api_ErrOrder)] [.sentinel, .sentinel, .sentinel, .sentinel, .sentinel] true :=
  Program.laidByTextLater.sub seatTie1 ["copse/api.ErrArg", "copse/api.ErrText", "copse/api.ErrMany", "copse/api.ErrShort", "copse/api.ErrOrder"] (by kernel_rfl) (by kernel_rfl)
theorem leafKeeps_row_tie : Rows.leafKeepsRow.laidByTextAt .later Tryd.pinned [.sentinel, .sentinel, .sentinel, .sentinel, .sentinel] true :=
  OpenClaim.laidByTextAt_later rfl rfl tie2 noOwnUnsafe
theorem leafHalves_row_tie : Rows.leafHalvesRow.laidByTextAt .later Tryd.pinned [.sentinel, .sentinel, .sentinel, .sentinel, .sentinel] true :=
  OpenClaim.laidByTextAt_later rfl rfl tie2 noOwnUnsafe
theorem leafSizesUpto_row_tie : Rows.leafSizesUptoRow.laidByTextAt .later Tryd.pinned [.sentinel, .sentinel, .sentinel, .sentinel, .sentinel, .sentinel, .sentinel, .sentinel, .sentinel, .sentinel, .sentinel, .sentinel, .sentinel] true :=
  OpenClaim.laidByTextAt_later rfl rfl tie noOwnUnsafe
theorem leafCutsUpto_row_tie : Rows.leafCutsUptoRow.laidByTextAt .later Tryd.pinned [.sentinel, .sentinel, .sentinel, .sentinel, .sentinel, .sentinel, .sentinel, .sentinel, .sentinel, .sentinel, .sentinel, .sentinel, .sentinel] true :=
  OpenClaim.laidByTextAt_later rfl rfl tie noOwnUnsafe
theorem leafEncodesUpto_row_tie : Rows.leafEncodesUptoRow.laidByTextAt .later Tryd.pinned [.sentinel, .sentinel, .sentinel, .sentinel, .sentinel, .sentinel, .sentinel, .sentinel, .sentinel, .sentinel, .sentinel, .sentinel, .sentinel] true :=
  OpenClaim.laidByTextAt_later rfl rfl tie noOwnUnsafe
theorem leafDecodesUpto_row_tie : Rows.leafDecodesUptoRow.laidByTextAt .later Tryd.pinned [.sentinel, .sentinel, .sentinel, .sentinel, .sentinel, .sentinel, .sentinel, .sentinel, .sentinel, .sentinel, .sentinel, .sentinel, .sentinel] true :=
  OpenClaim.laidByTextAt_later rfl rfl tie noOwnUnsafe
theorem leafBackUpto_row_tie : Rows.leafBackUptoRow.laidByTextAt .later Tryd.pinned [.sentinel, .sentinel, .sentinel, .sentinel, .sentinel, .sentinel, .sentinel, .sentinel, .sentinel, .sentinel, .sentinel, .sentinel, .sentinel] true :=
  OpenClaim.laidByTextAt_later rfl rfl tie noOwnUnsafe
theorem leafKeepsUpto_row_tie : Rows.leafKeepsUptoRow.laidByTextAt .later Tryd.pinned [.sentinel, .sentinel, .sentinel, .sentinel, .sentinel] true :=
  OpenClaim.laidByTextAt_later rfl rfl tie2 noOwnUnsafe
theorem leafHalvesUpto_row_tie : Rows.leafHalvesUptoRow.laidByTextAt .later Tryd.pinned [.sentinel, .sentinel, .sentinel, .sentinel, .sentinel] true :=
  OpenClaim.laidByTextAt_later rfl rfl tie2 noOwnUnsafe
theorem leafNewUpto_row_tie : Rows.leafNewUptoRow.laidByTextAt .later Tryd.pinned [.sentinel, .sentinel, .sentinel, .sentinel, .sentinel, .sentinel, .sentinel, .sentinel, .sentinel, .sentinel, .sentinel, .sentinel, .sentinel] true :=
  OpenClaim.laidByTextAt_later rfl rfl tie noOwnUnsafe
end Go.Proofs.YtdailhlghlledaaDoor
