/-
  DERIVED. GIVEN WITH THE SEED: THE PROGRAM's TIES (one call each: nine closed facts by the kernel) AND EACH ROW's TIE, after the 31st guide's Derived/Test/Toyas{Tie, Card}.lean. No idea stands in it: it is a product of the set-up. Laid BY PROGRAM, IN A SANDBOX (cutbox-door.mjs). By AI agents, Wed Nov 11 2026. No macro, syntax, notation, axiom, sorry.
-/
import Derived.Test.YtcjfmlgljfggpaaDoorRows
import Derived.LaidByTextLater
import Derived.SevenTiedAt
import Derived.LaidSub
import Derived.LaidOnce
namespace Go.Proofs.YtcjfmlgljfggpaaDoor
open Go
set_option maxRecDepth 100000
theorem seatTie1 : Tryd.prog.laidByTextLater [("copse/api.ErrArg", Rows.laid_copse_api_ErrArg), ("copse/api.ErrText", Rows.laid_copse_api_ErrText), ("copse/api.ErrMany", Rows.laid_copse_api_ErrMany), ("copse/api.ErrShort", Rows.laid_copse_api_ErrShort), ("copse/api.ErrTwice", Rows.laid_copse_api_ErrTwice), ("copse/api.ErrLost", Rows.laid_copse_api_ErrLost), ("copse/api.ErrFull", Rows.laid_copse_api_ErrFull), ("copse/api.ErrDead", Rows.laid_copse_api_ErrDead), ("copse/api.ErrCorrupt", Rows.laid_copse_api_ErrCorrupt), ("copse/api.ErrStatus", Rows.laid_copse_api_ErrStatus), ("copse/api.ErrTxid", Rows.laid_copse_api_ErrTxid), ("copse/api.ErrOrder", Rows.laid_copse_api_ErrOrder), ("copse/api.ErrKind", Rows.laid_copse_api_ErrKind), ("copse/codec.steps", Rows.laid_copse_codec_steps), ("copse/copselaw0.limits", Rows.laid_copse_copselaw0_limits), ("copse/copselaw0.wanted", Rows.laid_copse_copselaw0_wanted), ("copse/copselaw0.kinds", Rows.laid_copse_copselaw0_kinds), ("copse/copselaw0.numbers", Rows.laid_copse_copselaw0_numbers)] [.sentinel, .sentinel, .sentinel, .sentinel, .sentinel, .sentinel, .sentinel, .sentinel, .sentinel, .sentinel, .sentinel, .sentinel, .sentinel, .data, .data, .data, .data, .data] true :=
  Program.laidByTextLater_by_one 281 8 46 (by kernel_rfl) (by kernel_rfl) (by kernel_rfl) (by kernel_rfl) (by kernel_rfl) (by kernel_rfl) (fun _ _ => by kernel_rfl)
theorem noOwnUnsafe : Tryd.pinned.checked.prog.headLifts.contains "ownunsafe" = false := by kernel_rfl
theorem tie : Tryd.prog.laidByTextLater [("copse/api.ErrArg", Rows.laid_copse_api_ErrArg), ("copse/api.ErrText", Rows.laid_copse_api_ErrText), ("copse/api.ErrMany", Rows.laid_copse_api_ErrMany), ("copse/api.ErrShort", Rows.laid_copse_api_ErrShort), ("copse/api.ErrTwice", Rows.laid_copse_api_ErrTwice), ("copse/api.ErrLost", Rows.laid_copse_api_ErrLost), ("copse/api.ErrFull", Rows.laid_copse_api_ErrFull), ("copse/api.ErrDead", Rows.laid_copse_api_ErrDead), ("copse/api.ErrCorrupt", Rows.laid_copse_api_ErrCorrupt), ("copse/api.ErrStatus", Rows.laid_copse_api_ErrStatus), ("copse/api.ErrTxid", Rows.laid_copse_api_ErrTxid), ("copse/api.ErrOrder", Rows.laid_copse_api_ErrOrder), ("copse/api.ErrKind", Rows.laid_copse_api_ErrKind), ("copse/copselaw0.limits", Rows.laid_copse_copselaw0_limits), ("copse/copselaw0.wanted", Rows.laid_copse_copselaw0_wanted), ("copse/copselaw0.kinds", Rows.laid_copse_copselaw0_kinds), ("copse/copselaw0.numbers", Rows.laid_copse_copselaw0_numbers)] [.sentinel, .sentinel, .sentinel, .sentinel, .sentinel, .sentinel, .sentinel, .sentinel, .sentinel, .sentinel, .sentinel, .sentinel, .sentinel, .data, .data, .data, .data] true :=
  Program.laidByTextLater.sub seatTie1 ["copse/api.ErrArg", "copse/api.ErrText", "copse/api.ErrMany", "copse/api.ErrShort", "copse/api.ErrTwice", "copse/api.ErrLost", "copse/api.ErrFull", "copse/api.ErrDead", "copse/api.ErrCorrupt", "copse/api.ErrStatus", "copse/api.ErrTxid", "copse/api.ErrOrder", "copse/api.ErrKind", "copse/copselaw0.limits", "copse/copselaw0.wanted", "copse/copselaw0.kinds", "copse/copselaw0.numbers"] (by kernel_rfl) (by kernel_rfl)
theorem names_row_tie : Rows.namesRow.laidByTextAt .later Tryd.pinned [.sentinel, .sentinel, .sentinel, .sentinel, .sentinel, .sentinel, .sentinel, .sentinel, .sentinel, .sentinel, .sentinel, .sentinel, .sentinel, .data, .data, .data, .data] true :=
  OpenClaim.laidByTextAt_later rfl rfl tie noOwnUnsafe
theorem tie2 : Tryd.prog.laidByTextLater [("copse/codec.steps", Rows.laid_copse_codec_steps)] [.data] true :=
  Program.laidByTextLater.sub seatTie1 ["copse/codec.steps"] (by kernel_rfl) (by kernel_rfl)
theorem codecSums_row_tie : Rows.codecSumsRow.laidByTextAt .later Tryd.pinned [.data] true :=
  OpenClaim.laidByTextAt_later rfl rfl tie2 noOwnUnsafe
theorem codecParts_row_tie : Rows.codecPartsRow.laidByTextAt .later Tryd.pinned [.data] true :=
  OpenClaim.laidByTextAt_later rfl rfl tie2 noOwnUnsafe
theorem codecBursts_row_tie : Rows.codecBurstsRow.laidByTextAt .later Tryd.pinned [.data] true :=
  OpenClaim.laidByTextAt_later rfl rfl tie2 noOwnUnsafe
theorem codecLike_row_tie : Rows.codecLikeRow.laidByTextAt .later Tryd.pinned [.data] true :=
  OpenClaim.laidByTextAt_later rfl rfl tie2 noOwnUnsafe
theorem tie3 : Tryd.prog.laidByTextLater [("copse/api.ErrArg", Rows.laid_copse_api_ErrArg), ("copse/api.ErrText", Rows.laid_copse_api_ErrText), ("copse/api.ErrMany", Rows.laid_copse_api_ErrMany), ("copse/api.ErrShort", Rows.laid_copse_api_ErrShort), ("copse/api.ErrTwice", Rows.laid_copse_api_ErrTwice), ("copse/api.ErrLost", Rows.laid_copse_api_ErrLost), ("copse/api.ErrFull", Rows.laid_copse_api_ErrFull), ("copse/api.ErrDead", Rows.laid_copse_api_ErrDead), ("copse/api.ErrCorrupt", Rows.laid_copse_api_ErrCorrupt), ("copse/api.ErrStatus", Rows.laid_copse_api_ErrStatus), ("copse/api.ErrTxid", Rows.laid_copse_api_ErrTxid), ("copse/api.ErrOrder", Rows.laid_copse_api_ErrOrder), ("copse/api.ErrKind", Rows.laid_copse_api_ErrKind)] [.sentinel, .sentinel, .sentinel, .sentinel, .sentinel, .sentinel, .sentinel, .sentinel, .sentinel, .sentinel, .sentinel, .sentinel, .sentinel] true :=
  Program.laidByTextLater.sub seatTie1 ["copse/api.ErrArg", "copse/api.ErrText", "copse/api.ErrMany", "copse/api.ErrShort", "copse/api.ErrTwice", "copse/api.ErrLost", "copse/api.ErrFull", "copse/api.ErrDead", "copse/api.ErrCorrupt", "copse/api.ErrStatus", "copse/api.ErrTxid", "copse/api.ErrOrder", "copse/api.ErrKind"] (by kernel_rfl) (by kernel_rfl)
theorem codecGets_row_tie : Rows.codecGetsRow.laidByTextAt .later Tryd.pinned [.sentinel, .sentinel, .sentinel, .sentinel, .sentinel, .sentinel, .sentinel, .sentinel, .sentinel, .sentinel, .sentinel, .sentinel, .sentinel] true :=
  OpenClaim.laidByTextAt_later rfl rfl tie3 noOwnUnsafe
theorem codecPuts_row_tie : Rows.codecPutsRow.laidByTextAt .later Tryd.pinned [.sentinel, .sentinel, .sentinel, .sentinel, .sentinel, .sentinel, .sentinel, .sentinel, .sentinel, .sentinel, .sentinel, .sentinel, .sentinel] true :=
  OpenClaim.laidByTextAt_later rfl rfl tie3 noOwnUnsafe
theorem codecNew_row_tie : Rows.codecNewRow.laidByTextAt .later Tryd.pinned [.sentinel, .sentinel, .sentinel, .sentinel, .sentinel, .sentinel, .sentinel, .sentinel, .sentinel, .sentinel, .sentinel, .sentinel, .sentinel] true :=
  OpenClaim.laidByTextAt_later rfl rfl tie3 noOwnUnsafe
theorem tie4 : Tryd.prog.laidByTextLater [("copse/api.ErrArg", Rows.laid_copse_api_ErrArg)] [.sentinel] true :=
  Program.laidByTextLater.sub seatTie1 ["copse/api.ErrArg"] (by kernel_rfl) (by kernel_rfl)
theorem codecBack_row_tie : Rows.codecBackRow.laidByTextAt .later Tryd.pinned [.sentinel] true :=
  OpenClaim.laidByTextAt_later rfl rfl tie4 noOwnUnsafe
theorem namesUpto_row_tie : Rows.namesUptoRow.laidByTextAt .later Tryd.pinned [.sentinel, .sentinel, .sentinel, .sentinel, .sentinel, .sentinel, .sentinel, .sentinel, .sentinel, .sentinel, .sentinel, .sentinel, .sentinel, .data, .data, .data, .data] true :=
  OpenClaim.laidByTextAt_later rfl rfl tie noOwnUnsafe
theorem codecSumsUpto_row_tie : Rows.codecSumsUptoRow.laidByTextAt .later Tryd.pinned [.data] true :=
  OpenClaim.laidByTextAt_later rfl rfl tie2 noOwnUnsafe
theorem codecPartsUpto_row_tie : Rows.codecPartsUptoRow.laidByTextAt .later Tryd.pinned [.data] true :=
  OpenClaim.laidByTextAt_later rfl rfl tie2 noOwnUnsafe
theorem codecBurstsUpto_row_tie : Rows.codecBurstsUptoRow.laidByTextAt .later Tryd.pinned [.data] true :=
  OpenClaim.laidByTextAt_later rfl rfl tie2 noOwnUnsafe
theorem codecLikeUpto_row_tie : Rows.codecLikeUptoRow.laidByTextAt .later Tryd.pinned [.data] true :=
  OpenClaim.laidByTextAt_later rfl rfl tie2 noOwnUnsafe
theorem codecGetsUpto_row_tie : Rows.codecGetsUptoRow.laidByTextAt .later Tryd.pinned [.sentinel, .sentinel, .sentinel, .sentinel, .sentinel, .sentinel, .sentinel, .sentinel, .sentinel, .sentinel, .sentinel, .sentinel, .sentinel] true :=
  OpenClaim.laidByTextAt_later rfl rfl tie3 noOwnUnsafe
theorem codecPutsUpto_row_tie : Rows.codecPutsUptoRow.laidByTextAt .later Tryd.pinned [.sentinel, .sentinel, .sentinel, .sentinel, .sentinel, .sentinel, .sentinel, .sentinel, .sentinel, .sentinel, .sentinel, .sentinel, .sentinel] true :=
  OpenClaim.laidByTextAt_later rfl rfl tie3 noOwnUnsafe
theorem codecNewUpto_row_tie : Rows.codecNewUptoRow.laidByTextAt .later Tryd.pinned [.sentinel, .sentinel, .sentinel, .sentinel, .sentinel, .sentinel, .sentinel, .sentinel, .sentinel, .sentinel, .sentinel, .sentinel, .sentinel] true :=
  OpenClaim.laidByTextAt_later rfl rfl tie3 noOwnUnsafe
theorem codecBackUpto_row_tie : Rows.codecBackUptoRow.laidByTextAt .later Tryd.pinned [.sentinel] true :=
  OpenClaim.laidByTextAt_later rfl rfl tie4 noOwnUnsafe
end Go.Proofs.YtcjfmlgljfggpaaDoor
