/-
  DERIVED. GIVEN WITH THE SEED: THE PROGRAM's TIES (one call each: nine closed facts by the kernel) AND EACH ROW's TIE, after the 31st guide's Derived/Test/Toyas{Tie, Card}.lean. No idea stands in it: it is a product of the set-up. Laid BY PROGRAM, IN A SANDBOX (cutbox-door.mjs). By AI agents, Wed Nov 11 2026. No macro, syntax, notation, axiom, sorry.
-/
import Derived.Test.YtjboelhcieepkaaGreatDoorRows
import Derived.LaidByTextLater
import Derived.SevenTiedAt
import Derived.LaidSub
import Derived.LaidOnce
namespace Go.Proofs.YtjboelhcieepkaaGreatDoor
open Go
set_option maxRecDepth 100000
theorem seatTie1 : Tryz.prog.laidByTextLater [("caisson/digests.initial", Rows.laid_caisson_digests_initial), ("caisson/digests.constants", Rows.laid_caisson_digests_constants), ("errors.errorType", Rows.laid_errors_errorType), ("caisson/nodes.sizes", Rows.laid_caisson_nodes_sizes), ("caisson/stores.errPoison", Rows.laid_caisson_stores_errPoison)] [.data, .data, .handle, .data, .sentinel] true :=
  Program.laidByTextLater_by_one 50 8 65 (by kernel_rfl) (by kernel_rfl) (by kernel_rfl) (by kernel_rfl) (by kernel_rfl) (by kernel_rfl) (fun _ _ => by kernel_rfl)
theorem noOwnUnsafe : Tryz.pinned.checked.prog.headLifts.contains "ownunsafe" = false := by kernel_rfl
theorem tie : Tryz.prog.laidByTextLater [("caisson/digests.initial", Rows.laid_caisson_digests_initial), ("caisson/digests.constants", Rows.laid_caisson_digests_constants), ("errors.errorType", Rows.laid_errors_errorType), ("caisson/nodes.sizes", Rows.laid_caisson_nodes_sizes), ("caisson/stores.errPoison", Rows.laid_caisson_stores_errPoison)] [.data, .data, .handle, .data, .sentinel] true :=
  Program.laidByTextLater.sub seatTie1 ["caisson/digests.initial", "caisson/digests.constants", "errors.errorType", "caisson/nodes.sizes", "caisson/stores.errPoison"] (by kernel_rfl) (by kernel_rfl)
theorem topNode_row_tie : Rows.topNodeRow.laidByTextAt .later Tryz.pinned [.data, .data, .handle, .data, .sentinel] true :=
  OpenClaim.laidByTextAt_later rfl rfl tie noOwnUnsafe
theorem topSealed_row_tie : Rows.topSealedRow.laidByTextAt .later Tryz.pinned [.data, .data, .handle, .data, .sentinel] true :=
  OpenClaim.laidByTextAt_later rfl rfl tie noOwnUnsafe
theorem topNodeUpto_row_tie : Rows.topNodeUptoRow.laidByTextAt .later Tryz.pinned [.data, .data, .handle, .data, .sentinel] true :=
  OpenClaim.laidByTextAt_later rfl rfl tie noOwnUnsafe
theorem topSealedUpto_row_tie : Rows.topSealedUptoRow.laidByTextAt .later Tryz.pinned [.data, .data, .handle, .data, .sentinel] true :=
  OpenClaim.laidByTextAt_later rfl rfl tie noOwnUnsafe
end Go.Proofs.YtjboelhcieepkaaGreatDoor
