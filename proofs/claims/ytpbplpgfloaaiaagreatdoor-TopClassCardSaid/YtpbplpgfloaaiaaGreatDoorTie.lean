/-
  DERIVED. GIVEN WITH THE SEED: THE PROGRAM's TIES (one call each: nine closed facts by the kernel) AND EACH ROW's TIE, after the 31st guide's Derived/Test/Toyas{Tie, Card}.lean. No idea stands in it: it is a product of the set-up. Laid BY PROGRAM, IN A SANDBOX (cutbox-door.mjs). By AI agents, Wed Nov 11 2026. No macro, syntax, notation, axiom, sorry.
-/
import Derived.Test.YtpbplpgfloaaiaaGreatDoorRows
import Derived.LaidByTextLater
import Derived.SevenTiedAt
import Derived.LaidSub
import Derived.LaidOnce
namespace Go.Proofs.YtpbplpgfloaaiaaGreatDoor
open Go
set_option maxRecDepth 100000
theorem seatTie1 : Tryz.prog.laidByTextLater [("probecard/logic.fanins", Rows.laid_probecard_logic_fanins), ("probecard/scoaps.unit", Rows.laid_probecard_scoaps_unit), ("probecard/scoaps.never", Rows.laid_probecard_scoaps_never)] [.data, .data, .data] true :=
  Program.laidByTextLater_by_one 40 8 33 (by kernel_rfl) (by kernel_rfl) (by kernel_rfl) (by kernel_rfl) (by kernel_rfl) (by kernel_rfl) (fun _ _ => by kernel_rfl)
theorem noOwnUnsafe : Tryz.pinned.checked.prog.headLifts.contains "ownunsafe" = false := by kernel_rfl
theorem tie : Tryz.prog.laidByTextLater [("probecard/logic.fanins", Rows.laid_probecard_logic_fanins)] [.data] true :=
  Program.laidByTextLater.sub seatTie1 ["probecard/logic.fanins"] (by kernel_rfl) (by kernel_rfl)
theorem topClass_row_tie : Rows.topClassRow.laidByTextAt .later Tryz.pinned [.data] true :=
  OpenClaim.laidByTextAt_later rfl rfl tie noOwnUnsafe
theorem tie2 : Tryz.prog.laidByTextLater [("probecard/logic.fanins", Rows.laid_probecard_logic_fanins), ("probecard/scoaps.unit", Rows.laid_probecard_scoaps_unit), ("probecard/scoaps.never", Rows.laid_probecard_scoaps_never)] [.data, .data, .data] true :=
  Program.laidByTextLater.sub seatTie1 ["probecard/logic.fanins", "probecard/scoaps.unit", "probecard/scoaps.never"] (by kernel_rfl) (by kernel_rfl)
theorem topColumns_row_tie : Rows.topColumnsRow.laidByTextAt .later Tryz.pinned [.data, .data, .data] true :=
  OpenClaim.laidByTextAt_later rfl rfl tie2 noOwnUnsafe
theorem topClassUpto_row_tie : Rows.topClassUptoRow.laidByTextAt .later Tryz.pinned [.data] true :=
  OpenClaim.laidByTextAt_later rfl rfl tie noOwnUnsafe
theorem topColumnsUpto_row_tie : Rows.topColumnsUptoRow.laidByTextAt .later Tryz.pinned [.data, .data, .data] true :=
  OpenClaim.laidByTextAt_later rfl rfl tie2 noOwnUnsafe
end Go.Proofs.YtpbplpgfloaaiaaGreatDoor
