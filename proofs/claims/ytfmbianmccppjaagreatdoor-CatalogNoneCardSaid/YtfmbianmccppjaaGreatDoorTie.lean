/-
  DERIVED. GIVEN WITH THE SEED: THE PROGRAM's TIES (one call each: nine closed facts by the kernel) AND EACH ROW's TIE, after the 31st guide's Derived/Test/Toyas{Tie, Card}.lean. No idea stands in it: it is a product of the set-up. Laid BY PROGRAM, IN A SANDBOX (cutbox-door.mjs). By AI agents, Wed Nov 11 2026. No macro, syntax, notation, axiom, sorry.
-/
import Derived.Test.YtfmbianmccppjaaGreatDoorRows
import Derived.LaidByTextLater
import Derived.SevenTiedAt
import Derived.LaidSub
import Derived.LaidOnce
namespace Go.Proofs.YtfmbianmccppjaaGreatDoor
open Go
set_option maxRecDepth 100000
theorem seatTie1 : Tryz.prog.laidByTextLater [("hachure/sum.table", Rows.laid_hachure_sum_table), ("hachure/shape.forms", Rows.laid_hachure_shape_forms), ("hachure/wkb.nowhere", Rows.laid_hachure_wkb_nowhere)] [.data, .data, .data] true :=
  Program.laidByTextLater_by_one 32 8 17 (by kernel_rfl) (by kernel_rfl) (by kernel_rfl) (by kernel_rfl) (by kernel_rfl) (by kernel_rfl) (fun _ _ => by kernel_rfl)
theorem noOwnUnsafe : Tryz.pinned.checked.prog.headLifts.contains "ownunsafe" = false := by kernel_rfl
theorem tie : Tryz.prog.laidByTextLater [("hachure/sum.table", Rows.laid_hachure_sum_table)] [.data] true :=
  Program.laidByTextLater.sub seatTie1 ["hachure/sum.table"] (by kernel_rfl) (by kernel_rfl)
theorem catalogNone_row_tie : Rows.catalogNoneRow.laidByTextAt .later Tryz.pinned [.data] true :=
  OpenClaim.laidByTextAt_later rfl rfl tie noOwnUnsafe
theorem tie2 : Tryz.prog.laidByTextLater [("hachure/sum.table", Rows.laid_hachure_sum_table), ("hachure/shape.forms", Rows.laid_hachure_shape_forms), ("hachure/wkb.nowhere", Rows.laid_hachure_wkb_nowhere)] [.data, .data, .data] true :=
  Program.laidByTextLater.sub seatTie1 ["hachure/sum.table", "hachure/shape.forms", "hachure/wkb.nowhere"] (by kernel_rfl) (by kernel_rfl)
theorem integrityNone_row_tie : Rows.integrityNoneRow.laidByTextAt .later Tryz.pinned [.data, .data, .data] true :=
  OpenClaim.laidByTextAt_later rfl rfl tie2 noOwnUnsafe
theorem catalogNoneUpto_row_tie : Rows.catalogNoneUptoRow.laidByTextAt .later Tryz.pinned [.data] true :=
  OpenClaim.laidByTextAt_later rfl rfl tie noOwnUnsafe
theorem integrityNoneUpto_row_tie : Rows.integrityNoneUptoRow.laidByTextAt .later Tryz.pinned [.data, .data, .data] true :=
  OpenClaim.laidByTextAt_later rfl rfl tie2 noOwnUnsafe
end Go.Proofs.YtfmbianmccppjaaGreatDoor
