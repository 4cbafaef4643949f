/-
  DERIVED. GIVEN WITH THE SEED: THE PROGRAM's TIES (one call each: nine closed facts by the kernel) AND EACH ROW's TIE, after the 31st guide's Derived/Test/Toyas{Tie, Card}.lean. No idea stands in it: it is a product of the set-up. Laid BY PROGRAM, IN A SANDBOX (cutbox-door.mjs). By AI agents, Wed Nov 11 2026. No macro, syntax, notation, axiom, sorry.
-/
import Derived.Test.YtnjaedaofjkbnaaDoorRows
import Derived.LaidByTextLater
import Derived.SevenTiedAt
import Derived.LaidSub
import Derived.LaidOnce
namespace Go.Proofs.YtnjaedaofjkbnaaDoor
open Go
set_option maxRecDepth 100000
theorem seatTie1 : Tryd.prog.laidByTextLater [("ladderback/alu.goes", Rows.laid_ladderback_alu_goes), ("ladderback/block.rows", Rows.laid_ladderback_block_rows)] [.data, .data] true :=
  Program.laidByTextLater_by_one 113 8 163 (by kernel_rfl) (by kernel_rfl) (by kernel_rfl) (by kernel_rfl) (by kernel_rfl) (by kernel_rfl) (fun _ _ => by kernel_rfl)
theorem seatTie2 : Tryd.prog.laidByTextLater [("ladderback/alu.goes", Rows.laid_ladderback_alu_goes), ("ladderback/block.rows", Rows.laid_ladderback_block_rows), ("ladderback/op.rows", Rows.laid_ladderback_op_rows)] [.data, .data, .data] true :=
  Program.laidByTextLater_by_one 113 8 163 (by kernel_rfl) (by kernel_rfl) (by kernel_rfl) (by kernel_rfl) (by kernel_rfl) (by kernel_rfl) (fun _ _ => by kernel_rfl)
theorem noOwnUnsafe : Tryd.pinned.checked.prog.headLifts.contains "ownunsafe" = false := by kernel_rfl
theorem tie : Tryd.prog.laidByTextLater [("ladderback/alu.goes", Rows.laid_ladderback_alu_goes), ("ladderback/block.rows", Rows.laid_ladderback_block_rows)] [.data, .data] true :=
  Program.laidByTextLater.sub seatTie1 ["ladderback/alu.goes", "ladderback/block.rows"] (by kernel_rfl) (by kernel_rfl)
theorem nnfTells_row_tie : Rows.nnfTellsRow.laidByTextAt .later Tryd.pinned [.data, .data] true :=
  OpenClaim.laidByTextAt_later rfl rfl tie noOwnUnsafe
theorem netTells_row_tie : Rows.netTellsRow.laidByTextAt .later Tryd.pinned [.data, .data] true :=
  OpenClaim.laidByTextAt_later rfl rfl tie noOwnUnsafe
theorem netBack_row_tie : Rows.netBackRow.laidByTextAt .later Tryd.pinned [.data, .data] true :=
  OpenClaim.laidByTextAt_later rfl rfl tie noOwnUnsafe
theorem tie2 : Tryd.prog.laidByTextLater [("ladderback/alu.goes", Rows.laid_ladderback_alu_goes), ("ladderback/block.rows", Rows.laid_ladderback_block_rows), ("ladderback/op.rows", Rows.laid_ladderback_op_rows)] [.data, .data, .data] true :=
  Program.laidByTextLater.sub seatTie2 ["ladderback/alu.goes", "ladderback/block.rows", "ladderback/op.rows"] (by kernel_rfl) (by kernel_rfl)
theorem typingSame_row_tie : Rows.typingSameRow.laidByTextAt .later Tryd.pinned [.data, .data, .data] true :=
  OpenClaim.laidByTextAt_later rfl rfl tie2 noOwnUnsafe
theorem nnfTellsUpto_row_tie : Rows.nnfTellsUptoRow.laidByTextAt .later Tryd.pinned [.data, .data] true :=
  OpenClaim.laidByTextAt_later rfl rfl tie noOwnUnsafe
theorem netTellsUpto_row_tie : Rows.netTellsUptoRow.laidByTextAt .later Tryd.pinned [.data, .data] true :=
  OpenClaim.laidByTextAt_later rfl rfl tie noOwnUnsafe
theorem netBackUpto_row_tie : Rows.netBackUptoRow.laidByTextAt .later Tryd.pinned [.data, .data] true :=
  OpenClaim.laidByTextAt_later rfl rfl tie noOwnUnsafe
theorem typingSameUpto_row_tie : Rows.typingSameUptoRow.laidByTextAt .later Tryd.pinned [.data, .data, .data] true :=
  OpenClaim.laidByTextAt_later rfl rfl tie2 noOwnUnsafe
end Go.Proofs.YtnjaedaofjkbnaaDoor
