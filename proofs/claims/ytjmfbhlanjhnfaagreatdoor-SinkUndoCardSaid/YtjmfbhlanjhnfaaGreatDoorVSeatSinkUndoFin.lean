/- More closed facts of the row and of the program. -/
import Derived.Test.YtjmfbhlanjhnfaaGreatDoorRows
import Derived.Test.YtjmfbhlanjhnfaaGreatDoorCards
import Derived.SevenTiedAt
import Derived.KernelRfl
import Derived.Test.YtjmfbhlanjhnfaaGreatDoorVSeatKids
set_option linter.all false
namespace Go.Proofs.YtjmfbhlanjhnfaaGreatDoor.sinkUndo
open Go.Vsx
set_option maxRecDepth 100000
theorem c0 : Rows.sinkUndoRow.wfByText (OpenSpec.ofChange Rows.sinkUndoSpec) = true := by kernel_rfl
theorem c1 : Tryz.pinned.checked.prog.mainIs = some ((true, "f88995e9027d02e01017ecbeb5fa6395dd8ba0c818279cef34e9abfc20c8bb4d").1, (true, "f88995e9027d02e01017ecbeb5fa6395dd8ba0c818279cef34e9abfc20c8bb4d").2.toList) := by kernel_rfl
theorem c2 : Tryz.prog.funcNamed Rows.sinkUndoRow.func = some 5 := by kernel_rfl
theorem c3 : true = Tryz.pinned.checked.prog.looks [] := by kernel_rfl
theorem c4 : false = Rows.sinkUndoRow.goesBy Tryz.pinned.checked.prog := by kernel_rfl
theorem c5q42 : Tryz.pinned.checked.prog.wantsStandIn 42 = false := by kernel_rfl
theorem flat2 : flatK Tryz.prog 10 2 = some [.int .i64] := by kernel_rfl
theorem cells2 : Tryz.prog.cellsOf 2 = 1 := by kernel_rfl
end Go.Proofs.YtjmfbhlanjhnfaaGreatDoor.sinkUndo
