/- More closed facts of the row and of the program. -/
import Derived.Test.YtegeiefgjngihaaGreatDoorRows
import Derived.Test.YtegeiefgjngihaaGreatDoorCards
import Derived.SevenTiedAt
import Derived.KernelRfl
import Derived.Test.YtegeiefgjngihaaGreatDoorVSeatKids
set_option linter.all false
namespace Go.Proofs.YtegeiefgjngihaaGreatDoor.pipeOrder
open Go.Vsx
set_option maxRecDepth 100000
theorem c0 : Rows.pipeOrderRow.wfByText (OpenSpec.ofChange Rows.pipeOrderSpec) = true := by kernel_rfl
theorem c1 : Tryz.pinned.checked.prog.mainIs = some ((true, "6cde06d2bceaec5ef3cd5acca75eae9ce2964d7918294f22d86be2ca4e78fa8b").1, (true, "6cde06d2bceaec5ef3cd5acca75eae9ce2964d7918294f22d86be2ca4e78fa8b").2.toList) := by kernel_rfl
theorem c2 : Tryz.prog.funcNamed Rows.pipeOrderRow.func = some 4 := by kernel_rfl
theorem c3 : true = Tryz.pinned.checked.prog.looks [] := by kernel_rfl
theorem c4 : false = Rows.pipeOrderRow.goesBy Tryz.pinned.checked.prog := by kernel_rfl
theorem c5q3 : Tryz.pinned.checked.prog.wantsStandIn 3 = false := by kernel_rfl
theorem c5q32 : Tryz.pinned.checked.prog.wantsStandIn 32 = false := by kernel_rfl
theorem flat3 : flatK Tryz.prog 10 3 = some [.int .i64] := by kernel_rfl
theorem cells3 : Tryz.prog.cellsOf 3 = 1 := by kernel_rfl
end Go.Proofs.YtegeiefgjngihaaGreatDoor.pipeOrder
