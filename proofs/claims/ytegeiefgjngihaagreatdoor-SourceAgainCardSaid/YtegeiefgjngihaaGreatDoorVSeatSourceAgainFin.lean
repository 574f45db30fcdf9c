/- More closed facts of the row and of the program. -/
import Derived.Test.YtegeiefgjngihaaGreatDoorRows
import Derived.Test.YtegeiefgjngihaaGreatDoorCards
import Derived.SevenTiedAt
import Derived.KernelRfl
import Derived.Test.YtegeiefgjngihaaGreatDoorVSeatKids
set_option linter.all false
namespace Go.Proofs.YtegeiefgjngihaaGreatDoor.sourceAgain
open Go.Vsx
set_option maxRecDepth 100000
theorem c0 : Rows.sourceAgainRow.wfByText (OpenSpec.ofChange Rows.sourceAgainSpec) = true := by kernel_rfl
theorem c1 : Tryz.pinned.checked.prog.mainIs = some ((true, "6cde06d2bceaec5ef3cd5acca75eae9ce2964d7918294f22d86be2ca4e78fa8b").1, (true, "6cde06d2bceaec5ef3cd5acca75eae9ce2964d7918294f22d86be2ca4e78fa8b").2.toList) := by kernel_rfl
theorem c2 : Tryz.prog.funcNamed Rows.sourceAgainRow.func = some 6 := by kernel_rfl
theorem c3 : true = Tryz.pinned.checked.prog.looks [] := by kernel_rfl
theorem c4 : false = Rows.sourceAgainRow.goesBy Tryz.pinned.checked.prog := by kernel_rfl
theorem c5q3 : Tryz.pinned.checked.prog.wantsStandIn 3 = false := by kernel_rfl
theorem c5q22 : Tryz.pinned.checked.prog.wantsStandIn 22 = false := by kernel_rfl
theorem flat25 : flatK Tryz.prog 10 25 = some [.int .i64, .int .i64, .int .i64] := by kernel_rfl
theorem cells25 : Tryz.prog.cellsOf 25 = 3 := by kernel_rfl
end Go.Proofs.YtegeiefgjngihaaGreatDoor.sourceAgain
