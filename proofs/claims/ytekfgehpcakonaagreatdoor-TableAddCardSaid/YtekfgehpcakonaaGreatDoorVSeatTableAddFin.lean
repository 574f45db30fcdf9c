/- More closed facts of the row and of the program. -/
import Derived.Test.YtekfgehpcakonaaGreatDoorRows
import Derived.Test.YtekfgehpcakonaaGreatDoorCards
import Derived.SevenTiedAt
import Derived.KernelRfl
import Derived.Test.YtekfgehpcakonaaGreatDoorVSeatKids
set_option linter.all false
namespace Go.Proofs.YtekfgehpcakonaaGreatDoor.tableAdd
open Go.Vsx
set_option maxRecDepth 100000
theorem c0 : Rows.tableAddRow.wfByText (OpenSpec.ofChange Rows.tableAddSpec) = true := by kernel_rfl
theorem c1 : Tryz.pinned.checked.prog.mainIs = some ((true, "77f1f22279c9ba0ba4ead9df8be7d3683d7d4bb624d03cd52bcd4663d5903bd6").1, (true, "77f1f22279c9ba0ba4ead9df8be7d3683d7d4bb624d03cd52bcd4663d5903bd6").2.toList) := by kernel_rfl
theorem c2 : Tryz.prog.funcNamed Rows.tableAddRow.func = some 3 := by kernel_rfl
theorem c3 : true = Tryz.pinned.checked.prog.looks [] := by kernel_rfl
theorem c4 : false = Rows.tableAddRow.goesBy Tryz.pinned.checked.prog := by kernel_rfl
theorem c5q3 : Tryz.pinned.checked.prog.wantsStandIn 3 = false := by kernel_rfl
theorem c5q22 : Tryz.pinned.checked.prog.wantsStandIn 22 = false := by kernel_rfl
theorem flat2 : flatK Tryz.prog 10 2 = some [.int .i64] := by kernel_rfl
theorem cells2 : Tryz.prog.cellsOf 2 = 1 := by kernel_rfl
end Go.Proofs.YtekfgehpcakonaaGreatDoor.tableAdd
