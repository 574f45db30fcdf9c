/- More closed facts of the row and of the program. -/
import Derived.Test.YtcappdnmmmhgkaaGreatDoorRows
import Derived.Test.YtcappdnmmmhgkaaGreatDoorCards
import Derived.SevenTiedAt
import Derived.KernelRfl
import Derived.Test.YtcappdnmmmhgkaaGreatDoorVSeatKids
set_option linter.all false
namespace Go.Proofs.YtcappdnmmmhgkaaGreatDoor.tableDict
open Go.Vsx
set_option maxRecDepth 100000
theorem c0 : Rows.tableDictRow.wfByText (OpenSpec.ofChange Rows.tableDictSpec) = true := by kernel_rfl
theorem c1 : Tryz.pinned.checked.prog.mainIs = some ((true, "87210d6b365b4baecc2c792fb391fe0e192b8167822dce4fdb34bf01f11094ce").1, (true, "87210d6b365b4baecc2c792fb391fe0e192b8167822dce4fdb34bf01f11094ce").2.toList) := by kernel_rfl
theorem c2 : Tryz.prog.funcNamed Rows.tableDictRow.func = some 3 := by kernel_rfl
theorem c3 : true = Tryz.pinned.checked.prog.looks [] := by kernel_rfl
theorem c4 : false = Rows.tableDictRow.goesBy Tryz.pinned.checked.prog := by kernel_rfl
theorem c5q3 : Tryz.pinned.checked.prog.wantsStandIn 3 = false := by kernel_rfl
theorem c5q22 : Tryz.pinned.checked.prog.wantsStandIn 22 = false := by kernel_rfl
theorem c5q23 : Tryz.pinned.checked.prog.wantsStandIn 23 = false := by kernel_rfl
theorem flat2 : flatK Tryz.prog 10 2 = some [.int .i64] := by kernel_rfl
theorem cells2 : Tryz.prog.cellsOf 2 = 1 := by kernel_rfl
theorem flat4 : flatK Tryz.prog 10 4 = some [.bool] := by kernel_rfl
theorem cells4 : Tryz.prog.cellsOf 4 = 1 := by kernel_rfl
end Go.Proofs.YtcappdnmmmhgkaaGreatDoor.tableDict
