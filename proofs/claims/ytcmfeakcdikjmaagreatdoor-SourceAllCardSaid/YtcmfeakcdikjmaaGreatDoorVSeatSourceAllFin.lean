/- More closed facts of the row and of the program. -/
import Derived.Test.YtcmfeakcdikjmaaGreatDoorRows
import Derived.Test.YtcmfeakcdikjmaaGreatDoorCards
import Derived.SevenTiedAt
import Derived.KernelRfl
import Derived.Test.YtcmfeakcdikjmaaGreatDoorVSeatKids
set_option linter.all false
namespace Go.Proofs.YtcmfeakcdikjmaaGreatDoor.sourceAll
open Go.Vsx
set_option maxRecDepth 100000
theorem c0 : Rows.sourceAllRow.wfByText (OpenSpec.ofChange Rows.sourceAllSpec) = true := by kernel_rfl
theorem c1 : Tryz.pinned.checked.prog.mainIs = some ((true, "4e7b4c687bccaa8cd60434fd3dd49deee7be3151ba1531784cd7d02c650900de").1, (true, "4e7b4c687bccaa8cd60434fd3dd49deee7be3151ba1531784cd7d02c650900de").2.toList) := by kernel_rfl
theorem c2 : Tryz.prog.funcNamed Rows.sourceAllRow.func = some 3 := by kernel_rfl
theorem c3 : true = Tryz.pinned.checked.prog.looks [] := by kernel_rfl
theorem c4 : false = Rows.sourceAllRow.goesBy Tryz.pinned.checked.prog := by kernel_rfl
theorem c5q22 : Tryz.pinned.checked.prog.wantsStandIn 22 = false := by kernel_rfl
theorem c5q23 : Tryz.pinned.checked.prog.wantsStandIn 23 = false := by kernel_rfl
theorem flat29 : flatK Tryz.prog 10 29 = some [.int .i64, .int .i64, .int .i64] := by kernel_rfl
theorem cells29 : Tryz.prog.cellsOf 29 = 3 := by kernel_rfl
theorem flat31 : flatK Tryz.prog 10 31 = some [.int .i64, .int .i64] := by kernel_rfl
theorem cells31 : Tryz.prog.cellsOf 31 = 2 := by kernel_rfl
end Go.Proofs.YtcmfeakcdikjmaaGreatDoor.sourceAll
