/- More closed facts of the row and of the program. -/
import Derived.Test.YtloklkmkpahnlaaGreatDoorRows
import Derived.Test.YtloklkmkpahnlaaGreatDoorCards
import Derived.SevenTiedAt
import Derived.KernelRfl
set_option linter.all false
namespace Go.Proofs.YtloklkmkpahnlaaGreatDoor.flowNone
set_option maxRecDepth 100000
theorem c0 : Rows.flowNoneRow.wfByText (OpenSpec.ofChange Rows.flowNoneSpec) = true := by kernel_rfl
theorem c1 : Tryz.pinned.checked.prog.mainIs = some ((true, "1b4aeb19ede7f8dfeff3e50f0184a31602a506600feeaa257210bd8643ab43a3").1, (true, "1b4aeb19ede7f8dfeff3e50f0184a31602a506600feeaa257210bd8643ab43a3").2.toList) := by kernel_rfl
theorem c2 : Tryz.prog.funcNamed Rows.flowNoneRow.func = some 3 := by kernel_rfl
theorem c3 : true = Tryz.pinned.checked.prog.looks [] := by kernel_rfl
theorem c4 : false = Rows.flowNoneRow.goesBy Tryz.pinned.checked.prog := by kernel_rfl
end Go.Proofs.YtloklkmkpahnlaaGreatDoor.flowNone
