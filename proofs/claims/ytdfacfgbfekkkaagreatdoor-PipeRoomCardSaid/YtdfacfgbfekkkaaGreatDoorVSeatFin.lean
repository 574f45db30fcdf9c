/- More closed facts of the row and of the program. -/
import Derived.Test.YtdfacfgbfekkkaaGreatDoorRows
import Derived.Test.YtdfacfgbfekkkaaGreatDoorCards
import Derived.SevenTiedAt
import Derived.KernelRfl
set_option linter.all false
namespace Go.Proofs.YtdfacfgbfekkkaaGreatDoor.pipeRoom
set_option maxRecDepth 100000
theorem c0 : Rows.pipeRoomRow.wfByText (OpenSpec.ofChange Rows.pipeRoomSpec) = true := by kernel_rfl
theorem c1 : Tryz.pinned.checked.prog.mainIs = some ((true, "1ddd75a8136460b2c830d826cc768b367a7dc7626410c9d6f73d6f0dfa181c61").1, (true, "1ddd75a8136460b2c830d826cc768b367a7dc7626410c9d6f73d6f0dfa181c61").2.toList) := by kernel_rfl
theorem c2 : Tryz.prog.funcNamed Rows.pipeRoomRow.func = some 3 := by kernel_rfl
theorem c3 : true = Tryz.pinned.checked.prog.looks [] := by kernel_rfl
theorem c4 : false = Rows.pipeRoomRow.goesBy Tryz.pinned.checked.prog := by kernel_rfl
theorem c5 : Tryz.pinned.checked.prog.wantsStandIn 3 = false := by kernel_rfl
end Go.Proofs.YtdfacfgbfekkkaaGreatDoor.pipeRoom
