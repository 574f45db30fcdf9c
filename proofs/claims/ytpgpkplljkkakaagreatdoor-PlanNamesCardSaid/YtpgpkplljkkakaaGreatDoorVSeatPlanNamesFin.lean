/- More closed facts of the row and of the program. -/
import Derived.Test.YtpgpkplljkkakaaGreatDoorRows
import Derived.Test.YtpgpkplljkkakaaGreatDoorCards
import Derived.SevenTiedAt
import Derived.KernelRfl
import Derived.Test.YtpgpkplljkkakaaGreatDoorVSeatKids
set_option linter.all false
namespace Go.Proofs.YtpgpkplljkkakaaGreatDoor.planNames
open Go.Vsx
set_option maxRecDepth 100000
theorem c0 : Rows.planNamesRow.wfByText (OpenSpec.ofChange Rows.planNamesSpec) = true := by kernel_rfl
theorem c1 : Tryz.pinned.checked.prog.mainIs = some ((true, "cd2410fd01ec86336f096e202a946355dfb5fcef80c20f55917d63cdab3df912").1, (true, "cd2410fd01ec86336f096e202a946355dfb5fcef80c20f55917d63cdab3df912").2.toList) := by kernel_rfl
theorem c2 : Tryz.prog.funcNamed Rows.planNamesRow.func = some 5 := by kernel_rfl
theorem c3 : true = Tryz.pinned.checked.prog.looks [] := by kernel_rfl
theorem c4 : false = Rows.planNamesRow.goesBy Tryz.pinned.checked.prog := by kernel_rfl
theorem c5q3 : Tryz.pinned.checked.prog.wantsStandIn 3 = false := by kernel_rfl
theorem c5q9 : Tryz.pinned.checked.prog.wantsStandIn 9 = false := by kernel_rfl
end Go.Proofs.YtpgpkplljkkakaaGreatDoor.planNames
