/- More closed facts of the row and of the program. -/
import Derived.Test.YtcobhgpjdlgckaaGreatDoorRows
import Derived.Test.YtcobhgpjdlgckaaGreatDoorCards
import Derived.SevenTiedAt
import Derived.KernelRfl
import Derived.Test.YtcobhgpjdlgckaaGreatDoorVSeatKids
set_option linter.all false
namespace Go.Proofs.YtcobhgpjdlgckaaGreatDoor.chiefOne
open Go.Vsx
set_option maxRecDepth 100000
theorem c0 : Rows.chiefOneRow.wfByText (OpenSpec.ofChange Rows.chiefOneSpec) = true := by kernel_rfl
theorem c1 : Tryz.pinned.checked.prog.mainIs = some ((true, "0d1ca2e5bef38cfdb180b36a4fe34262b43cbd571c4c4119a82a9a6803172c7d").1, (true, "0d1ca2e5bef38cfdb180b36a4fe34262b43cbd571c4c4119a82a9a6803172c7d").2.toList) := by kernel_rfl
theorem c2 : Tryz.prog.funcNamed Rows.chiefOneRow.func = some 3 := by kernel_rfl
theorem c3 : true = Tryz.pinned.checked.prog.looks [] := by kernel_rfl
theorem c4 : false = Rows.chiefOneRow.goesBy Tryz.pinned.checked.prog := by kernel_rfl
theorem c5q3 : Tryz.pinned.checked.prog.wantsStandIn 3 = false := by kernel_rfl
end Go.Proofs.YtcobhgpjdlgckaaGreatDoor.chiefOne
