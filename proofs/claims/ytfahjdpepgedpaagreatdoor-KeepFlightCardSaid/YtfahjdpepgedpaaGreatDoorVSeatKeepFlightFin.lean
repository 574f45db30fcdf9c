/- More closed facts of the row and of the program. -/
import Derived.Test.YtfahjdpepgedpaaGreatDoorRows
import Derived.Test.YtfahjdpepgedpaaGreatDoorCards
import Derived.SevenTiedAt
import Derived.KernelRfl
import Derived.Test.YtfahjdpepgedpaaGreatDoorVSeatKids
set_option linter.all false
namespace Go.Proofs.YtfahjdpepgedpaaGreatDoor.keepFlight
open Go.Vsx
set_option maxRecDepth 100000
theorem c0 : Rows.keepFlightRow.wfByText (OpenSpec.ofChange Rows.keepFlightSpec) = true := by kernel_rfl
theorem c1 : Tryz.pinned.checked.prog.mainIs = some ((true, "fc5a9860ad75973ae2a0edacfdcd27f2729fda790623de60f2da3348ce25d459").1, (true, "fc5a9860ad75973ae2a0edacfdcd27f2729fda790623de60f2da3348ce25d459").2.toList) := by kernel_rfl
theorem c2 : Tryz.prog.funcNamed Rows.keepFlightRow.func = some 3 := by kernel_rfl
theorem c3 : true = Tryz.pinned.checked.prog.looks [] := by kernel_rfl
theorem c4 : false = Rows.keepFlightRow.goesBy Tryz.pinned.checked.prog := by kernel_rfl
theorem c5q3 : Tryz.pinned.checked.prog.wantsStandIn 3 = false := by kernel_rfl
theorem c5q22 : Tryz.pinned.checked.prog.wantsStandIn 22 = false := by kernel_rfl
theorem flat9 : flatK Tryz.prog 10 9 = some [.string] := by kernel_rfl
theorem cells9 : Tryz.prog.cellsOf 9 = 1 := by kernel_rfl
end Go.Proofs.YtfahjdpepgedpaaGreatDoor.keepFlight
