/- More closed facts of the row and of the program. -/
import Derived.Test.YtcobhgpjdlgckaaGreatDoorRows
import Derived.Test.YtcobhgpjdlgckaaGreatDoorCards
import Derived.SevenTiedAt
import Derived.KernelRfl
import Derived.Test.YtcobhgpjdlgckaaGreatDoorVSeatKids
set_option linter.all false
namespace Go.Proofs.YtcobhgpjdlgckaaGreatDoor.sinkTwice
open Go.Vsx
set_option maxRecDepth 100000
theorem c0 : Rows.sinkTwiceRow.wfByText (OpenSpec.ofChange Rows.sinkTwiceSpec) = true := by kernel_rfl
theorem c1 : Tryz.pinned.checked.prog.mainIs = some ((true, "0d1ca2e5bef38cfdb180b36a4fe34262b43cbd571c4c4119a82a9a6803172c7d").1, (true, "0d1ca2e5bef38cfdb180b36a4fe34262b43cbd571c4c4119a82a9a6803172c7d").2.toList) := by kernel_rfl
theorem c2 : Tryz.prog.funcNamed Rows.sinkTwiceRow.func = some 7 := by kernel_rfl
theorem c3 : true = Tryz.pinned.checked.prog.looks [] := by kernel_rfl
theorem c4 : false = Rows.sinkTwiceRow.goesBy Tryz.pinned.checked.prog := by kernel_rfl
theorem c5q3 : Tryz.pinned.checked.prog.wantsStandIn 3 = false := by kernel_rfl
theorem c5q58 : Tryz.pinned.checked.prog.wantsStandIn 58 = false := by kernel_rfl
theorem flat2 : flatK Tryz.prog 10 2 = some [.int .i64] := by kernel_rfl
theorem cells2 : Tryz.prog.cellsOf 2 = 1 := by kernel_rfl
end Go.Proofs.YtcobhgpjdlgckaaGreatDoor.sinkTwice
