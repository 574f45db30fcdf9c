/- More closed facts of the row and of the program. -/
import Derived.Test.YtjfjhmdhchjjdaaGreatDoorRows
import Derived.Test.YtjfjhmdhchjjdaaGreatDoorCards
import Derived.SevenTiedAt
import Derived.KernelRfl
import Derived.Test.YtjfjhmdhchjjdaaGreatDoorVSeatKids
set_option linter.all false
namespace Go.Proofs.YtjfjhmdhchjjdaaGreatDoor.baseNumbers
open Go.Vsx
set_option maxRecDepth 100000
theorem c0 : Rows.baseNumbersRow.wfByText (OpenSpec.ofChange Rows.baseNumbersSpec) = true := by kernel_rfl
theorem c1 : Tryz.pinned.checked.prog.mainIs = some ((true, "f7bfd25fdd775d0723a8df143983a996014d21444bc859a5b4fe8ebe6e45e096").1, (true, "f7bfd25fdd775d0723a8df143983a996014d21444bc859a5b4fe8ebe6e45e096").2.toList) := by kernel_rfl
theorem c2 : Tryz.prog.funcNamed Rows.baseNumbersRow.func = some 7 := by kernel_rfl
theorem c3 : true = Tryz.pinned.checked.prog.looks [] := by kernel_rfl
theorem c4 : false = Rows.baseNumbersRow.goesBy Tryz.pinned.checked.prog := by kernel_rfl
theorem c5q2 : Tryz.pinned.checked.prog.wantsStandIn 2 = false := by kernel_rfl
theorem c5q3 : Tryz.pinned.checked.prog.wantsStandIn 3 = false := by kernel_rfl
end Go.Proofs.YtjfjhmdhchjjdaaGreatDoor.baseNumbers
