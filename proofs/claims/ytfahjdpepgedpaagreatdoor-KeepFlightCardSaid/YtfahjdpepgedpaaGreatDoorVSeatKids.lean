/- What the program's table of types says of the types in them. No conditions. -/
import Derived.Test.YtfahjdpepgedpaaGreatDoorVClose
import Derived.ReadAgain
import Derived.Test.YtfahjdpepgedpaaGreatDoorProg
import Derived.KernelRfl
set_option linter.all false
namespace Go.Proofs
open Go
set_option maxRecDepth 1000000
theorem Tryz.kids : Kids Tryz.prog (· < Tryz.prog.types.size) := kids_rows (by kernel_rfl) (by kernel_rfl)
theorem Tryz.full : ∀ t e, t < Tryz.prog.types.size → Tryz.prog.underlying t = some (.slice e) → 0 < Tryz.prog.cellsOf e := slices_full_of Tryz.prog (by kernel_rfl)
theorem Tryz.nty : Tryz.prog.types.size = 407 := by kernel_rfl
end Go.Proofs
