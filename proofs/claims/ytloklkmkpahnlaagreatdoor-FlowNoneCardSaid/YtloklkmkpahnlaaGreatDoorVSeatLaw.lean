/- The law, answered by the executor. No conditions. -/
import Derived.Test.YtloklkmkpahnlaaGreatDoorVSeatRun4
set_option linter.all false
namespace Go.Proofs
open Go Go.Vsx
set_option maxRecDepth 1000000
noncomputable section
theorem Tryz.run3 : answers (fCall Tryz.E4 100000 3 [] (firstHeap 8 Tryz.gsL)) true = true := by kernel_rfl
end
end Go.Proofs
