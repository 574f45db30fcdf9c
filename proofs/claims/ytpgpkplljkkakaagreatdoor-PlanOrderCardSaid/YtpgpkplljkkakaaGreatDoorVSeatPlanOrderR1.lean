/- The law's runs, answered by the executor. No conditions. -/
import Derived.Test.YtpgpkplljkkakaaGreatDoorVSeatPlanOrderNd
set_option linter.all false
namespace Go.Proofs
open Go Go.Vsx
set_option maxRecDepth 1000000
theorem Zw.i0 : Zw.d0.sub 8 [] (idl 8 Zw.d0.objs) (idA 5) (Zw.d0.st 8 []) = true := by kernel_rfl
theorem Zw.r0 : Zw.fin (Zw.T false) = true := by kernel_rfl
theorem Zw.r1 : Zw.fin (Zw.T true) = true := by kernel_rfl
end Go.Proofs
