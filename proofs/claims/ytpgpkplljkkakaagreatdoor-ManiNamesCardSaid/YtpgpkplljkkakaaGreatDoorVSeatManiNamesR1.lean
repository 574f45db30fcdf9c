/- The law's runs, answered by the executor. No conditions. -/
import Derived.Test.YtpgpkplljkkakaaGreatDoorVSeatManiNamesNd
set_option linter.all false
namespace Go.Proofs
open Go Go.Vsx
set_option maxRecDepth 1000000
theorem Zw.i0 : Zw.d0.sub 8 [] (idl 8 Zw.d0.objs) (idA 2) (Zw.d0.st 8 []) = true := by kernel_rfl
theorem Zw.r00 : Zw.fin (Zw.T 0 0 []) = true := by kernel_rfl
theorem Zw.r01 : Zw.fin (Zw.T 0 1 []) = true := by kernel_rfl
theorem Zw.r02 : Zw.fin (Zw.T 0 2 []) = true := by kernel_rfl
theorem Zw.r10 : Zw.fin (Zw.T 1 0 []) = true := by kernel_rfl
theorem Zw.r11 : Zw.fin (Zw.T 1 1 []) = true := by kernel_rfl
theorem Zw.r12 : Zw.fin (Zw.T 1 2 []) = true := by kernel_rfl
theorem Zw.r20 : Zw.fin (Zw.T 2 0 Zw.rf) = true := by kernel_rfl
theorem Zw.r21 : Zw.fin (Zw.T 2 1 Zw.rf) = true := by kernel_rfl
theorem Zw.r220 : Zw.fin (Zw.T 2 2 (Zw.rf ++ Zw.cmp true false)) = true := by kernel_rfl
theorem Zw.r221 : Zw.fin (Zw.T 2 2 (Zw.rf ++ Zw.cmp false true)) = true := by kernel_rfl
theorem Zw.r222 : Zw.fin (Zw.T 2 2 (Zw.rf ++ Zw.cmp false false)) = true := by kernel_rfl
end Go.Proofs
