/- The law's runs, answered by the executor. No conditions. -/
import Derived.Test.YtjfjhmdhchjjdaaGreatDoorVSeatBaseNumbersNd
set_option linter.all false
namespace Go.Proofs
open Go Go.Vsx
set_option maxRecDepth 1000000
theorem Zw.r1_2_false : Zw.fin (Zw.T 1 2 false) = true := by kernel_rfl
theorem Zw.r1_4_false : Zw.fin (Zw.T 1 4 false) = true := by kernel_rfl
theorem Zw.r1_6_false : Zw.fin (Zw.T 1 6 false) = true := by kernel_rfl
theorem Zw.r1_8_false : Zw.fin (Zw.T 1 8 false) = true := by kernel_rfl
theorem Zw.r1_10_false : Zw.fin (Zw.T 1 10 false) = true := by kernel_rfl
theorem Zw.r2_2_false : Zw.fin (Zw.T 2 2 false) = true := by kernel_rfl
theorem Zw.r2_4_false : Zw.fin (Zw.T 2 4 false) = true := by kernel_rfl
theorem Zw.r2_6_false : Zw.fin (Zw.T 2 6 false) = true := by kernel_rfl
theorem Zw.r2_8_false : Zw.fin (Zw.T 2 8 false) = true := by kernel_rfl
theorem Zw.r2_10_false : Zw.fin (Zw.T 2 10 false) = true := by kernel_rfl
end Go.Proofs
