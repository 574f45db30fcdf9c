/- The law's runs, answered by the executor. No conditions. -/
import Derived.Test.YtjfjhmdhchjjdaaGreatDoorVSeatBaseNumbersNd
set_option linter.all false
namespace Go.Proofs
open Go Go.Vsx
set_option maxRecDepth 1000000
theorem Zw.r1_2_true : Zw.fin (Zw.T 1 2 true) = true := by kernel_rfl
theorem Zw.r1_4_true : Zw.fin (Zw.T 1 4 true) = true := by kernel_rfl
theorem Zw.r1_6_true : Zw.fin (Zw.T 1 6 true) = true := by kernel_rfl
theorem Zw.r1_8_true : Zw.fin (Zw.T 1 8 true) = true := by kernel_rfl
theorem Zw.r1_10_true : Zw.fin (Zw.T 1 10 true) = true := by kernel_rfl
theorem Zw.r2_2_true : Zw.fin (Zw.T 2 2 true) = true := by kernel_rfl
theorem Zw.r2_4_true : Zw.fin (Zw.T 2 4 true) = true := by kernel_rfl
theorem Zw.r2_6_true : Zw.fin (Zw.T 2 6 true) = true := by kernel_rfl
theorem Zw.r2_8_true : Zw.fin (Zw.T 2 8 true) = true := by kernel_rfl
theorem Zw.r2_10_true : Zw.fin (Zw.T 2 10 true) = true := by kernel_rfl
end Go.Proofs
