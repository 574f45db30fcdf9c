/- The law's runs, answered by the executor. No conditions. -/
import Derived.Test.YtjfjhmdhchjjdaaGreatDoorVSeatBaseNumbersNd
set_option linter.all false
namespace Go.Proofs
open Go Go.Vsx
set_option maxRecDepth 1000000
theorem Zw.r1_1_true : Zw.fin (Zw.T 1 1 true) = true := by kernel_rfl
theorem Zw.r1_3_true : Zw.fin (Zw.T 1 3 true) = true := by kernel_rfl
theorem Zw.r1_5_true : Zw.fin (Zw.T 1 5 true) = true := by kernel_rfl
theorem Zw.r1_7_true : Zw.fin (Zw.T 1 7 true) = true := by kernel_rfl
theorem Zw.r1_9_true : Zw.fin (Zw.T 1 9 true) = true := by kernel_rfl
theorem Zw.r2_1_true : Zw.fin (Zw.T 2 1 true) = true := by kernel_rfl
theorem Zw.r2_3_true : Zw.fin (Zw.T 2 3 true) = true := by kernel_rfl
theorem Zw.r2_5_true : Zw.fin (Zw.T 2 5 true) = true := by kernel_rfl
theorem Zw.r2_7_true : Zw.fin (Zw.T 2 7 true) = true := by kernel_rfl
theorem Zw.r2_9_true : Zw.fin (Zw.T 2 9 true) = true := by kernel_rfl
end Go.Proofs
