/- The law's runs, answered by the executor. No conditions. -/
import Derived.Test.YtjfjhmdhchjjdaaGreatDoorVSeatBaseNumbersNd
set_option linter.all false
namespace Go.Proofs
open Go Go.Vsx
set_option maxRecDepth 1000000
theorem Zw.r0 : Zw.fin Zw.e0 = true := by kernel_rfl
theorem Zw.r1 : Zw.fin Zw.e1 = true := by kernel_rfl
theorem Zw.i0 : Zw.d0.sub 8 [] (idl 8 Zw.d0.objs) (idA 2) (Zw.d0.st 8 []) = true := by kernel_rfl
theorem Zw.c1_1 : Zw.chkN 1 1 = true := by kernel_rfl
theorem Zw.r1_1_false : Zw.fin (Zw.T 1 1 false) = true := by kernel_rfl
theorem Zw.c1_2 : Zw.chkN 1 2 = true := by kernel_rfl
theorem Zw.c1_3 : Zw.chkN 1 3 = true := by kernel_rfl
theorem Zw.r1_3_false : Zw.fin (Zw.T 1 3 false) = true := by kernel_rfl
theorem Zw.c1_4 : Zw.chkN 1 4 = true := by kernel_rfl
theorem Zw.c1_5 : Zw.chkN 1 5 = true := by kernel_rfl
theorem Zw.r1_5_false : Zw.fin (Zw.T 1 5 false) = true := by kernel_rfl
theorem Zw.c1_6 : Zw.chkN 1 6 = true := by kernel_rfl
theorem Zw.c1_7 : Zw.chkN 1 7 = true := by kernel_rfl
theorem Zw.r1_7_false : Zw.fin (Zw.T 1 7 false) = true := by kernel_rfl
theorem Zw.c1_8 : Zw.chkN 1 8 = true := by kernel_rfl
theorem Zw.c1_9 : Zw.chkN 1 9 = true := by kernel_rfl
theorem Zw.r1_9_false : Zw.fin (Zw.T 1 9 false) = true := by kernel_rfl
theorem Zw.c1_10 : Zw.chkN 1 10 = true := by kernel_rfl
theorem Zw.c2_1 : Zw.chkN 2 1 = true := by kernel_rfl
theorem Zw.r2_1_false : Zw.fin (Zw.T 2 1 false) = true := by kernel_rfl
theorem Zw.c2_2 : Zw.chkN 2 2 = true := by kernel_rfl
theorem Zw.c2_3 : Zw.chkN 2 3 = true := by kernel_rfl
theorem Zw.r2_3_false : Zw.fin (Zw.T 2 3 false) = true := by kernel_rfl
theorem Zw.c2_4 : Zw.chkN 2 4 = true := by kernel_rfl
theorem Zw.c2_5 : Zw.chkN 2 5 = true := by kernel_rfl
theorem Zw.r2_5_false : Zw.fin (Zw.T 2 5 false) = true := by kernel_rfl
theorem Zw.c2_6 : Zw.chkN 2 6 = true := by kernel_rfl
theorem Zw.c2_7 : Zw.chkN 2 7 = true := by kernel_rfl
theorem Zw.r2_7_false : Zw.fin (Zw.T 2 7 false) = true := by kernel_rfl
theorem Zw.c2_8 : Zw.chkN 2 8 = true := by kernel_rfl
theorem Zw.c2_9 : Zw.chkN 2 9 = true := by kernel_rfl
theorem Zw.r2_9_false : Zw.fin (Zw.T 2 9 false) = true := by kernel_rfl
theorem Zw.c2_10 : Zw.chkN 2 10 = true := by kernel_rfl
end Go.Proofs
