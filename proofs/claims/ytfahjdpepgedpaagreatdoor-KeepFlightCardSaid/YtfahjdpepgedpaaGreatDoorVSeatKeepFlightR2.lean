/- Pieces of the law's run, from node to node, answered by the executor. No conditions. -/
import Derived.Test.YtfahjdpepgedpaaGreatDoorVSeatKeepFlightNd
set_option linter.all false
namespace Go.Proofs
open Go Go.Vsx
set_option maxRecDepth 1000000
theorem Zw.rN0 : Zw.fN 0 = true := by kernel_rfl
theorem Zw.rN1 : Zw.fN 1 = true := by kernel_rfl
theorem Zw.rN2 : Zw.fN 2 = true := by kernel_rfl
theorem Zw.rN3 : Zw.fN 3 = true := by kernel_rfl
theorem Zw.rN4 : Zw.fN 4 = true := by kernel_rfl
theorem Zw.rN5 : Zw.fN 5 = true := by kernel_rfl
theorem Zw.rN6 : Zw.fN 6 = true := by kernel_rfl
theorem Zw.rN7 : Zw.fN 7 = true := by kernel_rfl
theorem Zw.rE8_0_0 : (List.range 8).map (Zw.fE 8 0 0) = List.replicate 8 true := by kernel_rfl
theorem Zw.rE8_0_2 : (List.range 8).map (Zw.fE 8 0 2) = List.replicate 8 true := by kernel_rfl
theorem Zw.rE8_0_4 : (List.range 8).map (Zw.fE 8 0 4) = List.replicate 8 true := by kernel_rfl
theorem Zw.rE8_0_6 : (List.range 8).map (Zw.fE 8 0 6) = List.replicate 8 true := by kernel_rfl
theorem Zw.rE8_1_0 : (List.range 8).map (Zw.fE 8 1 0) = List.replicate 8 true := by kernel_rfl
theorem Zw.rE8_1_2 : (List.range 8).map (Zw.fE 8 1 2) = List.replicate 8 true := by kernel_rfl
theorem Zw.rE8_1_4 : (List.range 8).map (Zw.fE 8 1 4) = List.replicate 8 true := by kernel_rfl
theorem Zw.rE8_1_6 : (List.range 8).map (Zw.fE 8 1 6) = List.replicate 8 true := by kernel_rfl
theorem Zw.rE7_0_0 : (List.range 7).map (Zw.fE 7 0 0) = List.replicate 7 true := by kernel_rfl
theorem Zw.rE7_0_2 : (List.range 7).map (Zw.fE 7 0 2) = List.replicate 7 true := by kernel_rfl
theorem Zw.rE7_0_4 : (List.range 7).map (Zw.fE 7 0 4) = List.replicate 7 true := by kernel_rfl
theorem Zw.rE7_0_6 : (List.range 7).map (Zw.fE 7 0 6) = List.replicate 7 true := by kernel_rfl
theorem Zw.rE7_1_1 : (List.range 7).map (Zw.fE 7 1 1) = List.replicate 7 true := by kernel_rfl
theorem Zw.rE7_1_3 : (List.range 7).map (Zw.fE 7 1 3) = List.replicate 7 true := by kernel_rfl
theorem Zw.rE7_1_5 : (List.range 7).map (Zw.fE 7 1 5) = List.replicate 7 true := by kernel_rfl
theorem Zw.rE6_0_0 : (List.range 6).map (Zw.fE 6 0 0) = List.replicate 6 true := by kernel_rfl
theorem Zw.rE6_0_2 : (List.range 6).map (Zw.fE 6 0 2) = List.replicate 6 true := by kernel_rfl
theorem Zw.rE6_0_4 : (List.range 6).map (Zw.fE 6 0 4) = List.replicate 6 true := by kernel_rfl
theorem Zw.rE6_1_0 : (List.range 6).map (Zw.fE 6 1 0) = List.replicate 6 true := by kernel_rfl
theorem Zw.rE6_1_2 : (List.range 6).map (Zw.fE 6 1 2) = List.replicate 6 true := by kernel_rfl
theorem Zw.rE6_1_4 : (List.range 6).map (Zw.fE 6 1 4) = List.replicate 6 true := by kernel_rfl
theorem Zw.rE5_0_0 : (List.range 5).map (Zw.fE 5 0 0) = List.replicate 5 true := by kernel_rfl
theorem Zw.rE5_0_2 : (List.range 5).map (Zw.fE 5 0 2) = List.replicate 5 true := by kernel_rfl
theorem Zw.rE5_0_4 : (List.range 5).map (Zw.fE 5 0 4) = List.replicate 5 true := by kernel_rfl
theorem Zw.rE5_1_1 : (List.range 5).map (Zw.fE 5 1 1) = List.replicate 5 true := by kernel_rfl
theorem Zw.rE5_1_3 : (List.range 5).map (Zw.fE 5 1 3) = List.replicate 5 true := by kernel_rfl
theorem Zw.rE4_0_0 : (List.range 4).map (Zw.fE 4 0 0) = List.replicate 4 true := by kernel_rfl
theorem Zw.rE4_0_2 : (List.range 4).map (Zw.fE 4 0 2) = List.replicate 4 true := by kernel_rfl
theorem Zw.rE4_1_0 : (List.range 4).map (Zw.fE 4 1 0) = List.replicate 4 true := by kernel_rfl
theorem Zw.rE4_1_2 : (List.range 4).map (Zw.fE 4 1 2) = List.replicate 4 true := by kernel_rfl
theorem Zw.rE3_0_0 : (List.range 3).map (Zw.fE 3 0 0) = List.replicate 3 true := by kernel_rfl
theorem Zw.rE3_0_2 : (List.range 3).map (Zw.fE 3 0 2) = List.replicate 3 true := by kernel_rfl
theorem Zw.rE3_1_1 : (List.range 3).map (Zw.fE 3 1 1) = List.replicate 3 true := by kernel_rfl
theorem Zw.rE2_0_0 : (List.range 2).map (Zw.fE 2 0 0) = List.replicate 2 true := by kernel_rfl
theorem Zw.rE2_1_0 : (List.range 2).map (Zw.fE 2 1 0) = List.replicate 2 true := by kernel_rfl
theorem Zw.rE1_0_0 : (List.range 1).map (Zw.fE 1 0 0) = List.replicate 1 true := by kernel_rfl
theorem Zw.rE0_0_0 : (List.range 1).map (Zw.fE 0 0 0) = List.replicate 1 true := by kernel_rfl
theorem Zw.rE0_1_0 : (List.range 1).map (Zw.fE 0 1 0) = List.replicate 1 true := by kernel_rfl
theorem Zw.rP0 : (List.range 1).map (Zw.LP 0) = List.replicate 1 (some Zw.p0) := by kernel_rfl
theorem Zw.rI1 : (List.range 1).map (Zw.LI 1) = List.replicate 1 (some Zw.p0) := by kernel_rfl
theorem Zw.rI2 : (List.range 2).map (Zw.LI 2) = List.replicate 2 (some Zw.p0) := by kernel_rfl
theorem Zw.rI3 : (List.range 3).map (Zw.LI 3) = List.replicate 3 (some Zw.p0) := by kernel_rfl
theorem Zw.rI4 : (List.range 4).map (Zw.LI 4) = List.replicate 4 (some Zw.p0) := by kernel_rfl
theorem Zw.rI5 : (List.range 5).map (Zw.LI 5) = List.replicate 5 (some Zw.p0) := by kernel_rfl
theorem Zw.rI6 : (List.range 6).map (Zw.LI 6) = List.replicate 6 (some Zw.p0) := by kernel_rfl
theorem Zw.rI7 : (List.range 7).map (Zw.LI 7) = List.replicate 7 (some Zw.p0) := by kernel_rfl
end Go.Proofs
