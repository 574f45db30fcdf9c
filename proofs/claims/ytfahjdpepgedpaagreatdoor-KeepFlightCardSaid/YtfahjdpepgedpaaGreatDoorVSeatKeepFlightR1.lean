/- Pieces of the law's run, from node to node, answered by the executor. No conditions. -/
import Derived.Test.YtfahjdpepgedpaaGreatDoorVSeatKeepFlightNd
set_option linter.all false
namespace Go.Proofs
open Go Go.Vsx
set_option maxRecDepth 1000000
theorem Zw.rS : Zw.LS = some Zw.p0 := by kernel_rfl
theorem Zw.iS : Zw.d0.sub 8 [] (idl 8 Zw.d0.objs) (idA 2) (Zw.d0.st 8 []) = true := by kernel_rfl
theorem Zw.rhR : (List.range 9).map Zw.hR = List.replicate 9 true := by kernel_rfl
theorem Zw.rhE : (List.range 9).map Zw.hE = List.replicate 9 true := by kernel_rfl
theorem Zw.rE8_0_1 : (List.range 8).map (Zw.fE 8 0 1) = List.replicate 8 true := by kernel_rfl
theorem Zw.rE8_0_3 : (List.range 8).map (Zw.fE 8 0 3) = List.replicate 8 true := by kernel_rfl
theorem Zw.rE8_0_5 : (List.range 8).map (Zw.fE 8 0 5) = List.replicate 8 true := by kernel_rfl
theorem Zw.rE8_0_7 : (List.range 8).map (Zw.fE 8 0 7) = List.replicate 8 true := by kernel_rfl
theorem Zw.rE8_1_1 : (List.range 8).map (Zw.fE 8 1 1) = List.replicate 8 true := by kernel_rfl
theorem Zw.rE8_1_3 : (List.range 8).map (Zw.fE 8 1 3) = List.replicate 8 true := by kernel_rfl
theorem Zw.rE8_1_5 : (List.range 8).map (Zw.fE 8 1 5) = List.replicate 8 true := by kernel_rfl
theorem Zw.rE8_1_7 : (List.range 8).map (Zw.fE 8 1 7) = List.replicate 8 true := by kernel_rfl
theorem Zw.rE7_0_1 : (List.range 7).map (Zw.fE 7 0 1) = List.replicate 7 true := by kernel_rfl
theorem Zw.rE7_0_3 : (List.range 7).map (Zw.fE 7 0 3) = List.replicate 7 true := by kernel_rfl
theorem Zw.rE7_0_5 : (List.range 7).map (Zw.fE 7 0 5) = List.replicate 7 true := by kernel_rfl
theorem Zw.rE7_1_0 : (List.range 7).map (Zw.fE 7 1 0) = List.replicate 7 true := by kernel_rfl
theorem Zw.rE7_1_2 : (List.range 7).map (Zw.fE 7 1 2) = List.replicate 7 true := by kernel_rfl
theorem Zw.rE7_1_4 : (List.range 7).map (Zw.fE 7 1 4) = List.replicate 7 true := by kernel_rfl
theorem Zw.rE7_1_6 : (List.range 7).map (Zw.fE 7 1 6) = List.replicate 7 true := by kernel_rfl
theorem Zw.rE6_0_1 : (List.range 6).map (Zw.fE 6 0 1) = List.replicate 6 true := by kernel_rfl
theorem Zw.rE6_0_3 : (List.range 6).map (Zw.fE 6 0 3) = List.replicate 6 true := by kernel_rfl
theorem Zw.rE6_0_5 : (List.range 6).map (Zw.fE 6 0 5) = List.replicate 6 true := by kernel_rfl
theorem Zw.rE6_1_1 : (List.range 6).map (Zw.fE 6 1 1) = List.replicate 6 true := by kernel_rfl
theorem Zw.rE6_1_3 : (List.range 6).map (Zw.fE 6 1 3) = List.replicate 6 true := by kernel_rfl
theorem Zw.rE6_1_5 : (List.range 6).map (Zw.fE 6 1 5) = List.replicate 6 true := by kernel_rfl
theorem Zw.rE5_0_1 : (List.range 5).map (Zw.fE 5 0 1) = List.replicate 5 true := by kernel_rfl
theorem Zw.rE5_0_3 : (List.range 5).map (Zw.fE 5 0 3) = List.replicate 5 true := by kernel_rfl
theorem Zw.rE5_1_0 : (List.range 5).map (Zw.fE 5 1 0) = List.replicate 5 true := by kernel_rfl
theorem Zw.rE5_1_2 : (List.range 5).map (Zw.fE 5 1 2) = List.replicate 5 true := by kernel_rfl
theorem Zw.rE5_1_4 : (List.range 5).map (Zw.fE 5 1 4) = List.replicate 5 true := by kernel_rfl
theorem Zw.rE4_0_1 : (List.range 4).map (Zw.fE 4 0 1) = List.replicate 4 true := by kernel_rfl
theorem Zw.rE4_0_3 : (List.range 4).map (Zw.fE 4 0 3) = List.replicate 4 true := by kernel_rfl
theorem Zw.rE4_1_1 : (List.range 4).map (Zw.fE 4 1 1) = List.replicate 4 true := by kernel_rfl
theorem Zw.rE4_1_3 : (List.range 4).map (Zw.fE 4 1 3) = List.replicate 4 true := by kernel_rfl
theorem Zw.rE3_0_1 : (List.range 3).map (Zw.fE 3 0 1) = List.replicate 3 true := by kernel_rfl
theorem Zw.rE3_1_0 : (List.range 3).map (Zw.fE 3 1 0) = List.replicate 3 true := by kernel_rfl
theorem Zw.rE3_1_2 : (List.range 3).map (Zw.fE 3 1 2) = List.replicate 3 true := by kernel_rfl
theorem Zw.rE2_0_1 : (List.range 2).map (Zw.fE 2 0 1) = List.replicate 2 true := by kernel_rfl
theorem Zw.rE2_1_1 : (List.range 2).map (Zw.fE 2 1 1) = List.replicate 2 true := by kernel_rfl
theorem Zw.rE1_1_0 : (List.range 1).map (Zw.fE 1 1 0) = List.replicate 1 true := by kernel_rfl
theorem Zw.rP1 : (List.range 2).map (Zw.LP 1) = List.replicate 2 (some Zw.p0) := by kernel_rfl
theorem Zw.rP2 : (List.range 3).map (Zw.LP 2) = List.replicate 3 (some Zw.p0) := by kernel_rfl
theorem Zw.rP3 : (List.range 4).map (Zw.LP 3) = List.replicate 4 (some Zw.p0) := by kernel_rfl
theorem Zw.rP4 : (List.range 5).map (Zw.LP 4) = List.replicate 5 (some Zw.p0) := by kernel_rfl
theorem Zw.rP5 : (List.range 6).map (Zw.LP 5) = List.replicate 6 (some Zw.p0) := by kernel_rfl
theorem Zw.rP6 : (List.range 7).map (Zw.LP 6) = List.replicate 7 (some Zw.p0) := by kernel_rfl
theorem Zw.rP7 : (List.range 8).map (Zw.LP 7) = List.replicate 8 (some Zw.p0) := by kernel_rfl
end Go.Proofs
