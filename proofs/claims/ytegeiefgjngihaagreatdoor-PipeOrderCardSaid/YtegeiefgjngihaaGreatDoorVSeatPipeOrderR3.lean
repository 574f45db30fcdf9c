/- Pieces of the law's run, from node to node, answered by the executor. No conditions. -/
import Derived.Test.YtegeiefgjngihaaGreatDoorVSeatPipeOrderNd
set_option linter.all false
namespace Go.Proofs
open Go Go.Vsx
set_option maxRecDepth 1000000
theorem Zw.r2_1 : (List.range 81).map (fun x => Zw.LP 2 1 (x / 9) (x % 9) 0) = List.replicate 81 (some Zw.p0) := by kernel_rfl
theorem Zw.e3false_0 : (List.range 81).map (fun x => Zw.LE 3 false 0 (x / 9) (x % 9)) = List.replicate 81 (some Zw.p2) := by kernel_rfl
theorem Zw.e3true_0 : (List.range 81).map (fun x => Zw.LE 3 true 0 (x / 9) (x % 9)) = List.replicate 81 (some Zw.p2) := by kernel_rfl
theorem Zw.c3_1_0 : Zw.al (fun x => Zw.ck 3 1 0 x) 9 = true := by kernel_rfl
theorem Zw.c3_1_1 : Zw.al (fun x => Zw.ck 3 1 1 x) 9 = true := by kernel_rfl
theorem Zw.c3_1_2 : Zw.al (fun x => Zw.ck 3 1 2 x) 9 = true := by kernel_rfl
theorem Zw.c3_1_3 : Zw.al (fun x => Zw.ck 3 1 3 x) 9 = true := by kernel_rfl
theorem Zw.c3_1_4 : Zw.al (fun x => Zw.ck 3 1 4 x) 9 = true := by kernel_rfl
theorem Zw.c3_1_5 : Zw.al (fun x => Zw.ck 3 1 5 x) 9 = true := by kernel_rfl
theorem Zw.c3_1_6 : Zw.al (fun x => Zw.ck 3 1 6 x) 9 = true := by kernel_rfl
theorem Zw.c3_1_7 : Zw.al (fun x => Zw.ck 3 1 7 x) 9 = true := by kernel_rfl
theorem Zw.c3_1_8 : Zw.al (fun x => Zw.ck 3 1 8 x) 9 = true := by kernel_rfl
theorem Zw.r3_2_1 : (List.range 81).map (fun x => Zw.LP 3 2 1 (x / 9) (x % 9)) = List.replicate 81 (some Zw.p0) := by kernel_rfl
theorem Zw.r3_1_2 : (List.range 81).map (fun x => Zw.LP 3 1 2 (x / 9) (x % 9)) = List.replicate 81 (some Zw.p0) := by kernel_rfl
theorem Zw.r3_0_3 : (List.range 81).map (fun x => Zw.LP 3 0 3 (x / 9) (x % 9)) = List.replicate 81 (some Zw.p0) := by kernel_rfl
theorem Zw.e3false_4 : (List.range 81).map (fun x => Zw.LE 3 false 4 (x / 9) (x % 9)) = List.replicate 81 (some Zw.p2) := by kernel_rfl
theorem Zw.e3true_4 : (List.range 81).map (fun x => Zw.LE 3 true 4 (x / 9) (x % 9)) = List.replicate 81 (some Zw.p2) := by kernel_rfl
theorem Zw.c3_5_0 : Zw.al (fun x => Zw.ck 3 5 0 x) 9 = true := by kernel_rfl
theorem Zw.c3_5_1 : Zw.al (fun x => Zw.ck 3 5 1 x) 9 = true := by kernel_rfl
theorem Zw.c3_5_2 : Zw.al (fun x => Zw.ck 3 5 2 x) 9 = true := by kernel_rfl
theorem Zw.c3_5_3 : Zw.al (fun x => Zw.ck 3 5 3 x) 9 = true := by kernel_rfl
theorem Zw.c3_5_4 : Zw.al (fun x => Zw.ck 3 5 4 x) 9 = true := by kernel_rfl
theorem Zw.c3_5_5 : Zw.al (fun x => Zw.ck 3 5 5 x) 9 = true := by kernel_rfl
theorem Zw.c3_5_6 : Zw.al (fun x => Zw.ck 3 5 6 x) 9 = true := by kernel_rfl
theorem Zw.c3_5_7 : Zw.al (fun x => Zw.ck 3 5 7 x) 9 = true := by kernel_rfl
theorem Zw.c3_5_8 : Zw.al (fun x => Zw.ck 3 5 8 x) 9 = true := by kernel_rfl
theorem Zw.r3_2_5 : (List.range 81).map (fun x => Zw.LP 3 2 5 (x / 9) (x % 9)) = List.replicate 81 (some Zw.p0) := by kernel_rfl
theorem Zw.r3_1_6 : (List.range 81).map (fun x => Zw.LP 3 1 6 (x / 9) (x % 9)) = List.replicate 81 (some Zw.p0) := by kernel_rfl
theorem Zw.r3_0_7 : (List.range 81).map (fun x => Zw.LP 3 0 7 (x / 9) (x % 9)) = List.replicate 81 (some Zw.p0) := by kernel_rfl
theorem Zw.e3false_8 : (List.range 81).map (fun x => Zw.LE 3 false 8 (x / 9) (x % 9)) = List.replicate 81 (some Zw.p2) := by kernel_rfl
theorem Zw.e3true_8 : (List.range 81).map (fun x => Zw.LE 3 true 8 (x / 9) (x % 9)) = List.replicate 81 (some Zw.p2) := by kernel_rfl
end Go.Proofs
