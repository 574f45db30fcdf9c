/- Pieces of the law's run, from node to node, answered by the executor. No conditions. -/
import Derived.Test.YtegeiefgjngihaaGreatDoorVSeatPipeOrderNd
set_option linter.all false
namespace Go.Proofs
open Go Go.Vsx
set_option maxRecDepth 1000000
theorem Zw.r2_0 : (List.range 81).map (fun x => Zw.LP 2 0 (x / 9) (x % 9) 0) = List.replicate 81 (some Zw.p0) := by kernel_rfl
theorem Zw.c3_0_0 : Zw.al (fun x => Zw.ck 3 0 0 x) 9 = true := by kernel_rfl
theorem Zw.c3_0_1 : Zw.al (fun x => Zw.ck 3 0 1 x) 9 = true := by kernel_rfl
theorem Zw.c3_0_2 : Zw.al (fun x => Zw.ck 3 0 2 x) 9 = true := by kernel_rfl
theorem Zw.c3_0_3 : Zw.al (fun x => Zw.ck 3 0 3 x) 9 = true := by kernel_rfl
theorem Zw.c3_0_4 : Zw.al (fun x => Zw.ck 3 0 4 x) 9 = true := by kernel_rfl
theorem Zw.c3_0_5 : Zw.al (fun x => Zw.ck 3 0 5 x) 9 = true := by kernel_rfl
theorem Zw.c3_0_6 : Zw.al (fun x => Zw.ck 3 0 6 x) 9 = true := by kernel_rfl
theorem Zw.c3_0_7 : Zw.al (fun x => Zw.ck 3 0 7 x) 9 = true := by kernel_rfl
theorem Zw.c3_0_8 : Zw.al (fun x => Zw.ck 3 0 8 x) 9 = true := by kernel_rfl
theorem Zw.r3_2_0 : (List.range 81).map (fun x => Zw.LP 3 2 0 (x / 9) (x % 9)) = List.replicate 81 (some Zw.p0) := by kernel_rfl
theorem Zw.r3_1_1 : (List.range 81).map (fun x => Zw.LP 3 1 1 (x / 9) (x % 9)) = List.replicate 81 (some Zw.p0) := by kernel_rfl
theorem Zw.r3_0_2 : (List.range 81).map (fun x => Zw.LP 3 0 2 (x / 9) (x % 9)) = List.replicate 81 (some Zw.p0) := by kernel_rfl
theorem Zw.e3false_3 : (List.range 81).map (fun x => Zw.LE 3 false 3 (x / 9) (x % 9)) = List.replicate 81 (some Zw.p2) := by kernel_rfl
theorem Zw.e3true_3 : (List.range 81).map (fun x => Zw.LE 3 true 3 (x / 9) (x % 9)) = List.replicate 81 (some Zw.p2) := by kernel_rfl
theorem Zw.c3_4_0 : Zw.al (fun x => Zw.ck 3 4 0 x) 9 = true := by kernel_rfl
theorem Zw.c3_4_1 : Zw.al (fun x => Zw.ck 3 4 1 x) 9 = true := by kernel_rfl
theorem Zw.c3_4_2 : Zw.al (fun x => Zw.ck 3 4 2 x) 9 = true := by kernel_rfl
theorem Zw.c3_4_3 : Zw.al (fun x => Zw.ck 3 4 3 x) 9 = true := by kernel_rfl
theorem Zw.c3_4_4 : Zw.al (fun x => Zw.ck 3 4 4 x) 9 = true := by kernel_rfl
theorem Zw.c3_4_5 : Zw.al (fun x => Zw.ck 3 4 5 x) 9 = true := by kernel_rfl
theorem Zw.c3_4_6 : Zw.al (fun x => Zw.ck 3 4 6 x) 9 = true := by kernel_rfl
theorem Zw.c3_4_7 : Zw.al (fun x => Zw.ck 3 4 7 x) 9 = true := by kernel_rfl
theorem Zw.c3_4_8 : Zw.al (fun x => Zw.ck 3 4 8 x) 9 = true := by kernel_rfl
theorem Zw.r3_2_4 : (List.range 81).map (fun x => Zw.LP 3 2 4 (x / 9) (x % 9)) = List.replicate 81 (some Zw.p0) := by kernel_rfl
theorem Zw.r3_1_5 : (List.range 81).map (fun x => Zw.LP 3 1 5 (x / 9) (x % 9)) = List.replicate 81 (some Zw.p0) := by kernel_rfl
theorem Zw.r3_0_6 : (List.range 81).map (fun x => Zw.LP 3 0 6 (x / 9) (x % 9)) = List.replicate 81 (some Zw.p0) := by kernel_rfl
theorem Zw.e3false_7 : (List.range 81).map (fun x => Zw.LE 3 false 7 (x / 9) (x % 9)) = List.replicate 81 (some Zw.p2) := by kernel_rfl
theorem Zw.e3true_7 : (List.range 81).map (fun x => Zw.LE 3 true 7 (x / 9) (x % 9)) = List.replicate 81 (some Zw.p2) := by kernel_rfl
theorem Zw.c3_8_0 : Zw.al (fun x => Zw.ck 3 8 0 x) 9 = true := by kernel_rfl
theorem Zw.c3_8_1 : Zw.al (fun x => Zw.ck 3 8 1 x) 9 = true := by kernel_rfl
theorem Zw.c3_8_2 : Zw.al (fun x => Zw.ck 3 8 2 x) 9 = true := by kernel_rfl
theorem Zw.c3_8_3 : Zw.al (fun x => Zw.ck 3 8 3 x) 9 = true := by kernel_rfl
theorem Zw.c3_8_4 : Zw.al (fun x => Zw.ck 3 8 4 x) 9 = true := by kernel_rfl
theorem Zw.c3_8_5 : Zw.al (fun x => Zw.ck 3 8 5 x) 9 = true := by kernel_rfl
theorem Zw.c3_8_6 : Zw.al (fun x => Zw.ck 3 8 6 x) 9 = true := by kernel_rfl
theorem Zw.c3_8_7 : Zw.al (fun x => Zw.ck 3 8 7 x) 9 = true := by kernel_rfl
theorem Zw.c3_8_8 : Zw.al (fun x => Zw.ck 3 8 8 x) 9 = true := by kernel_rfl
theorem Zw.r3_2_8 : (List.range 81).map (fun x => Zw.LP 3 2 8 (x / 9) (x % 9)) = List.replicate 81 (some Zw.p0) := by kernel_rfl
end Go.Proofs
