/- Pieces of the law's run, from node to node, answered by the executor. No conditions. -/
import Derived.Test.YtegeiefgjngihaaGreatDoorVSeatPipeOrderNd
set_option linter.all false
namespace Go.Proofs
open Go Go.Vsx
set_option maxRecDepth 1000000
theorem Zw.e2false : (List.range 81).map (fun x => Zw.LE 2 false (x / 9) (x % 9) 0) = List.replicate 81 (some Zw.p2) := by kernel_rfl
theorem Zw.e2true : (List.range 81).map (fun x => Zw.LE 2 true (x / 9) (x % 9) 0) = List.replicate 81 (some Zw.p2) := by kernel_rfl
theorem Zw.r3_0_0 : (List.range 81).map (fun x => Zw.LP 3 0 0 (x / 9) (x % 9)) = List.replicate 81 (some Zw.p0) := by kernel_rfl
theorem Zw.e3false_1 : (List.range 81).map (fun x => Zw.LE 3 false 1 (x / 9) (x % 9)) = List.replicate 81 (some Zw.p2) := by kernel_rfl
theorem Zw.e3true_1 : (List.range 81).map (fun x => Zw.LE 3 true 1 (x / 9) (x % 9)) = List.replicate 81 (some Zw.p2) := by kernel_rfl
theorem Zw.c3_2_0 : Zw.al (fun x => Zw.ck 3 2 0 x) 9 = true := by kernel_rfl
theorem Zw.c3_2_1 : Zw.al (fun x => Zw.ck 3 2 1 x) 9 = true := by kernel_rfl
theorem Zw.c3_2_2 : Zw.al (fun x => Zw.ck 3 2 2 x) 9 = true := by kernel_rfl
theorem Zw.c3_2_3 : Zw.al (fun x => Zw.ck 3 2 3 x) 9 = true := by kernel_rfl
theorem Zw.c3_2_4 : Zw.al (fun x => Zw.ck 3 2 4 x) 9 = true := by kernel_rfl
theorem Zw.c3_2_5 : Zw.al (fun x => Zw.ck 3 2 5 x) 9 = true := by kernel_rfl
theorem Zw.c3_2_6 : Zw.al (fun x => Zw.ck 3 2 6 x) 9 = true := by kernel_rfl
theorem Zw.c3_2_7 : Zw.al (fun x => Zw.ck 3 2 7 x) 9 = true := by kernel_rfl
theorem Zw.c3_2_8 : Zw.al (fun x => Zw.ck 3 2 8 x) 9 = true := by kernel_rfl
theorem Zw.r3_2_2 : (List.range 81).map (fun x => Zw.LP 3 2 2 (x / 9) (x % 9)) = List.replicate 81 (some Zw.p0) := by kernel_rfl
theorem Zw.r3_1_3 : (List.range 81).map (fun x => Zw.LP 3 1 3 (x / 9) (x % 9)) = List.replicate 81 (some Zw.p0) := by kernel_rfl
theorem Zw.r3_0_4 : (List.range 81).map (fun x => Zw.LP 3 0 4 (x / 9) (x % 9)) = List.replicate 81 (some Zw.p0) := by kernel_rfl
theorem Zw.e3false_5 : (List.range 81).map (fun x => Zw.LE 3 false 5 (x / 9) (x % 9)) = List.replicate 81 (some Zw.p2) := by kernel_rfl
theorem Zw.e3true_5 : (List.range 81).map (fun x => Zw.LE 3 true 5 (x / 9) (x % 9)) = List.replicate 81 (some Zw.p2) := by kernel_rfl
theorem Zw.c3_6_0 : Zw.al (fun x => Zw.ck 3 6 0 x) 9 = true := by kernel_rfl
theorem Zw.c3_6_1 : Zw.al (fun x => Zw.ck 3 6 1 x) 9 = true := by kernel_rfl
theorem Zw.c3_6_2 : Zw.al (fun x => Zw.ck 3 6 2 x) 9 = true := by kernel_rfl
theorem Zw.c3_6_3 : Zw.al (fun x => Zw.ck 3 6 3 x) 9 = true := by kernel_rfl
theorem Zw.c3_6_4 : Zw.al (fun x => Zw.ck 3 6 4 x) 9 = true := by kernel_rfl
theorem Zw.c3_6_5 : Zw.al (fun x => Zw.ck 3 6 5 x) 9 = true := by kernel_rfl
theorem Zw.c3_6_6 : Zw.al (fun x => Zw.ck 3 6 6 x) 9 = true := by kernel_rfl
theorem Zw.c3_6_7 : Zw.al (fun x => Zw.ck 3 6 7 x) 9 = true := by kernel_rfl
theorem Zw.c3_6_8 : Zw.al (fun x => Zw.ck 3 6 8 x) 9 = true := by kernel_rfl
theorem Zw.r3_2_6 : (List.range 81).map (fun x => Zw.LP 3 2 6 (x / 9) (x % 9)) = List.replicate 81 (some Zw.p0) := by kernel_rfl
theorem Zw.r3_1_7 : (List.range 81).map (fun x => Zw.LP 3 1 7 (x / 9) (x % 9)) = List.replicate 81 (some Zw.p0) := by kernel_rfl
theorem Zw.r3_0_8 : (List.range 81).map (fun x => Zw.LP 3 0 8 (x / 9) (x % 9)) = List.replicate 81 (some Zw.p0) := by kernel_rfl
end Go.Proofs
