/- Pieces of the law's run, from node to node, answered by the executor. No conditions. -/
import Derived.Test.YtegeiefgjngihaaGreatDoorVSeatPipeOrderNd
set_option linter.all false
namespace Go.Proofs
open Go Go.Vsx
set_option maxRecDepth 1000000
theorem Zw.rS1 : Zw.LS 1 = some Zw.p0 := by kernel_rfl
theorem Zw.rS2 : Zw.LS 2 = some Zw.p0 := by kernel_rfl
theorem Zw.rS3 : Zw.LS 3 = some Zw.p0 := by kernel_rfl
theorem Zw.iS : Zw.d0.sub 8 [] (idl 8 Zw.d0.objs) (idA 2) (Zw.d0.st 8 []) = true := by kernel_rfl
theorem Zw.r1 : (List.range 9).map (fun x => Zw.LP 1 0 x 0 0) = List.replicate 9 (some Zw.p0) := by kernel_rfl
theorem Zw.e1false : (List.range 9).map (fun x => Zw.LE 1 false x 0 0) = List.replicate 9 (some Zw.p2) := by kernel_rfl
theorem Zw.e1true : (List.range 9).map (fun x => Zw.LE 1 true x 0 0) = List.replicate 9 (some Zw.p2) := by kernel_rfl
theorem Zw.c1 : Zw.al (fun x => Zw.ck 1 x 0 0) 9 = true := by kernel_rfl
theorem Zw.c2_0 : Zw.al (fun x => Zw.ck 2 0 x 0) 9 = true := by kernel_rfl
theorem Zw.c2_1 : Zw.al (fun x => Zw.ck 2 1 x 0) 9 = true := by kernel_rfl
theorem Zw.c2_2 : Zw.al (fun x => Zw.ck 2 2 x 0) 9 = true := by kernel_rfl
theorem Zw.c2_3 : Zw.al (fun x => Zw.ck 2 3 x 0) 9 = true := by kernel_rfl
theorem Zw.c2_4 : Zw.al (fun x => Zw.ck 2 4 x 0) 9 = true := by kernel_rfl
theorem Zw.c2_5 : Zw.al (fun x => Zw.ck 2 5 x 0) 9 = true := by kernel_rfl
theorem Zw.c2_6 : Zw.al (fun x => Zw.ck 2 6 x 0) 9 = true := by kernel_rfl
theorem Zw.c2_7 : Zw.al (fun x => Zw.ck 2 7 x 0) 9 = true := by kernel_rfl
theorem Zw.c2_8 : Zw.al (fun x => Zw.ck 2 8 x 0) 9 = true := by kernel_rfl
theorem Zw.r3_1_0 : (List.range 81).map (fun x => Zw.LP 3 1 0 (x / 9) (x % 9)) = List.replicate 81 (some Zw.p0) := by kernel_rfl
theorem Zw.r3_0_1 : (List.range 81).map (fun x => Zw.LP 3 0 1 (x / 9) (x % 9)) = List.replicate 81 (some Zw.p0) := by kernel_rfl
theorem Zw.e3false_2 : (List.range 81).map (fun x => Zw.LE 3 false 2 (x / 9) (x % 9)) = List.replicate 81 (some Zw.p2) := by kernel_rfl
theorem Zw.e3true_2 : (List.range 81).map (fun x => Zw.LE 3 true 2 (x / 9) (x % 9)) = List.replicate 81 (some Zw.p2) := by kernel_rfl
theorem Zw.c3_3_0 : Zw.al (fun x => Zw.ck 3 3 0 x) 9 = true := by kernel_rfl
theorem Zw.c3_3_1 : Zw.al (fun x => Zw.ck 3 3 1 x) 9 = true := by kernel_rfl
theorem Zw.c3_3_2 : Zw.al (fun x => Zw.ck 3 3 2 x) 9 = true := by kernel_rfl
theorem Zw.c3_3_3 : Zw.al (fun x => Zw.ck 3 3 3 x) 9 = true := by kernel_rfl
theorem Zw.c3_3_4 : Zw.al (fun x => Zw.ck 3 3 4 x) 9 = true := by kernel_rfl
theorem Zw.c3_3_5 : Zw.al (fun x => Zw.ck 3 3 5 x) 9 = true := by kernel_rfl
theorem Zw.c3_3_6 : Zw.al (fun x => Zw.ck 3 3 6 x) 9 = true := by kernel_rfl
theorem Zw.c3_3_7 : Zw.al (fun x => Zw.ck 3 3 7 x) 9 = true := by kernel_rfl
theorem Zw.c3_3_8 : Zw.al (fun x => Zw.ck 3 3 8 x) 9 = true := by kernel_rfl
theorem Zw.r3_2_3 : (List.range 81).map (fun x => Zw.LP 3 2 3 (x / 9) (x % 9)) = List.replicate 81 (some Zw.p0) := by kernel_rfl
theorem Zw.r3_1_4 : (List.range 81).map (fun x => Zw.LP 3 1 4 (x / 9) (x % 9)) = List.replicate 81 (some Zw.p0) := by kernel_rfl
theorem Zw.r3_0_5 : (List.range 81).map (fun x => Zw.LP 3 0 5 (x / 9) (x % 9)) = List.replicate 81 (some Zw.p0) := by kernel_rfl
theorem Zw.e3false_6 : (List.range 81).map (fun x => Zw.LE 3 false 6 (x / 9) (x % 9)) = List.replicate 81 (some Zw.p2) := by kernel_rfl
theorem Zw.e3true_6 : (List.range 81).map (fun x => Zw.LE 3 true 6 (x / 9) (x % 9)) = List.replicate 81 (some Zw.p2) := by kernel_rfl
theorem Zw.c3_7_0 : Zw.al (fun x => Zw.ck 3 7 0 x) 9 = true := by kernel_rfl
theorem Zw.c3_7_1 : Zw.al (fun x => Zw.ck 3 7 1 x) 9 = true := by kernel_rfl
theorem Zw.c3_7_2 : Zw.al (fun x => Zw.ck 3 7 2 x) 9 = true := by kernel_rfl
theorem Zw.c3_7_3 : Zw.al (fun x => Zw.ck 3 7 3 x) 9 = true := by kernel_rfl
theorem Zw.c3_7_4 : Zw.al (fun x => Zw.ck 3 7 4 x) 9 = true := by kernel_rfl
theorem Zw.c3_7_5 : Zw.al (fun x => Zw.ck 3 7 5 x) 9 = true := by kernel_rfl
theorem Zw.c3_7_6 : Zw.al (fun x => Zw.ck 3 7 6 x) 9 = true := by kernel_rfl
theorem Zw.c3_7_7 : Zw.al (fun x => Zw.ck 3 7 7 x) 9 = true := by kernel_rfl
theorem Zw.c3_7_8 : Zw.al (fun x => Zw.ck 3 7 8 x) 9 = true := by kernel_rfl
theorem Zw.r3_2_7 : (List.range 81).map (fun x => Zw.LP 3 2 7 (x / 9) (x % 9)) = List.replicate 81 (some Zw.p0) := by kernel_rfl
theorem Zw.r3_1_8 : (List.range 81).map (fun x => Zw.LP 3 1 8 (x / 9) (x % 9)) = List.replicate 81 (some Zw.p0) := by kernel_rfl
end Go.Proofs
