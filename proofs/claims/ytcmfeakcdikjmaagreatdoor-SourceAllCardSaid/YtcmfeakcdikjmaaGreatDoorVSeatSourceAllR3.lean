/- Pieces of the law's run, from node to node, answered by the executor. No conditions. -/
import Derived.Test.YtcmfeakcdikjmaaGreatDoorVSeatSourceAllNd
set_option linter.all false
namespace Go.Proofs
open Go Go.Vsx
set_option maxRecDepth 1000000
theorem Zw.rB_0_0 : (List.range 15).map (fun j => Zw.LB (0 + j) 0) = List.replicate 15 (some Zw.p0) := by kernel_rfl
theorem Zw.rB_0_1 : (List.range 15).map (fun j => Zw.LB (15 + j) 0) = List.replicate 15 (some Zw.p0) := by kernel_rfl
theorem Zw.rB_0_2 : (List.range 15).map (fun j => Zw.LB (30 + j) 0) = List.replicate 15 (some Zw.p0) := by kernel_rfl
theorem Zw.rB_0_3 : (List.range 15).map (fun j => Zw.LB (45 + j) 0) = List.replicate 15 (some Zw.p0) := by kernel_rfl
theorem Zw.rB_1_0 : (List.range 15).map (fun j => Zw.LB (0 + j) 1) = List.replicate 15 (some Zw.p0) := by kernel_rfl
theorem Zw.rB_1_1 : (List.range 15).map (fun j => Zw.LB (15 + j) 1) = List.replicate 15 (some Zw.p0) := by kernel_rfl
theorem Zw.rB_1_2 : (List.range 15).map (fun j => Zw.LB (30 + j) 1) = List.replicate 15 (some Zw.p0) := by kernel_rfl
theorem Zw.rB_1_3 : (List.range 15).map (fun j => Zw.LB (45 + j) 1) = List.replicate 15 (some Zw.p0) := by kernel_rfl
theorem Zw.rB_2_0 : (List.range 15).map (fun j => Zw.LB (0 + j) 2) = List.replicate 15 (some Zw.p0) := by kernel_rfl
theorem Zw.rB_2_1 : (List.range 15).map (fun j => Zw.LB (15 + j) 2) = List.replicate 15 (some Zw.p0) := by kernel_rfl
theorem Zw.rB_2_2 : (List.range 15).map (fun j => Zw.LB (30 + j) 2) = List.replicate 15 (some Zw.p0) := by kernel_rfl
theorem Zw.rB_2_3 : (List.range 15).map (fun j => Zw.LB (45 + j) 2) = List.replicate 15 (some Zw.p0) := by kernel_rfl
theorem Zw.rB_3_0 : (List.range 15).map (fun j => Zw.LB (0 + j) 3) = List.replicate 15 (some Zw.p0) := by kernel_rfl
theorem Zw.rB_3_1 : (List.range 15).map (fun j => Zw.LB (15 + j) 3) = List.replicate 15 (some Zw.p0) := by kernel_rfl
theorem Zw.rB_3_2 : (List.range 15).map (fun j => Zw.LB (30 + j) 3) = List.replicate 15 (some Zw.p0) := by kernel_rfl
theorem Zw.rB_3_3 : (List.range 15).map (fun j => Zw.LB (45 + j) 3) = List.replicate 15 (some Zw.p0) := by kernel_rfl
theorem Zw.rC : Zw.LC = some Zw.p0 := by kernel_rfl
theorem Zw.rMtrue : (List.range 5).map (Zw.LM true) = List.replicate 5 (some Zw.p0) := by kernel_rfl
theorem Zw.rMfalse : (List.range 5).map (Zw.LM false) = List.replicate 5 (some Zw.p0) := by kernel_rfl
theorem Zw.rMx : Zw.fM = true := by kernel_rfl
theorem Zw.rQ_0 : (List.range 61).map (fun L => Zw.LQ 0 L false) = List.replicate 61 (some Zw.p2) := by kernel_rfl
theorem Zw.rQt_0 : Zw.LQ 0 0 true = some Zw.p2 := by kernel_rfl
theorem Zw.rQ_1 : (List.range 61).map (fun L => Zw.LQ 1 L false) = List.replicate 61 (some Zw.p2) := by kernel_rfl
theorem Zw.rQt_1 : Zw.LQ 1 0 true = some Zw.p2 := by kernel_rfl
theorem Zw.rQ_2 : (List.range 61).map (fun L => Zw.LQ 2 L false) = List.replicate 61 (some Zw.p2) := by kernel_rfl
theorem Zw.rQt_2 : Zw.LQ 2 0 true = some Zw.p2 := by kernel_rfl
theorem Zw.rQ_3 : (List.range 61).map (fun L => Zw.LQ 3 L false) = List.replicate 61 (some Zw.p2) := by kernel_rfl
theorem Zw.rQt_3 : Zw.LQ 3 0 true = some Zw.p2 := by kernel_rfl
theorem Zw.rXtrue : Zw.al (fun L => Zw.fX L false true) 61 = true := by kernel_rfl
theorem Zw.rXttrue : Zw.fX 0 true true = true := by kernel_rfl
theorem Zw.rXfalse : Zw.al (fun L => Zw.fX L false false) 61 = true := by kernel_rfl
theorem Zw.rXtfalse : Zw.fX 0 true false = true := by kernel_rfl
theorem Zw.iS : Zw.al (fun L => Zw.hS (Zw.roG L)) 62 = true := by kernel_rfl
theorem Zw.iM1 : Zw.hM true [[ch 1004, ch 1005, ch 1006]] = true := by kernel_rfl
theorem Zw.iM2 : Zw.hM false [[ch 1004, ch 1005, ch 1006]] = true := by kernel_rfl
theorem Zw.iM3 : Zw.hM false [] = true := by kernel_rfl
theorem Zw.iQ : Zw.al (fun L => Zw.hN L false (Zw.roQ L)) 61 = true := by kernel_rfl
theorem Zw.iQt : Zw.hN 0 true (Zw.roQ 0) = true := by kernel_rfl
theorem Zw.iX : Zw.al (fun L => Zw.hN L false []) 61 = true := by kernel_rfl
theorem Zw.iXt : Zw.hN 0 true [] = true := by kernel_rfl
end Go.Proofs
