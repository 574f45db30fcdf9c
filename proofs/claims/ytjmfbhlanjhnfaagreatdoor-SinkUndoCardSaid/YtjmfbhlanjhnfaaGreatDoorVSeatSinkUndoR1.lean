/- Pieces of the law's run, from node to node, answered by the executor. No conditions. -/
import Derived.Test.YtjmfbhlanjhnfaaGreatDoorVSeatSinkUndoNd
set_option linter.all false
namespace Go.Proofs
open Go Go.Vsx
set_option maxRecDepth 1000000
theorem Zw.rS0 : Zw.LS = some Zw.p0 := by kernel_rfl
theorem Zw.iS : Zw.d0.sub 8 [] (idl 8 Zw.d0.objs) (idA 2) (Zw.d0.st 8 []) = true := by kernel_rfl
theorem Zw.rA : (List.range 10).map Zw.LA = List.replicate 10 (some Zw.p0) := by kernel_rfl
theorem Zw.rX : (List.range 11).map (fun c => Zw.LX c false) = List.replicate 11 (some Zw.p2) := by kernel_rfl
theorem Zw.rXt : Zw.LX 10 true = some Zw.p2 := by kernel_rfl
theorem Zw.iA : Zw.al Zw.hA 10 = true := by kernel_rfl
theorem Zw.iX : Zw.al Zw.hX 11 = true := by kernel_rfl
theorem Zw.rB0 : (List.range 10).map (Zw.LB 0) = List.replicate 10 (some Zw.p2) := by kernel_rfl
theorem Zw.rF0 : Zw.al (fun c => Zw.fB 0 c false) 11 = true := by kernel_rfl
theorem Zw.rFt0 : Zw.fB 0 10 true = true := by kernel_rfl
theorem Zw.iB0 : Zw.al (Zw.hB 0) 10 = true := by kernel_rfl
theorem Zw.iF0 : Zw.al (Zw.hF 0) 11 = true := by kernel_rfl
theorem Zw.rB1 : (List.range 10).map (Zw.LB 1) = List.replicate 10 (some Zw.p2) := by kernel_rfl
theorem Zw.rF1 : Zw.al (fun c => Zw.fB 1 c false) 11 = true := by kernel_rfl
theorem Zw.rFt1 : Zw.fB 1 10 true = true := by kernel_rfl
theorem Zw.iB1 : Zw.al (Zw.hB 1) 10 = true := by kernel_rfl
theorem Zw.iF1 : Zw.al (Zw.hF 1) 11 = true := by kernel_rfl
end Go.Proofs
