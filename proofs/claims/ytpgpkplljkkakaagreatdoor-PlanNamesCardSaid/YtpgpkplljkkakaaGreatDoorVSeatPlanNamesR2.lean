/- The law's runs, answered by the executor. No conditions. -/
import Derived.Test.YtpgpkplljkkakaaGreatDoorVSeatPlanNamesNd
set_option linter.all false
namespace Go.Proofs
open Go Go.Vsx
set_option maxRecDepth 1000000
theorem Zw.q2a : ((List.range 12).all fun j => Zw.fin (Zw.T 2 (j + 0))) = true := by kernel_rfl
theorem Zw.q2b : ((List.range 12).all fun j => Zw.fin (Zw.T 2 (j + 12))) = true := by kernel_rfl
theorem Zw.q2c : ((List.range 12).all fun j => Zw.fin (Zw.T 2 (j + 24))) = true := by kernel_rfl
theorem Zw.q2d : ((List.range 11).all fun j => Zw.fin (Zw.T 2 (j + 36))) = true := by kernel_rfl
theorem Zw.q6a : ((List.range 12).all fun j => Zw.fin (Zw.T 6 (j + 0))) = true := by kernel_rfl
theorem Zw.q6b : ((List.range 12).all fun j => Zw.fin (Zw.T 6 (j + 12))) = true := by kernel_rfl
theorem Zw.q6c : ((List.range 12).all fun j => Zw.fin (Zw.T 6 (j + 24))) = true := by kernel_rfl
theorem Zw.q6d : ((List.range 11).all fun j => Zw.fin (Zw.T 6 (j + 36))) = true := by kernel_rfl
theorem Zw.q10a : ((List.range 12).all fun j => Zw.fin (Zw.T 10 (j + 0))) = true := by kernel_rfl
theorem Zw.q10b : ((List.range 12).all fun j => Zw.fin (Zw.T 10 (j + 12))) = true := by kernel_rfl
theorem Zw.q10c : ((List.range 12).all fun j => Zw.fin (Zw.T 10 (j + 24))) = true := by kernel_rfl
theorem Zw.q10d : ((List.range 11).all fun j => Zw.fin (Zw.T 10 (j + 36))) = true := by kernel_rfl
theorem Zw.q3a : ((List.range 12).all fun j => Zw.fin (Zw.T 3 (j + 0))) = true := by kernel_rfl
theorem Zw.q3b : ((List.range 12).all fun j => Zw.fin (Zw.T 3 (j + 12))) = true := by kernel_rfl
theorem Zw.q3c : ((List.range 12).all fun j => Zw.fin (Zw.T 3 (j + 24))) = true := by kernel_rfl
theorem Zw.q3d : ((List.range 11).all fun j => Zw.fin (Zw.T 3 (j + 36))) = true := by kernel_rfl
theorem Zw.q7a : ((List.range 12).all fun j => Zw.fin (Zw.T 7 (j + 0))) = true := by kernel_rfl
theorem Zw.q7b : ((List.range 12).all fun j => Zw.fin (Zw.T 7 (j + 12))) = true := by kernel_rfl
theorem Zw.q7c : ((List.range 12).all fun j => Zw.fin (Zw.T 7 (j + 24))) = true := by kernel_rfl
theorem Zw.q7d : ((List.range 11).all fun j => Zw.fin (Zw.T 7 (j + 36))) = true := by kernel_rfl
theorem Zw.q11a : ((List.range 12).all fun j => Zw.fin (Zw.T 11 (j + 0))) = true := by kernel_rfl
theorem Zw.q11b : ((List.range 12).all fun j => Zw.fin (Zw.T 11 (j + 12))) = true := by kernel_rfl
theorem Zw.q11c : ((List.range 12).all fun j => Zw.fin (Zw.T 11 (j + 24))) = true := by kernel_rfl
theorem Zw.q11d : ((List.range 11).all fun j => Zw.fin (Zw.T 11 (j + 36))) = true := by kernel_rfl
end Go.Proofs
