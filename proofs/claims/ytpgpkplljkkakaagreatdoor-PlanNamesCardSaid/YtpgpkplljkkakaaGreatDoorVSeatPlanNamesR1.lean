/- The law's runs, answered by the executor. No conditions. -/
import Derived.Test.YtpgpkplljkkakaaGreatDoorVSeatPlanNamesNd
set_option linter.all false
namespace Go.Proofs
open Go Go.Vsx
set_option maxRecDepth 1000000
theorem Zw.i0 : Zw.d0.sub 8 [] (idl 8 Zw.d0.objs) (idA 5) (Zw.d0.st 8 []) = true := by kernel_rfl
theorem Zw.q0a : ((List.range 12).all fun j => Zw.fin (Zw.T 0 (j + 0))) = true := by kernel_rfl
theorem Zw.q0b : ((List.range 12).all fun j => Zw.fin (Zw.T 0 (j + 12))) = true := by kernel_rfl
theorem Zw.q0c : ((List.range 12).all fun j => Zw.fin (Zw.T 0 (j + 24))) = true := by kernel_rfl
theorem Zw.q0d : ((List.range 11).all fun j => Zw.fin (Zw.T 0 (j + 36))) = true := by kernel_rfl
theorem Zw.q4a : ((List.range 12).all fun j => Zw.fin (Zw.T 4 (j + 0))) = true := by kernel_rfl
theorem Zw.q4b : ((List.range 12).all fun j => Zw.fin (Zw.T 4 (j + 12))) = true := by kernel_rfl
theorem Zw.q4c : ((List.range 12).all fun j => Zw.fin (Zw.T 4 (j + 24))) = true := by kernel_rfl
theorem Zw.q4d : ((List.range 11).all fun j => Zw.fin (Zw.T 4 (j + 36))) = true := by kernel_rfl
theorem Zw.q8a : ((List.range 12).all fun j => Zw.fin (Zw.T 8 (j + 0))) = true := by kernel_rfl
theorem Zw.q8b : ((List.range 12).all fun j => Zw.fin (Zw.T 8 (j + 12))) = true := by kernel_rfl
theorem Zw.q8c : ((List.range 12).all fun j => Zw.fin (Zw.T 8 (j + 24))) = true := by kernel_rfl
theorem Zw.q8d : ((List.range 11).all fun j => Zw.fin (Zw.T 8 (j + 36))) = true := by kernel_rfl
theorem Zw.q1a : ((List.range 12).all fun j => Zw.fin (Zw.T 1 (j + 0))) = true := by kernel_rfl
theorem Zw.q1b : ((List.range 12).all fun j => Zw.fin (Zw.T 1 (j + 12))) = true := by kernel_rfl
theorem Zw.q1c : ((List.range 12).all fun j => Zw.fin (Zw.T 1 (j + 24))) = true := by kernel_rfl
theorem Zw.q1d : ((List.range 11).all fun j => Zw.fin (Zw.T 1 (j + 36))) = true := by kernel_rfl
theorem Zw.q5a : ((List.range 12).all fun j => Zw.fin (Zw.T 5 (j + 0))) = true := by kernel_rfl
theorem Zw.q5b : ((List.range 12).all fun j => Zw.fin (Zw.T 5 (j + 12))) = true := by kernel_rfl
theorem Zw.q5c : ((List.range 12).all fun j => Zw.fin (Zw.T 5 (j + 24))) = true := by kernel_rfl
theorem Zw.q5d : ((List.range 11).all fun j => Zw.fin (Zw.T 5 (j + 36))) = true := by kernel_rfl
theorem Zw.q9a : ((List.range 12).all fun j => Zw.fin (Zw.T 9 (j + 0))) = true := by kernel_rfl
theorem Zw.q9b : ((List.range 12).all fun j => Zw.fin (Zw.T 9 (j + 12))) = true := by kernel_rfl
theorem Zw.q9c : ((List.range 12).all fun j => Zw.fin (Zw.T 9 (j + 24))) = true := by kernel_rfl
theorem Zw.q9d : ((List.range 11).all fun j => Zw.fin (Zw.T 9 (j + 36))) = true := by kernel_rfl
end Go.Proofs
