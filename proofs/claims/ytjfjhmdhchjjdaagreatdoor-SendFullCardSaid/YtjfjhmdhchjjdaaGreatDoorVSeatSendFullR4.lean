/- Pieces of the law's run, from node to node, answered by the executor. No conditions. -/
import Derived.Test.YtjfjhmdhchjjdaaGreatDoorVSeatSendFullNd
set_option linter.all false
namespace Go.Proofs
open Go Go.Vsx
set_option maxRecDepth 1000000
noncomputable section
theorem Zw.r30 : Zw.allR (fun y => Zw.gr1 30 y) Zw.ys = true := by kernel_rfl
theorem Zw.r31 : Zw.allR (fun y => Zw.gr1 31 y) Zw.ys = true := by kernel_rfl
theorem Zw.r32 : Zw.allR (fun y => Zw.gr1 32 y) Zw.ys = true := by kernel_rfl
theorem Zw.r33 : Zw.allR (fun y => Zw.gr1 33 y) Zw.ys = true := by kernel_rfl
theorem Zw.r34 : Zw.allR (fun y => Zw.gr1 34 y) Zw.ys = true := by kernel_rfl
theorem Zw.r35 : Zw.allR (fun y => Zw.gr1 35 y) Zw.ys = true := by kernel_rfl
theorem Zw.r36 : Zw.allR (fun y => Zw.gr1 36 y) Zw.ys = true := by kernel_rfl
theorem Zw.r37 : Zw.allR (fun y => Zw.gr1 37 y) Zw.ys = true := by kernel_rfl
theorem Zw.r38 : Zw.allR (fun y => Zw.gr1 38 y) Zw.ys = true := by kernel_rfl
theorem Zw.r39 : Zw.allR (fun y => Zw.gr1 39 y) Zw.ys = true := by kernel_rfl
end
end Go.Proofs
