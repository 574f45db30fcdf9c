/- Pieces of the law's run, from node to node, answered by the executor. No conditions. -/
import Derived.Test.YtjfjhmdhchjjdaaGreatDoorVSeatSendFullNd
set_option linter.all false
namespace Go.Proofs
open Go Go.Vsx
set_option maxRecDepth 1000000
noncomputable section
theorem Zw.r0 : Zw.allR (fun y => Zw.gr1 0 y) Zw.ys = true := by kernel_rfl
theorem Zw.r1 : Zw.allR (fun y => Zw.gr1 1 y) Zw.ys = true := by kernel_rfl
theorem Zw.r2 : Zw.allR (fun y => Zw.gr1 2 y) Zw.ys = true := by kernel_rfl
theorem Zw.r3 : Zw.allR (fun y => Zw.gr1 3 y) Zw.ys = true := by kernel_rfl
theorem Zw.r4 : Zw.allR (fun y => Zw.gr1 4 y) Zw.ys = true := by kernel_rfl
theorem Zw.r5 : Zw.allR (fun y => Zw.gr1 5 y) Zw.ys = true := by kernel_rfl
theorem Zw.r6 : Zw.allR (fun y => Zw.gr1 6 y) Zw.ys = true := by kernel_rfl
theorem Zw.r7 : Zw.allR (fun y => Zw.gr1 7 y) Zw.ys = true := by kernel_rfl
theorem Zw.r8 : Zw.allR (fun y => Zw.gr1 8 y) Zw.ys = true := by kernel_rfl
theorem Zw.r9 : Zw.allR (fun y => Zw.gr1 9 y) Zw.ys = true := by kernel_rfl
end
end Go.Proofs
