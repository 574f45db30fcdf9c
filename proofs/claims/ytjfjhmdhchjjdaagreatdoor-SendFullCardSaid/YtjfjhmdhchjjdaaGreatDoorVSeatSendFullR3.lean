/- Pieces of the law's run, from node to node, answered by the executor. No conditions. -/
import Derived.Test.YtjfjhmdhchjjdaaGreatDoorVSeatSendFullNd
set_option linter.all false
namespace Go.Proofs
open Go Go.Vsx
set_option maxRecDepth 1000000
noncomputable section
theorem Zw.r20 : Zw.allR (fun y => Zw.gr1 20 y) Zw.ys = true := by kernel_rfl
theorem Zw.r21 : Zw.allR (fun y => Zw.gr1 21 y) Zw.ys = true := by kernel_rfl
theorem Zw.r22 : Zw.allR (fun y => Zw.gr1 22 y) Zw.ys = true := by kernel_rfl
theorem Zw.r23 : Zw.allR (fun y => Zw.gr1 23 y) Zw.ys = true := by kernel_rfl
theorem Zw.r24 : Zw.allR (fun y => Zw.gr1 24 y) Zw.ys = true := by kernel_rfl
theorem Zw.r25 : Zw.allR (fun y => Zw.gr1 25 y) Zw.ys = true := by kernel_rfl
theorem Zw.r26 : Zw.allR (fun y => Zw.gr1 26 y) Zw.ys = true := by kernel_rfl
theorem Zw.r27 : Zw.allR (fun y => Zw.gr1 27 y) Zw.ys = true := by kernel_rfl
theorem Zw.r28 : Zw.allR (fun y => Zw.gr1 28 y) Zw.ys = true := by kernel_rfl
theorem Zw.r29 : Zw.allR (fun y => Zw.gr1 29 y) Zw.ys = true := by kernel_rfl
end
end Go.Proofs
