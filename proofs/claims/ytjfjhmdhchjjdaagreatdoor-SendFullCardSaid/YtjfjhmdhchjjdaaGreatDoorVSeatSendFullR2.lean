/- Pieces of the law's run, from node to node, answered by the executor. No conditions. -/
import Derived.Test.YtjfjhmdhchjjdaaGreatDoorVSeatSendFullNd
set_option linter.all false
namespace Go.Proofs
open Go Go.Vsx
set_option maxRecDepth 1000000
noncomputable section
theorem Zw.r10 : Zw.allR (fun y => Zw.gr1 10 y) Zw.ys = true := by kernel_rfl
theorem Zw.r11 : Zw.allR (fun y => Zw.gr1 11 y) Zw.ys = true := by kernel_rfl
theorem Zw.r12 : Zw.allR (fun y => Zw.gr1 12 y) Zw.ys = true := by kernel_rfl
theorem Zw.r13 : Zw.allR (fun y => Zw.gr1 13 y) Zw.ys = true := by kernel_rfl
theorem Zw.r14 : Zw.allR (fun y => Zw.gr1 14 y) Zw.ys = true := by kernel_rfl
theorem Zw.r15 : Zw.allR (fun y => Zw.gr1 15 y) Zw.ys = true := by kernel_rfl
theorem Zw.r16 : Zw.allR (fun y => Zw.gr1 16 y) Zw.ys = true := by kernel_rfl
theorem Zw.r17 : Zw.allR (fun y => Zw.gr1 17 y) Zw.ys = true := by kernel_rfl
theorem Zw.r18 : Zw.allR (fun y => Zw.gr1 18 y) Zw.ys = true := by kernel_rfl
theorem Zw.r19 : Zw.allR (fun y => Zw.gr1 19 y) Zw.ys = true := by kernel_rfl
end
end Go.Proofs
