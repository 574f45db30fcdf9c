/- Pieces of the law's run, from node to node, answered by the executor. No conditions. -/
import Derived.Test.YtjfjhmdhchjjdaaGreatDoorVSeatSendFullNd
set_option linter.all false
namespace Go.Proofs
open Go Go.Vsx
set_option maxRecDepth 1000000
noncomputable section
theorem Zw.r40 : Zw.allR (fun y => Zw.gr1 40 y) Zw.ys = true := by kernel_rfl
theorem Zw.r41 : Zw.allR (fun y => Zw.gr1 41 y) Zw.ys = true := by kernel_rfl
theorem Zw.r42 : Zw.allR (fun y => Zw.gr1 42 y) Zw.ys = true := by kernel_rfl
theorem Zw.r43 : Zw.allR (fun y => Zw.gr1 43 y) Zw.ys = true := by kernel_rfl
theorem Zw.r44 : Zw.allR (fun y => Zw.gr1 44 y) Zw.ys = true := by kernel_rfl
theorem Zw.r45 : Zw.allR (fun y => Zw.gr1 45 y) Zw.ys = true := by kernel_rfl
theorem Zw.r46 : Zw.allR (fun y => Zw.gr1 46 y) Zw.ys = true := by kernel_rfl
theorem Zw.r47 : Zw.allR (fun y => Zw.gr1 47 y) Zw.ys = true := by kernel_rfl
theorem Zw.r48 : Zw.allR (fun y => Zw.gr1 48 y) Zw.ys = true := by kernel_rfl
theorem Zw.r49 : Zw.allR (fun y => Zw.gr1 49 y) Zw.ys = true := by kernel_rfl
end
end Go.Proofs
