/- Pieces of the law's run, from node to node, answered by the executor. No conditions. -/
import Derived.Test.YtcmfeakcdikjmaaGreatDoorVSeatSourceAllNd
set_option linter.all false
namespace Go.Proofs
open Go Go.Vsx
set_option maxRecDepth 1000000
theorem Zw.rG_1 : Zw.LG 1 false = some Zw.p2 := by kernel_rfl
theorem Zw.rG_3 : Zw.LG 3 false = some Zw.p2 := by kernel_rfl
theorem Zw.rG_5 : Zw.LG 5 false = some Zw.p2 := by kernel_rfl
theorem Zw.rG_7 : Zw.LG 7 false = some Zw.p2 := by kernel_rfl
theorem Zw.rG_9 : Zw.LG 9 false = some Zw.p2 := by kernel_rfl
theorem Zw.rG_11 : Zw.LG 11 false = some Zw.p2 := by kernel_rfl
theorem Zw.rG_13 : Zw.LG 13 false = some Zw.p2 := by kernel_rfl
theorem Zw.rG_15 : Zw.LG 15 false = some Zw.p2 := by kernel_rfl
theorem Zw.rG_17 : Zw.LG 17 false = some Zw.p2 := by kernel_rfl
theorem Zw.rG_19 : Zw.LG 19 false = some Zw.p2 := by kernel_rfl
theorem Zw.rG_21 : Zw.LG 21 false = some Zw.p2 := by kernel_rfl
theorem Zw.rG_23 : Zw.LG 23 false = some Zw.p2 := by kernel_rfl
theorem Zw.rG_25 : Zw.LG 25 false = some Zw.p2 := by kernel_rfl
theorem Zw.rG_27 : Zw.LG 27 false = some Zw.p2 := by kernel_rfl
theorem Zw.rG_29 : Zw.LG 29 false = some Zw.p2 := by kernel_rfl
theorem Zw.rG_31 : Zw.LG 31 false = some Zw.p2 := by kernel_rfl
theorem Zw.rG_33 : Zw.LG 33 false = some Zw.p2 := by kernel_rfl
theorem Zw.rG_35 : Zw.LG 35 false = some Zw.p2 := by kernel_rfl
theorem Zw.rG_37 : Zw.LG 37 false = some Zw.p2 := by kernel_rfl
theorem Zw.rG_39 : Zw.LG 39 false = some Zw.p2 := by kernel_rfl
theorem Zw.rG_41 : Zw.LG 41 false = some Zw.p2 := by kernel_rfl
theorem Zw.rG_43 : Zw.LG 43 false = some Zw.p2 := by kernel_rfl
theorem Zw.rG_45 : Zw.LG 45 false = some Zw.p2 := by kernel_rfl
theorem Zw.rG_47 : Zw.LG 47 false = some Zw.p2 := by kernel_rfl
theorem Zw.rG_49 : Zw.LG 49 false = some Zw.p2 := by kernel_rfl
theorem Zw.rG_51 : Zw.LG 51 false = some Zw.p2 := by kernel_rfl
theorem Zw.rG_53 : Zw.LG 53 false = some Zw.p2 := by kernel_rfl
theorem Zw.rG_55 : Zw.LG 55 false = some Zw.p2 := by kernel_rfl
theorem Zw.rG_57 : Zw.LG 57 false = some Zw.p2 := by kernel_rfl
theorem Zw.rG_59 : Zw.LG 59 false = some Zw.p2 := by kernel_rfl
end Go.Proofs
