/- Pieces of the law's run, from node to node, answered by the executor. No conditions. -/
import Derived.Test.YtcmfeakcdikjmaaGreatDoorVSeatSourceAllNd
set_option linter.all false
namespace Go.Proofs
open Go Go.Vsx
set_option maxRecDepth 1000000
theorem Zw.rG_2 : Zw.LG 2 false = some Zw.p2 := by kernel_rfl
theorem Zw.rG_4 : Zw.LG 4 false = some Zw.p2 := by kernel_rfl
theorem Zw.rG_6 : Zw.LG 6 false = some Zw.p2 := by kernel_rfl
theorem Zw.rG_8 : Zw.LG 8 false = some Zw.p2 := by kernel_rfl
theorem Zw.rG_10 : Zw.LG 10 false = some Zw.p2 := by kernel_rfl
theorem Zw.rG_12 : Zw.LG 12 false = some Zw.p2 := by kernel_rfl
theorem Zw.rG_14 : Zw.LG 14 false = some Zw.p2 := by kernel_rfl
theorem Zw.rG_16 : Zw.LG 16 false = some Zw.p2 := by kernel_rfl
theorem Zw.rG_18 : Zw.LG 18 false = some Zw.p2 := by kernel_rfl
theorem Zw.rG_20 : Zw.LG 20 false = some Zw.p2 := by kernel_rfl
theorem Zw.rG_22 : Zw.LG 22 false = some Zw.p2 := by kernel_rfl
theorem Zw.rG_24 : Zw.LG 24 false = some Zw.p2 := by kernel_rfl
theorem Zw.rG_26 : Zw.LG 26 false = some Zw.p2 := by kernel_rfl
theorem Zw.rG_28 : Zw.LG 28 false = some Zw.p2 := by kernel_rfl
theorem Zw.rG_30 : Zw.LG 30 false = some Zw.p2 := by kernel_rfl
theorem Zw.rG_32 : Zw.LG 32 false = some Zw.p2 := by kernel_rfl
theorem Zw.rG_34 : Zw.LG 34 false = some Zw.p2 := by kernel_rfl
theorem Zw.rG_36 : Zw.LG 36 false = some Zw.p2 := by kernel_rfl
theorem Zw.rG_38 : Zw.LG 38 false = some Zw.p2 := by kernel_rfl
theorem Zw.rG_40 : Zw.LG 40 false = some Zw.p2 := by kernel_rfl
theorem Zw.rG_42 : Zw.LG 42 false = some Zw.p2 := by kernel_rfl
theorem Zw.rG_44 : Zw.LG 44 false = some Zw.p2 := by kernel_rfl
theorem Zw.rG_46 : Zw.LG 46 false = some Zw.p2 := by kernel_rfl
theorem Zw.rG_48 : Zw.LG 48 false = some Zw.p2 := by kernel_rfl
theorem Zw.rG_50 : Zw.LG 50 false = some Zw.p2 := by kernel_rfl
theorem Zw.rG_52 : Zw.LG 52 false = some Zw.p2 := by kernel_rfl
theorem Zw.rG_54 : Zw.LG 54 false = some Zw.p2 := by kernel_rfl
theorem Zw.rG_56 : Zw.LG 56 false = some Zw.p2 := by kernel_rfl
theorem Zw.rG_58 : Zw.LG 58 false = some Zw.p2 := by kernel_rfl
theorem Zw.rG_60 : Zw.LG 60 false = some Zw.p2 := by kernel_rfl
theorem Zw.rG_0 : Zw.LG 0 false = some Zw.p2 := by kernel_rfl
theorem Zw.rG_t : Zw.LG 0 true = some Zw.p2 := by kernel_rfl
end Go.Proofs
