/- Pieces of the law's run, from node to node, answered by the executor. No conditions. -/
import Derived.Test.YtcappdnmmmhgkaaGreatDoorVSeatTableDictNd
set_option linter.all false
namespace Go.Proofs
open Go Go.Vsx
set_option maxRecDepth 1000000
theorem Zw.rLCA0_0 : (List.range 1).map (Zw.LCA 0 0) = List.replicate 1 (some Zw.p0) := by kernel_rfl
theorem Zw.rLCA0_1 : (List.range 1).map (Zw.LCA 0 1) = List.replicate 1 (some Zw.p0) := by kernel_rfl
theorem Zw.rLPP1_1 : (List.range 1).map (Zw.LPP 1 1) = List.replicate 1 (some Zw.p0) := by kernel_rfl
theorem Zw.rLPA1_1 : (List.range 2).map (Zw.LPA 1 1) = List.replicate 2 (some Zw.p0) := by kernel_rfl
theorem Zw.rLCA1_2 : (List.range 2).map (Zw.LCA 1 2) = List.replicate 2 (some Zw.p0) := by kernel_rfl
theorem Zw.rLCP1_3 : (List.range 1).map (Zw.LCP 1 3) = List.replicate 1 (some Zw.p0) := by kernel_rfl
theorem Zw.cf1_4 : (List.range 6).map (Zw.cf 1 4) = List.replicate 6 true := by kernel_rfl
theorem Zw.rLPP1_4 : (List.range 1).map (Zw.LPP 1 4) = List.replicate 1 (some Zw.p0) := by kernel_rfl
theorem Zw.rLPA1_4 : (List.range 2).map (Zw.LPA 1 4) = List.replicate 2 (some Zw.p0) := by kernel_rfl
theorem Zw.rLCA1_5 : (List.range 2).map (Zw.LCA 1 5) = List.replicate 2 (some Zw.p0) := by kernel_rfl
theorem Zw.rLCP1_6 : (List.range 1).map (Zw.LCP 1 6) = List.replicate 1 (some Zw.p0) := by kernel_rfl
theorem Zw.cf1_7 : (List.range 6).map (Zw.cf 1 7) = List.replicate 6 true := by kernel_rfl
theorem Zw.rLPP1_7 : (List.range 1).map (Zw.LPP 1 7) = List.replicate 1 (some Zw.p0) := by kernel_rfl
theorem Zw.rLPA1_7 : (List.range 2).map (Zw.LPA 1 7) = List.replicate 2 (some Zw.p0) := by kernel_rfl
theorem Zw.rLCA1_8 : (List.range 2).map (Zw.LCA 1 8) = List.replicate 2 (some Zw.p0) := by kernel_rfl
theorem Zw.rLCP2_2 : (List.range 2).map (Zw.LCP 2 2) = List.replicate 2 (some Zw.p0) := by kernel_rfl
theorem Zw.cf2_3 : (List.range 6).map (Zw.cf 2 3) = List.replicate 6 true := by kernel_rfl
theorem Zw.rLPP2_3 : (List.range 2).map (Zw.LPP 2 3) = List.replicate 2 (some Zw.p0) := by kernel_rfl
theorem Zw.rLPA2_3 : (List.range 3).map (Zw.LPA 2 3) = List.replicate 3 (some Zw.p0) := by kernel_rfl
theorem Zw.rLCA2_4 : (List.range 3).map (Zw.LCA 2 4) = List.replicate 3 (some Zw.p0) := by kernel_rfl
theorem Zw.rLCP2_5 : (List.range 2).map (Zw.LCP 2 5) = List.replicate 2 (some Zw.p0) := by kernel_rfl
theorem Zw.cf2_6 : (List.range 6).map (Zw.cf 2 6) = List.replicate 6 true := by kernel_rfl
theorem Zw.rLPP2_6 : (List.range 2).map (Zw.LPP 2 6) = List.replicate 2 (some Zw.p0) := by kernel_rfl
theorem Zw.rLPA2_6 : (List.range 3).map (Zw.LPA 2 6) = List.replicate 3 (some Zw.p0) := by kernel_rfl
theorem Zw.rLCA2_7 : (List.range 3).map (Zw.LCA 2 7) = List.replicate 3 (some Zw.p0) := by kernel_rfl
theorem Zw.rLCP2_8 : (List.range 2).map (Zw.LCP 2 8) = List.replicate 2 (some Zw.p0) := by kernel_rfl
theorem Zw.cf3_3 : (List.range 6).map (Zw.cf 3 3) = List.replicate 6 true := by kernel_rfl
theorem Zw.rLPP3_3 : (List.range 3).map (Zw.LPP 3 3) = List.replicate 3 (some Zw.p0) := by kernel_rfl
theorem Zw.rLPA3_3 : (List.range 4).map (Zw.LPA 3 3) = List.replicate 4 (some Zw.p0) := by kernel_rfl
theorem Zw.rLCA3_4 : (List.range 4).map (Zw.LCA 3 4) = List.replicate 4 (some Zw.p0) := by kernel_rfl
theorem Zw.rLCP3_5 : (List.range 3).map (Zw.LCP 3 5) = List.replicate 3 (some Zw.p0) := by kernel_rfl
theorem Zw.cf3_6 : (List.range 6).map (Zw.cf 3 6) = List.replicate 6 true := by kernel_rfl
theorem Zw.rLPP3_6 : (List.range 3).map (Zw.LPP 3 6) = List.replicate 3 (some Zw.p0) := by kernel_rfl
theorem Zw.rLPA3_6 : (List.range 4).map (Zw.LPA 3 6) = List.replicate 4 (some Zw.p0) := by kernel_rfl
theorem Zw.rLCA3_7 : (List.range 4).map (Zw.LCA 3 7) = List.replicate 4 (some Zw.p0) := by kernel_rfl
theorem Zw.rLCP3_8 : (List.range 3).map (Zw.LCP 3 8) = List.replicate 3 (some Zw.p0) := by kernel_rfl
theorem Zw.cf4_4 : (List.range 6).map (Zw.cf 4 4) = List.replicate 6 true := by kernel_rfl
theorem Zw.rLPP4_4 : (List.range 4).map (Zw.LPP 4 4) = List.replicate 4 (some Zw.p0) := by kernel_rfl
theorem Zw.rLPA4_4 : (List.range 5).map (Zw.LPA 4 4) = List.replicate 5 (some Zw.p0) := by kernel_rfl
theorem Zw.rLCA4_5 : (List.range 5).map (Zw.LCA 4 5) = List.replicate 5 (some Zw.p0) := by kernel_rfl
theorem Zw.rLCP4_6 : (List.range 4).map (Zw.LCP 4 6) = List.replicate 4 (some Zw.p0) := by kernel_rfl
theorem Zw.cf4_7 : (List.range 6).map (Zw.cf 4 7) = List.replicate 6 true := by kernel_rfl
theorem Zw.rLPP4_7 : (List.range 4).map (Zw.LPP 4 7) = List.replicate 4 (some Zw.p0) := by kernel_rfl
theorem Zw.rLPA4_7 : (List.range 5).map (Zw.LPA 4 7) = List.replicate 5 (some Zw.p0) := by kernel_rfl
theorem Zw.rLCA4_8 : (List.range 5).map (Zw.LCA 4 8) = List.replicate 5 (some Zw.p0) := by kernel_rfl
theorem Zw.rLCP5_5 : (List.range 5).map (Zw.LCP 5 5) = List.replicate 5 (some Zw.p0) := by kernel_rfl
theorem Zw.cf5_6 : (List.range 6).map (Zw.cf 5 6) = List.replicate 6 true := by kernel_rfl
theorem Zw.rLPP5_6 : (List.range 5).map (Zw.LPP 5 6) = List.replicate 5 (some Zw.p0) := by kernel_rfl
theorem Zw.rLPA5_6 : (List.range 6).map (Zw.LPA 5 6) = List.replicate 6 (some Zw.p0) := by kernel_rfl
theorem Zw.rLCA5_7 : (List.range 6).map (Zw.LCA 5 7) = List.replicate 6 (some Zw.p0) := by kernel_rfl
theorem Zw.rLCP5_8 : (List.range 5).map (Zw.LCP 5 8) = List.replicate 5 (some Zw.p0) := by kernel_rfl
theorem Zw.cf6_6 : (List.range 6).map (Zw.cf 6 6) = List.replicate 6 true := by kernel_rfl
theorem Zw.rLPP6_6 : (List.range 6).map (Zw.LPP 6 6) = List.replicate 6 (some Zw.p0) := by kernel_rfl
theorem Zw.rLPA6_6 : (List.range 7).map (Zw.LPA 6 6) = List.replicate 7 (some Zw.p0) := by kernel_rfl
theorem Zw.rLCA6_7 : (List.range 7).map (Zw.LCA 6 7) = List.replicate 7 (some Zw.p0) := by kernel_rfl
theorem Zw.rLCP6_8 : (List.range 6).map (Zw.LCP 6 8) = List.replicate 6 (some Zw.p0) := by kernel_rfl
theorem Zw.cf7_7 : (List.range 6).map (Zw.cf 7 7) = List.replicate 6 true := by kernel_rfl
theorem Zw.rLPP7_7 : (List.range 7).map (Zw.LPP 7 7) = List.replicate 7 (some Zw.p0) := by kernel_rfl
theorem Zw.rLPA7_7 : (List.range 8).map (Zw.LPA 7 7) = List.replicate 8 (some Zw.p0) := by kernel_rfl
theorem Zw.rLCA7_8 : (List.range 8).map (Zw.LCA 7 8) = List.replicate 8 (some Zw.p0) := by kernel_rfl
theorem Zw.rLCP8_8 : (List.range 8).map (Zw.LCP 8 8) = List.replicate 8 (some Zw.p0) := by kernel_rfl
end Go.Proofs
