/- Pieces of the law's run, from node to node, answered by the executor. No conditions. -/
import Derived.Test.YtegeiefgjngihaaGreatDoorVSeatSourceAgainNd
set_option linter.all false
namespace Go.Proofs
open Go Go.Vsx
set_option maxRecDepth 1000000
theorem Zw.rK_2_0 : Zw.LK 2 0 = some Zw.p4 := by kernel_rfl
theorem Zw.rK_2_1 : Zw.LK 2 1 = some Zw.p4 := by kernel_rfl
theorem Zw.rK2 (K : Nat) (h : K < 2) : Zw.LK 2 K = some Zw.p4 := by
  rcases (show K = 0 ∨ K = 1 by omega) with h | h
  · subst h; exact Zw.rK_2_0
  · subst h; exact Zw.rK_2_1
theorem Zw.rK_4_0 : Zw.LK 4 0 = some Zw.p4 := by kernel_rfl
theorem Zw.rK_4_1 : Zw.LK 4 1 = some Zw.p4 := by kernel_rfl
theorem Zw.rK_4_2 : Zw.LK 4 2 = some Zw.p4 := by kernel_rfl
theorem Zw.rK_4_3 : Zw.LK 4 3 = some Zw.p4 := by kernel_rfl
theorem Zw.rK4 (K : Nat) (h : K < 4) : Zw.LK 4 K = some Zw.p4 := by
  rcases (show K = 0 ∨ K = 1 ∨ K = 2 ∨ K = 3 by omega) with h | h | h | h
  · subst h; exact Zw.rK_4_0
  · subst h; exact Zw.rK_4_1
  · subst h; exact Zw.rK_4_2
  · subst h; exact Zw.rK_4_3
theorem Zw.rK_6_0 : Zw.LK 6 0 = some Zw.p4 := by kernel_rfl
theorem Zw.rK_6_1 : Zw.LK 6 1 = some Zw.p4 := by kernel_rfl
theorem Zw.rK_6_2 : Zw.LK 6 2 = some Zw.p4 := by kernel_rfl
theorem Zw.rK_6_3 : Zw.LK 6 3 = some Zw.p4 := by kernel_rfl
theorem Zw.rK_6_4 : Zw.LK 6 4 = some Zw.p4 := by kernel_rfl
theorem Zw.rK_6_5 : Zw.LK 6 5 = some Zw.p4 := by kernel_rfl
theorem Zw.rK6 (K : Nat) (h : K < 6) : Zw.LK 6 K = some Zw.p4 := by
  rcases (show K = 0 ∨ K = 1 ∨ K = 2 ∨ K = 3 ∨ K = 4 ∨ K = 5 by omega) with h | h | h | h | h | h
  · subst h; exact Zw.rK_6_0
  · subst h; exact Zw.rK_6_1
  · subst h; exact Zw.rK_6_2
  · subst h; exact Zw.rK_6_3
  · subst h; exact Zw.rK_6_4
  · subst h; exact Zw.rK_6_5
theorem Zw.rK_8_0 : Zw.LK 8 0 = some Zw.p4 := by kernel_rfl
theorem Zw.rK_8_1 : Zw.LK 8 1 = some Zw.p4 := by kernel_rfl
theorem Zw.rK_8_2 : Zw.LK 8 2 = some Zw.p4 := by kernel_rfl
theorem Zw.rK_8_3 : Zw.LK 8 3 = some Zw.p4 := by kernel_rfl
theorem Zw.rK_8_4 : Zw.LK 8 4 = some Zw.p4 := by kernel_rfl
theorem Zw.rK_8_5 : Zw.LK 8 5 = some Zw.p4 := by kernel_rfl
theorem Zw.rK_8_6 : Zw.LK 8 6 = some Zw.p4 := by kernel_rfl
theorem Zw.rK_8_7 : Zw.LK 8 7 = some Zw.p4 := by kernel_rfl
theorem Zw.rK8 (K : Nat) (h : K < 8) : Zw.LK 8 K = some Zw.p4 := by
  rcases (show K = 0 ∨ K = 1 ∨ K = 2 ∨ K = 3 ∨ K = 4 ∨ K = 5 ∨ K = 6 ∨ K = 7 by omega) with h | h | h | h | h | h | h | h
  · subst h; exact Zw.rK_8_0
  · subst h; exact Zw.rK_8_1
  · subst h; exact Zw.rK_8_2
  · subst h; exact Zw.rK_8_3
  · subst h; exact Zw.rK_8_4
  · subst h; exact Zw.rK_8_5
  · subst h; exact Zw.rK_8_6
  · subst h; exact Zw.rK_8_7
theorem Zw.rK_10_0 : Zw.LK 10 0 = some Zw.p4 := by kernel_rfl
theorem Zw.rK_10_1 : Zw.LK 10 1 = some Zw.p4 := by kernel_rfl
theorem Zw.rK_10_2 : Zw.LK 10 2 = some Zw.p4 := by kernel_rfl
theorem Zw.rK_10_3 : Zw.LK 10 3 = some Zw.p4 := by kernel_rfl
theorem Zw.rK_10_4 : Zw.LK 10 4 = some Zw.p4 := by kernel_rfl
theorem Zw.rK_10_5 : Zw.LK 10 5 = some Zw.p4 := by kernel_rfl
theorem Zw.rK_10_6 : Zw.LK 10 6 = some Zw.p4 := by kernel_rfl
theorem Zw.rK_10_7 : Zw.LK 10 7 = some Zw.p4 := by kernel_rfl
theorem Zw.rK_10_8 : Zw.LK 10 8 = some Zw.p4 := by kernel_rfl
theorem Zw.rK_10_9 : Zw.LK 10 9 = some Zw.p4 := by kernel_rfl
theorem Zw.rK10 (K : Nat) (h : K < 10) : Zw.LK 10 K = some Zw.p4 := by
  rcases (show K = 0 ∨ K = 1 ∨ K = 2 ∨ K = 3 ∨ K = 4 ∨ K = 5 ∨ K = 6 ∨ K = 7 ∨ K = 8 ∨ K = 9 by omega) with h | h | h | h | h | h | h | h | h | h
  · subst h; exact Zw.rK_10_0
  · subst h; exact Zw.rK_10_1
  · subst h; exact Zw.rK_10_2
  · subst h; exact Zw.rK_10_3
  · subst h; exact Zw.rK_10_4
  · subst h; exact Zw.rK_10_5
  · subst h; exact Zw.rK_10_6
  · subst h; exact Zw.rK_10_7
  · subst h; exact Zw.rK_10_8
  · subst h; exact Zw.rK_10_9
theorem Zw.rK_12_0 : Zw.LK 12 0 = some Zw.p4 := by kernel_rfl
theorem Zw.rK_12_1 : Zw.LK 12 1 = some Zw.p4 := by kernel_rfl
theorem Zw.rK_12_2 : Zw.LK 12 2 = some Zw.p4 := by kernel_rfl
theorem Zw.rK_12_3 : Zw.LK 12 3 = some Zw.p4 := by kernel_rfl
theorem Zw.rK_12_4 : Zw.LK 12 4 = some Zw.p4 := by kernel_rfl
theorem Zw.rK_12_5 : Zw.LK 12 5 = some Zw.p4 := by kernel_rfl
theorem Zw.rK_12_6 : Zw.LK 12 6 = some Zw.p4 := by kernel_rfl
theorem Zw.rK_12_7 : Zw.LK 12 7 = some Zw.p4 := by kernel_rfl
theorem Zw.rK_12_8 : Zw.LK 12 8 = some Zw.p4 := by kernel_rfl
theorem Zw.rK_12_9 : Zw.LK 12 9 = some Zw.p4 := by kernel_rfl
theorem Zw.rK_12_10 : Zw.LK 12 10 = some Zw.p4 := by kernel_rfl
theorem Zw.rK_12_11 : Zw.LK 12 11 = some Zw.p4 := by kernel_rfl
theorem Zw.rK12 (K : Nat) (h : K < 12) : Zw.LK 12 K = some Zw.p4 := by
  rcases (show K = 0 ∨ K = 1 ∨ K = 2 ∨ K = 3 ∨ K = 4 ∨ K = 5 ∨ K = 6 ∨ K = 7 ∨ K = 8 ∨ K = 9 ∨ K = 10 ∨ K = 11 by omega) with h | h | h | h | h | h | h | h | h | h | h | h
  · subst h; exact Zw.rK_12_0
  · subst h; exact Zw.rK_12_1
  · subst h; exact Zw.rK_12_2
  · subst h; exact Zw.rK_12_3
  · subst h; exact Zw.rK_12_4
  · subst h; exact Zw.rK_12_5
  · subst h; exact Zw.rK_12_6
  · subst h; exact Zw.rK_12_7
  · subst h; exact Zw.rK_12_8
  · subst h; exact Zw.rK_12_9
  · subst h; exact Zw.rK_12_10
  · subst h; exact Zw.rK_12_11
theorem Zw.rK_14_0 : Zw.LK 14 0 = some Zw.p4 := by kernel_rfl
theorem Zw.rK_14_1 : Zw.LK 14 1 = some Zw.p4 := by kernel_rfl
theorem Zw.rK_14_2 : Zw.LK 14 2 = some Zw.p4 := by kernel_rfl
theorem Zw.rK_14_3 : Zw.LK 14 3 = some Zw.p4 := by kernel_rfl
theorem Zw.rK_14_4 : Zw.LK 14 4 = some Zw.p4 := by kernel_rfl
theorem Zw.rK_14_5 : Zw.LK 14 5 = some Zw.p4 := by kernel_rfl
theorem Zw.rK_14_6 : Zw.LK 14 6 = some Zw.p4 := by kernel_rfl
theorem Zw.rK_14_7 : Zw.LK 14 7 = some Zw.p4 := by kernel_rfl
theorem Zw.rK_14_8 : Zw.LK 14 8 = some Zw.p4 := by kernel_rfl
theorem Zw.rK_14_9 : Zw.LK 14 9 = some Zw.p4 := by kernel_rfl
theorem Zw.rK_14_10 : Zw.LK 14 10 = some Zw.p4 := by kernel_rfl
theorem Zw.rK_14_11 : Zw.LK 14 11 = some Zw.p4 := by kernel_rfl
theorem Zw.rK_14_12 : Zw.LK 14 12 = some Zw.p4 := by kernel_rfl
theorem Zw.rK_14_13 : Zw.LK 14 13 = some Zw.p4 := by kernel_rfl
theorem Zw.rK14 (K : Nat) (h : K < 14) : Zw.LK 14 K = some Zw.p4 := by
  rcases (show K = 0 ∨ K = 1 ∨ K = 2 ∨ K = 3 ∨ K = 4 ∨ K = 5 ∨ K = 6 ∨ K = 7 ∨ K = 8 ∨ K = 9 ∨ K = 10 ∨ K = 11 ∨ K = 12 ∨ K = 13 by omega) with h | h | h | h | h | h | h | h | h | h | h | h | h | h
  · subst h; exact Zw.rK_14_0
  · subst h; exact Zw.rK_14_1
  · subst h; exact Zw.rK_14_2
  · subst h; exact Zw.rK_14_3
  · subst h; exact Zw.rK_14_4
  · subst h; exact Zw.rK_14_5
  · subst h; exact Zw.rK_14_6
  · subst h; exact Zw.rK_14_7
  · subst h; exact Zw.rK_14_8
  · subst h; exact Zw.rK_14_9
  · subst h; exact Zw.rK_14_10
  · subst h; exact Zw.rK_14_11
  · subst h; exact Zw.rK_14_12
  · subst h; exact Zw.rK_14_13
theorem Zw.rK_16_0 : Zw.LK 16 0 = some Zw.p4 := by kernel_rfl
theorem Zw.rK_16_1 : Zw.LK 16 1 = some Zw.p4 := by kernel_rfl
theorem Zw.rK_16_2 : Zw.LK 16 2 = some Zw.p4 := by kernel_rfl
theorem Zw.rK_16_3 : Zw.LK 16 3 = some Zw.p4 := by kernel_rfl
theorem Zw.rK_16_4 : Zw.LK 16 4 = some Zw.p4 := by kernel_rfl
theorem Zw.rK_16_5 : Zw.LK 16 5 = some Zw.p4 := by kernel_rfl
theorem Zw.rK_16_6 : Zw.LK 16 6 = some Zw.p4 := by kernel_rfl
theorem Zw.rK_16_7 : Zw.LK 16 7 = some Zw.p4 := by kernel_rfl
theorem Zw.rK_16_8 : Zw.LK 16 8 = some Zw.p4 := by kernel_rfl
theorem Zw.rK_16_9 : Zw.LK 16 9 = some Zw.p4 := by kernel_rfl
theorem Zw.rK_16_10 : Zw.LK 16 10 = some Zw.p4 := by kernel_rfl
theorem Zw.rK_16_11 : Zw.LK 16 11 = some Zw.p4 := by kernel_rfl
theorem Zw.rK_16_12 : Zw.LK 16 12 = some Zw.p4 := by kernel_rfl
theorem Zw.rK_16_13 : Zw.LK 16 13 = some Zw.p4 := by kernel_rfl
theorem Zw.rK_16_14 : Zw.LK 16 14 = some Zw.p4 := by kernel_rfl
theorem Zw.rK_16_15 : Zw.LK 16 15 = some Zw.p4 := by kernel_rfl
theorem Zw.rK16 (K : Nat) (h : K < 16) : Zw.LK 16 K = some Zw.p4 := by
  rcases (show K = 0 ∨ K = 1 ∨ K = 2 ∨ K = 3 ∨ K = 4 ∨ K = 5 ∨ K = 6 ∨ K = 7 ∨ K = 8 ∨ K = 9 ∨ K = 10 ∨ K = 11 ∨ K = 12 ∨ K = 13 ∨ K = 14 ∨ K = 15 by omega) with h | h | h | h | h | h | h | h | h | h | h | h | h | h | h | h
  · subst h; exact Zw.rK_16_0
  · subst h; exact Zw.rK_16_1
  · subst h; exact Zw.rK_16_2
  · subst h; exact Zw.rK_16_3
  · subst h; exact Zw.rK_16_4
  · subst h; exact Zw.rK_16_5
  · subst h; exact Zw.rK_16_6
  · subst h; exact Zw.rK_16_7
  · subst h; exact Zw.rK_16_8
  · subst h; exact Zw.rK_16_9
  · subst h; exact Zw.rK_16_10
  · subst h; exact Zw.rK_16_11
  · subst h; exact Zw.rK_16_12
  · subst h; exact Zw.rK_16_13
  · subst h; exact Zw.rK_16_14
  · subst h; exact Zw.rK_16_15
theorem Zw.rK_18_0 : Zw.LK 18 0 = some Zw.p4 := by kernel_rfl
theorem Zw.rK_18_1 : Zw.LK 18 1 = some Zw.p4 := by kernel_rfl
theorem Zw.rK_18_2 : Zw.LK 18 2 = some Zw.p4 := by kernel_rfl
theorem Zw.rK_18_3 : Zw.LK 18 3 = some Zw.p4 := by kernel_rfl
theorem Zw.rK_18_4 : Zw.LK 18 4 = some Zw.p4 := by kernel_rfl
theorem Zw.rK_18_5 : Zw.LK 18 5 = some Zw.p4 := by kernel_rfl
theorem Zw.rK_18_6 : Zw.LK 18 6 = some Zw.p4 := by kernel_rfl
theorem Zw.rK_18_7 : Zw.LK 18 7 = some Zw.p4 := by kernel_rfl
theorem Zw.rK_18_8 : Zw.LK 18 8 = some Zw.p4 := by kernel_rfl
theorem Zw.rK_18_9 : Zw.LK 18 9 = some Zw.p4 := by kernel_rfl
theorem Zw.rK_18_10 : Zw.LK 18 10 = some Zw.p4 := by kernel_rfl
theorem Zw.rK_18_11 : Zw.LK 18 11 = some Zw.p4 := by kernel_rfl
theorem Zw.rK_18_12 : Zw.LK 18 12 = some Zw.p4 := by kernel_rfl
theorem Zw.rK_18_13 : Zw.LK 18 13 = some Zw.p4 := by kernel_rfl
theorem Zw.rK_18_14 : Zw.LK 18 14 = some Zw.p4 := by kernel_rfl
theorem Zw.rK_18_15 : Zw.LK 18 15 = some Zw.p4 := by kernel_rfl
theorem Zw.rK_18_16 : Zw.LK 18 16 = some Zw.p4 := by kernel_rfl
theorem Zw.rK_18_17 : Zw.LK 18 17 = some Zw.p4 := by kernel_rfl
theorem Zw.rK18 (K : Nat) (h : K < 18) : Zw.LK 18 K = some Zw.p4 := by
  rcases (show K = 0 ∨ K = 1 ∨ K = 2 ∨ K = 3 ∨ K = 4 ∨ K = 5 ∨ K = 6 ∨ K = 7 ∨ K = 8 ∨ K = 9 ∨ K = 10 ∨ K = 11 ∨ K = 12 ∨ K = 13 ∨ K = 14 ∨ K = 15 ∨ K = 16 ∨ K = 17 by omega) with h | h | h | h | h | h | h | h | h | h | h | h | h | h | h | h | h | h
  · subst h; exact Zw.rK_18_0
  · subst h; exact Zw.rK_18_1
  · subst h; exact Zw.rK_18_2
  · subst h; exact Zw.rK_18_3
  · subst h; exact Zw.rK_18_4
  · subst h; exact Zw.rK_18_5
  · subst h; exact Zw.rK_18_6
  · subst h; exact Zw.rK_18_7
  · subst h; exact Zw.rK_18_8
  · subst h; exact Zw.rK_18_9
  · subst h; exact Zw.rK_18_10
  · subst h; exact Zw.rK_18_11
  · subst h; exact Zw.rK_18_12
  · subst h; exact Zw.rK_18_13
  · subst h; exact Zw.rK_18_14
  · subst h; exact Zw.rK_18_15
  · subst h; exact Zw.rK_18_16
  · subst h; exact Zw.rK_18_17
theorem Zw.rK_20_0 : Zw.LK 20 0 = some Zw.p4 := by kernel_rfl
theorem Zw.rK_20_1 : Zw.LK 20 1 = some Zw.p4 := by kernel_rfl
theorem Zw.rK_20_2 : Zw.LK 20 2 = some Zw.p4 := by kernel_rfl
theorem Zw.rK_20_3 : Zw.LK 20 3 = some Zw.p4 := by kernel_rfl
theorem Zw.rK_20_4 : Zw.LK 20 4 = some Zw.p4 := by kernel_rfl
theorem Zw.rK_20_5 : Zw.LK 20 5 = some Zw.p4 := by kernel_rfl
theorem Zw.rK_20_6 : Zw.LK 20 6 = some Zw.p4 := by kernel_rfl
theorem Zw.rK_20_7 : Zw.LK 20 7 = some Zw.p4 := by kernel_rfl
theorem Zw.rK_20_8 : Zw.LK 20 8 = some Zw.p4 := by kernel_rfl
theorem Zw.rK_20_9 : Zw.LK 20 9 = some Zw.p4 := by kernel_rfl
theorem Zw.rK_20_10 : Zw.LK 20 10 = some Zw.p4 := by kernel_rfl
theorem Zw.rK_20_11 : Zw.LK 20 11 = some Zw.p4 := by kernel_rfl
theorem Zw.rK_20_12 : Zw.LK 20 12 = some Zw.p4 := by kernel_rfl
theorem Zw.rK_20_13 : Zw.LK 20 13 = some Zw.p4 := by kernel_rfl
theorem Zw.rK_20_14 : Zw.LK 20 14 = some Zw.p4 := by kernel_rfl
theorem Zw.rK_20_15 : Zw.LK 20 15 = some Zw.p4 := by kernel_rfl
theorem Zw.rK_20_16 : Zw.LK 20 16 = some Zw.p4 := by kernel_rfl
theorem Zw.rK_20_17 : Zw.LK 20 17 = some Zw.p4 := by kernel_rfl
theorem Zw.rK_20_18 : Zw.LK 20 18 = some Zw.p4 := by kernel_rfl
theorem Zw.rK_20_19 : Zw.LK 20 19 = some Zw.p4 := by kernel_rfl
theorem Zw.rK20 (K : Nat) (h : K < 20) : Zw.LK 20 K = some Zw.p4 := by
  rcases (show K = 0 ∨ K = 1 ∨ K = 2 ∨ K = 3 ∨ K = 4 ∨ K = 5 ∨ K = 6 ∨ K = 7 ∨ K = 8 ∨ K = 9 ∨ K = 10 ∨ K = 11 ∨ K = 12 ∨ K = 13 ∨ K = 14 ∨ K = 15 ∨ K = 16 ∨ K = 17 ∨ K = 18 ∨ K = 19 by omega) with h | h | h | h | h | h | h | h | h | h | h | h | h | h | h | h | h | h | h | h
  · subst h; exact Zw.rK_20_0
  · subst h; exact Zw.rK_20_1
  · subst h; exact Zw.rK_20_2
  · subst h; exact Zw.rK_20_3
  · subst h; exact Zw.rK_20_4
  · subst h; exact Zw.rK_20_5
  · subst h; exact Zw.rK_20_6
  · subst h; exact Zw.rK_20_7
  · subst h; exact Zw.rK_20_8
  · subst h; exact Zw.rK_20_9
  · subst h; exact Zw.rK_20_10
  · subst h; exact Zw.rK_20_11
  · subst h; exact Zw.rK_20_12
  · subst h; exact Zw.rK_20_13
  · subst h; exact Zw.rK_20_14
  · subst h; exact Zw.rK_20_15
  · subst h; exact Zw.rK_20_16
  · subst h; exact Zw.rK_20_17
  · subst h; exact Zw.rK_20_18
  · subst h; exact Zw.rK_20_19
theorem Zw.rK_22_0 : Zw.LK 22 0 = some Zw.p4 := by kernel_rfl
theorem Zw.rK_22_1 : Zw.LK 22 1 = some Zw.p4 := by kernel_rfl
theorem Zw.rK_22_2 : Zw.LK 22 2 = some Zw.p4 := by kernel_rfl
theorem Zw.rK_22_3 : Zw.LK 22 3 = some Zw.p4 := by kernel_rfl
theorem Zw.rK_22_4 : Zw.LK 22 4 = some Zw.p4 := by kernel_rfl
theorem Zw.rK_22_5 : Zw.LK 22 5 = some Zw.p4 := by kernel_rfl
theorem Zw.rK_22_6 : Zw.LK 22 6 = some Zw.p4 := by kernel_rfl
theorem Zw.rK_22_7 : Zw.LK 22 7 = some Zw.p4 := by kernel_rfl
theorem Zw.rK_22_8 : Zw.LK 22 8 = some Zw.p4 := by kernel_rfl
theorem Zw.rK_22_9 : Zw.LK 22 9 = some Zw.p4 := by kernel_rfl
theorem Zw.rK_22_10 : Zw.LK 22 10 = some Zw.p4 := by kernel_rfl
theorem Zw.rK_22_11 : Zw.LK 22 11 = some Zw.p4 := by kernel_rfl
theorem Zw.rK_22_12 : Zw.LK 22 12 = some Zw.p4 := by kernel_rfl
theorem Zw.rK_22_13 : Zw.LK 22 13 = some Zw.p4 := by kernel_rfl
theorem Zw.rK_22_14 : Zw.LK 22 14 = some Zw.p4 := by kernel_rfl
theorem Zw.rK_22_15 : Zw.LK 22 15 = some Zw.p4 := by kernel_rfl
theorem Zw.rK_22_16 : Zw.LK 22 16 = some Zw.p4 := by kernel_rfl
theorem Zw.rK_22_17 : Zw.LK 22 17 = some Zw.p4 := by kernel_rfl
theorem Zw.rK_22_18 : Zw.LK 22 18 = some Zw.p4 := by kernel_rfl
theorem Zw.rK_22_19 : Zw.LK 22 19 = some Zw.p4 := by kernel_rfl
theorem Zw.rK_22_20 : Zw.LK 22 20 = some Zw.p4 := by kernel_rfl
theorem Zw.rK_22_21 : Zw.LK 22 21 = some Zw.p4 := by kernel_rfl
theorem Zw.rK22 (K : Nat) (h : K < 22) : Zw.LK 22 K = some Zw.p4 := by
  rcases (show K = 0 ∨ K = 1 ∨ K = 2 ∨ K = 3 ∨ K = 4 ∨ K = 5 ∨ K = 6 ∨ K = 7 ∨ K = 8 ∨ K = 9 ∨ K = 10 ∨ K = 11 ∨ K = 12 ∨ K = 13 ∨ K = 14 ∨ K = 15 ∨ K = 16 ∨ K = 17 ∨ K = 18 ∨ K = 19 ∨ K = 20 ∨ K = 21 by omega) with h | h | h | h | h | h | h | h | h | h | h | h | h | h | h | h | h | h | h | h | h | h
  · subst h; exact Zw.rK_22_0
  · subst h; exact Zw.rK_22_1
  · subst h; exact Zw.rK_22_2
  · subst h; exact Zw.rK_22_3
  · subst h; exact Zw.rK_22_4
  · subst h; exact Zw.rK_22_5
  · subst h; exact Zw.rK_22_6
  · subst h; exact Zw.rK_22_7
  · subst h; exact Zw.rK_22_8
  · subst h; exact Zw.rK_22_9
  · subst h; exact Zw.rK_22_10
  · subst h; exact Zw.rK_22_11
  · subst h; exact Zw.rK_22_12
  · subst h; exact Zw.rK_22_13
  · subst h; exact Zw.rK_22_14
  · subst h; exact Zw.rK_22_15
  · subst h; exact Zw.rK_22_16
  · subst h; exact Zw.rK_22_17
  · subst h; exact Zw.rK_22_18
  · subst h; exact Zw.rK_22_19
  · subst h; exact Zw.rK_22_20
  · subst h; exact Zw.rK_22_21
theorem Zw.rK_24_0 : Zw.LK 24 0 = some Zw.p4 := by kernel_rfl
theorem Zw.rK_24_1 : Zw.LK 24 1 = some Zw.p4 := by kernel_rfl
theorem Zw.rK_24_2 : Zw.LK 24 2 = some Zw.p4 := by kernel_rfl
theorem Zw.rK_24_3 : Zw.LK 24 3 = some Zw.p4 := by kernel_rfl
theorem Zw.rK_24_4 : Zw.LK 24 4 = some Zw.p4 := by kernel_rfl
theorem Zw.rK_24_5 : Zw.LK 24 5 = some Zw.p4 := by kernel_rfl
theorem Zw.rK_24_6 : Zw.LK 24 6 = some Zw.p4 := by kernel_rfl
theorem Zw.rK_24_7 : Zw.LK 24 7 = some Zw.p4 := by kernel_rfl
theorem Zw.rK_24_8 : Zw.LK 24 8 = some Zw.p4 := by kernel_rfl
theorem Zw.rK_24_9 : Zw.LK 24 9 = some Zw.p4 := by kernel_rfl
theorem Zw.rK_24_10 : Zw.LK 24 10 = some Zw.p4 := by kernel_rfl
theorem Zw.rK_24_11 : Zw.LK 24 11 = some Zw.p4 := by kernel_rfl
theorem Zw.rK_24_12 : Zw.LK 24 12 = some Zw.p4 := by kernel_rfl
theorem Zw.rK_24_13 : Zw.LK 24 13 = some Zw.p4 := by kernel_rfl
theorem Zw.rK_24_14 : Zw.LK 24 14 = some Zw.p4 := by kernel_rfl
theorem Zw.rK_24_15 : Zw.LK 24 15 = some Zw.p4 := by kernel_rfl
theorem Zw.rK_24_16 : Zw.LK 24 16 = some Zw.p4 := by kernel_rfl
theorem Zw.rK_24_17 : Zw.LK 24 17 = some Zw.p4 := by kernel_rfl
theorem Zw.rK_24_18 : Zw.LK 24 18 = some Zw.p4 := by kernel_rfl
theorem Zw.rK_24_19 : Zw.LK 24 19 = some Zw.p4 := by kernel_rfl
theorem Zw.rK_24_20 : Zw.LK 24 20 = some Zw.p4 := by kernel_rfl
theorem Zw.rK_24_21 : Zw.LK 24 21 = some Zw.p4 := by kernel_rfl
theorem Zw.rK_24_22 : Zw.LK 24 22 = some Zw.p4 := by kernel_rfl
theorem Zw.rK_24_23 : Zw.LK 24 23 = some Zw.p4 := by kernel_rfl
theorem Zw.rK24 (K : Nat) (h : K < 24) : Zw.LK 24 K = some Zw.p4 := by
  rcases (show K = 0 ∨ K = 1 ∨ K = 2 ∨ K = 3 ∨ K = 4 ∨ K = 5 ∨ K = 6 ∨ K = 7 ∨ K = 8 ∨ K = 9 ∨ K = 10 ∨ K = 11 ∨ K = 12 ∨ K = 13 ∨ K = 14 ∨ K = 15 ∨ K = 16 ∨ K = 17 ∨ K = 18 ∨ K = 19 ∨ K = 20 ∨ K = 21 ∨ K = 22 ∨ K = 23 by omega) with h | h | h | h | h | h | h | h | h | h | h | h | h | h | h | h | h | h | h | h | h | h | h | h
  · subst h; exact Zw.rK_24_0
  · subst h; exact Zw.rK_24_1
  · subst h; exact Zw.rK_24_2
  · subst h; exact Zw.rK_24_3
  · subst h; exact Zw.rK_24_4
  · subst h; exact Zw.rK_24_5
  · subst h; exact Zw.rK_24_6
  · subst h; exact Zw.rK_24_7
  · subst h; exact Zw.rK_24_8
  · subst h; exact Zw.rK_24_9
  · subst h; exact Zw.rK_24_10
  · subst h; exact Zw.rK_24_11
  · subst h; exact Zw.rK_24_12
  · subst h; exact Zw.rK_24_13
  · subst h; exact Zw.rK_24_14
  · subst h; exact Zw.rK_24_15
  · subst h; exact Zw.rK_24_16
  · subst h; exact Zw.rK_24_17
  · subst h; exact Zw.rK_24_18
  · subst h; exact Zw.rK_24_19
  · subst h; exact Zw.rK_24_20
  · subst h; exact Zw.rK_24_21
  · subst h; exact Zw.rK_24_22
  · subst h; exact Zw.rK_24_23
theorem Zw.rK_26_0 : Zw.LK 26 0 = some Zw.p4 := by kernel_rfl
theorem Zw.rK_26_1 : Zw.LK 26 1 = some Zw.p4 := by kernel_rfl
theorem Zw.rK_26_2 : Zw.LK 26 2 = some Zw.p4 := by kernel_rfl
theorem Zw.rK_26_3 : Zw.LK 26 3 = some Zw.p4 := by kernel_rfl
theorem Zw.rK_26_4 : Zw.LK 26 4 = some Zw.p4 := by kernel_rfl
theorem Zw.rK_26_5 : Zw.LK 26 5 = some Zw.p4 := by kernel_rfl
theorem Zw.rK_26_6 : Zw.LK 26 6 = some Zw.p4 := by kernel_rfl
theorem Zw.rK_26_7 : Zw.LK 26 7 = some Zw.p4 := by kernel_rfl
theorem Zw.rK_26_8 : Zw.LK 26 8 = some Zw.p4 := by kernel_rfl
theorem Zw.rK_26_9 : Zw.LK 26 9 = some Zw.p4 := by kernel_rfl
theorem Zw.rK_26_10 : Zw.LK 26 10 = some Zw.p4 := by kernel_rfl
theorem Zw.rK_26_11 : Zw.LK 26 11 = some Zw.p4 := by kernel_rfl
theorem Zw.rK_26_12 : Zw.LK 26 12 = some Zw.p4 := by kernel_rfl
theorem Zw.rK_26_13 : Zw.LK 26 13 = some Zw.p4 := by kernel_rfl
theorem Zw.rK_26_14 : Zw.LK 26 14 = some Zw.p4 := by kernel_rfl
theorem Zw.rK_26_15 : Zw.LK 26 15 = some Zw.p4 := by kernel_rfl
theorem Zw.rK_26_16 : Zw.LK 26 16 = some Zw.p4 := by kernel_rfl
theorem Zw.rK_26_17 : Zw.LK 26 17 = some Zw.p4 := by kernel_rfl
theorem Zw.rK_26_18 : Zw.LK 26 18 = some Zw.p4 := by kernel_rfl
theorem Zw.rK_26_19 : Zw.LK 26 19 = some Zw.p4 := by kernel_rfl
theorem Zw.rK_26_20 : Zw.LK 26 20 = some Zw.p4 := by kernel_rfl
theorem Zw.rK_26_21 : Zw.LK 26 21 = some Zw.p4 := by kernel_rfl
theorem Zw.rK_26_22 : Zw.LK 26 22 = some Zw.p4 := by kernel_rfl
theorem Zw.rK_26_23 : Zw.LK 26 23 = some Zw.p4 := by kernel_rfl
theorem Zw.rK_26_24 : Zw.LK 26 24 = some Zw.p4 := by kernel_rfl
theorem Zw.rK_26_25 : Zw.LK 26 25 = some Zw.p4 := by kernel_rfl
theorem Zw.rK26 (K : Nat) (h : K < 26) : Zw.LK 26 K = some Zw.p4 := by
  rcases (show K = 0 ∨ K = 1 ∨ K = 2 ∨ K = 3 ∨ K = 4 ∨ K = 5 ∨ K = 6 ∨ K = 7 ∨ K = 8 ∨ K = 9 ∨ K = 10 ∨ K = 11 ∨ K = 12 ∨ K = 13 ∨ K = 14 ∨ K = 15 ∨ K = 16 ∨ K = 17 ∨ K = 18 ∨ K = 19 ∨ K = 20 ∨ K = 21 ∨ K = 22 ∨ K = 23 ∨ K = 24 ∨ K = 25 by omega) with h | h | h | h | h | h | h | h | h | h | h | h | h | h | h | h | h | h | h | h | h | h | h | h | h | h
  · subst h; exact Zw.rK_26_0
  · subst h; exact Zw.rK_26_1
  · subst h; exact Zw.rK_26_2
  · subst h; exact Zw.rK_26_3
  · subst h; exact Zw.rK_26_4
  · subst h; exact Zw.rK_26_5
  · subst h; exact Zw.rK_26_6
  · subst h; exact Zw.rK_26_7
  · subst h; exact Zw.rK_26_8
  · subst h; exact Zw.rK_26_9
  · subst h; exact Zw.rK_26_10
  · subst h; exact Zw.rK_26_11
  · subst h; exact Zw.rK_26_12
  · subst h; exact Zw.rK_26_13
  · subst h; exact Zw.rK_26_14
  · subst h; exact Zw.rK_26_15
  · subst h; exact Zw.rK_26_16
  · subst h; exact Zw.rK_26_17
  · subst h; exact Zw.rK_26_18
  · subst h; exact Zw.rK_26_19
  · subst h; exact Zw.rK_26_20
  · subst h; exact Zw.rK_26_21
  · subst h; exact Zw.rK_26_22
  · subst h; exact Zw.rK_26_23
  · subst h; exact Zw.rK_26_24
  · subst h; exact Zw.rK_26_25
theorem Zw.rK_28_0 : Zw.LK 28 0 = some Zw.p4 := by kernel_rfl
theorem Zw.rK_28_1 : Zw.LK 28 1 = some Zw.p4 := by kernel_rfl
theorem Zw.rK_28_2 : Zw.LK 28 2 = some Zw.p4 := by kernel_rfl
theorem Zw.rK_28_3 : Zw.LK 28 3 = some Zw.p4 := by kernel_rfl
theorem Zw.rK_28_4 : Zw.LK 28 4 = some Zw.p4 := by kernel_rfl
theorem Zw.rK_28_5 : Zw.LK 28 5 = some Zw.p4 := by kernel_rfl
theorem Zw.rK_28_6 : Zw.LK 28 6 = some Zw.p4 := by kernel_rfl
theorem Zw.rK_28_7 : Zw.LK 28 7 = some Zw.p4 := by kernel_rfl
theorem Zw.rK_28_8 : Zw.LK 28 8 = some Zw.p4 := by kernel_rfl
theorem Zw.rK_28_9 : Zw.LK 28 9 = some Zw.p4 := by kernel_rfl
theorem Zw.rK_28_10 : Zw.LK 28 10 = some Zw.p4 := by kernel_rfl
theorem Zw.rK_28_11 : Zw.LK 28 11 = some Zw.p4 := by kernel_rfl
theorem Zw.rK_28_12 : Zw.LK 28 12 = some Zw.p4 := by kernel_rfl
theorem Zw.rK_28_13 : Zw.LK 28 13 = some Zw.p4 := by kernel_rfl
theorem Zw.rK_28_14 : Zw.LK 28 14 = some Zw.p4 := by kernel_rfl
theorem Zw.rK_28_15 : Zw.LK 28 15 = some Zw.p4 := by kernel_rfl
theorem Zw.rK_28_16 : Zw.LK 28 16 = some Zw.p4 := by kernel_rfl
theorem Zw.rK_28_17 : Zw.LK 28 17 = some Zw.p4 := by kernel_rfl
theorem Zw.rK_28_18 : Zw.LK 28 18 = some Zw.p4 := by kernel_rfl
theorem Zw.rK_28_19 : Zw.LK 28 19 = some Zw.p4 := by kernel_rfl
theorem Zw.rK_28_20 : Zw.LK 28 20 = some Zw.p4 := by kernel_rfl
theorem Zw.rK_28_21 : Zw.LK 28 21 = some Zw.p4 := by kernel_rfl
theorem Zw.rK_28_22 : Zw.LK 28 22 = some Zw.p4 := by kernel_rfl
theorem Zw.rK_28_23 : Zw.LK 28 23 = some Zw.p4 := by kernel_rfl
theorem Zw.rK_28_24 : Zw.LK 28 24 = some Zw.p4 := by kernel_rfl
theorem Zw.rK_28_25 : Zw.LK 28 25 = some Zw.p4 := by kernel_rfl
theorem Zw.rK_28_26 : Zw.LK 28 26 = some Zw.p4 := by kernel_rfl
theorem Zw.rK_28_27 : Zw.LK 28 27 = some Zw.p4 := by kernel_rfl
theorem Zw.rK28 (K : Nat) (h : K < 28) : Zw.LK 28 K = some Zw.p4 := by
  rcases (show K = 0 ∨ K = 1 ∨ K = 2 ∨ K = 3 ∨ K = 4 ∨ K = 5 ∨ K = 6 ∨ K = 7 ∨ K = 8 ∨ K = 9 ∨ K = 10 ∨ K = 11 ∨ K = 12 ∨ K = 13 ∨ K = 14 ∨ K = 15 ∨ K = 16 ∨ K = 17 ∨ K = 18 ∨ K = 19 ∨ K = 20 ∨ K = 21 ∨ K = 22 ∨ K = 23 ∨ K = 24 ∨ K = 25 ∨ K = 26 ∨ K = 27 by omega) with h | h | h | h | h | h | h | h | h | h | h | h | h | h | h | h | h | h | h | h | h | h | h | h | h | h | h | h
  · subst h; exact Zw.rK_28_0
  · subst h; exact Zw.rK_28_1
  · subst h; exact Zw.rK_28_2
  · subst h; exact Zw.rK_28_3
  · subst h; exact Zw.rK_28_4
  · subst h; exact Zw.rK_28_5
  · subst h; exact Zw.rK_28_6
  · subst h; exact Zw.rK_28_7
  · subst h; exact Zw.rK_28_8
  · subst h; exact Zw.rK_28_9
  · subst h; exact Zw.rK_28_10
  · subst h; exact Zw.rK_28_11
  · subst h; exact Zw.rK_28_12
  · subst h; exact Zw.rK_28_13
  · subst h; exact Zw.rK_28_14
  · subst h; exact Zw.rK_28_15
  · subst h; exact Zw.rK_28_16
  · subst h; exact Zw.rK_28_17
  · subst h; exact Zw.rK_28_18
  · subst h; exact Zw.rK_28_19
  · subst h; exact Zw.rK_28_20
  · subst h; exact Zw.rK_28_21
  · subst h; exact Zw.rK_28_22
  · subst h; exact Zw.rK_28_23
  · subst h; exact Zw.rK_28_24
  · subst h; exact Zw.rK_28_25
  · subst h; exact Zw.rK_28_26
  · subst h; exact Zw.rK_28_27
theorem Zw.rK_30_0 : Zw.LK 30 0 = some Zw.p4 := by kernel_rfl
theorem Zw.rK_30_1 : Zw.LK 30 1 = some Zw.p4 := by kernel_rfl
theorem Zw.rK_30_2 : Zw.LK 30 2 = some Zw.p4 := by kernel_rfl
theorem Zw.rK_30_3 : Zw.LK 30 3 = some Zw.p4 := by kernel_rfl
theorem Zw.rK_30_4 : Zw.LK 30 4 = some Zw.p4 := by kernel_rfl
theorem Zw.rK_30_5 : Zw.LK 30 5 = some Zw.p4 := by kernel_rfl
theorem Zw.rK_30_6 : Zw.LK 30 6 = some Zw.p4 := by kernel_rfl
theorem Zw.rK_30_7 : Zw.LK 30 7 = some Zw.p4 := by kernel_rfl
theorem Zw.rK_30_8 : Zw.LK 30 8 = some Zw.p4 := by kernel_rfl
theorem Zw.rK_30_9 : Zw.LK 30 9 = some Zw.p4 := by kernel_rfl
theorem Zw.rK_30_10 : Zw.LK 30 10 = some Zw.p4 := by kernel_rfl
theorem Zw.rK_30_11 : Zw.LK 30 11 = some Zw.p4 := by kernel_rfl
theorem Zw.rK_30_12 : Zw.LK 30 12 = some Zw.p4 := by kernel_rfl
theorem Zw.rK_30_13 : Zw.LK 30 13 = some Zw.p4 := by kernel_rfl
theorem Zw.rK_30_14 : Zw.LK 30 14 = some Zw.p4 := by kernel_rfl
theorem Zw.rK_30_15 : Zw.LK 30 15 = some Zw.p4 := by kernel_rfl
theorem Zw.rK_30_16 : Zw.LK 30 16 = some Zw.p4 := by kernel_rfl
theorem Zw.rK_30_17 : Zw.LK 30 17 = some Zw.p4 := by kernel_rfl
theorem Zw.rK_30_18 : Zw.LK 30 18 = some Zw.p4 := by kernel_rfl
theorem Zw.rK_30_19 : Zw.LK 30 19 = some Zw.p4 := by kernel_rfl
theorem Zw.rK_30_20 : Zw.LK 30 20 = some Zw.p4 := by kernel_rfl
theorem Zw.rK_30_21 : Zw.LK 30 21 = some Zw.p4 := by kernel_rfl
theorem Zw.rK_30_22 : Zw.LK 30 22 = some Zw.p4 := by kernel_rfl
theorem Zw.rK_30_23 : Zw.LK 30 23 = some Zw.p4 := by kernel_rfl
theorem Zw.rK_30_24 : Zw.LK 30 24 = some Zw.p4 := by kernel_rfl
theorem Zw.rK_30_25 : Zw.LK 30 25 = some Zw.p4 := by kernel_rfl
theorem Zw.rK_30_26 : Zw.LK 30 26 = some Zw.p4 := by kernel_rfl
theorem Zw.rK_30_27 : Zw.LK 30 27 = some Zw.p4 := by kernel_rfl
theorem Zw.rK_30_28 : Zw.LK 30 28 = some Zw.p4 := by kernel_rfl
theorem Zw.rK_30_29 : Zw.LK 30 29 = some Zw.p4 := by kernel_rfl
theorem Zw.rK30 (K : Nat) (h : K < 30) : Zw.LK 30 K = some Zw.p4 := by
  rcases (show K = 0 ∨ K = 1 ∨ K = 2 ∨ K = 3 ∨ K = 4 ∨ K = 5 ∨ K = 6 ∨ K = 7 ∨ K = 8 ∨ K = 9 ∨ K = 10 ∨ K = 11 ∨ K = 12 ∨ K = 13 ∨ K = 14 ∨ K = 15 ∨ K = 16 ∨ K = 17 ∨ K = 18 ∨ K = 19 ∨ K = 20 ∨ K = 21 ∨ K = 22 ∨ K = 23 ∨ K = 24 ∨ K = 25 ∨ K = 26 ∨ K = 27 ∨ K = 28 ∨ K = 29 by omega) with h | h | h | h | h | h | h | h | h | h | h | h | h | h | h | h | h | h | h | h | h | h | h | h | h | h | h | h | h | h
  · subst h; exact Zw.rK_30_0
  · subst h; exact Zw.rK_30_1
  · subst h; exact Zw.rK_30_2
  · subst h; exact Zw.rK_30_3
  · subst h; exact Zw.rK_30_4
  · subst h; exact Zw.rK_30_5
  · subst h; exact Zw.rK_30_6
  · subst h; exact Zw.rK_30_7
  · subst h; exact Zw.rK_30_8
  · subst h; exact Zw.rK_30_9
  · subst h; exact Zw.rK_30_10
  · subst h; exact Zw.rK_30_11
  · subst h; exact Zw.rK_30_12
  · subst h; exact Zw.rK_30_13
  · subst h; exact Zw.rK_30_14
  · subst h; exact Zw.rK_30_15
  · subst h; exact Zw.rK_30_16
  · subst h; exact Zw.rK_30_17
  · subst h; exact Zw.rK_30_18
  · subst h; exact Zw.rK_30_19
  · subst h; exact Zw.rK_30_20
  · subst h; exact Zw.rK_30_21
  · subst h; exact Zw.rK_30_22
  · subst h; exact Zw.rK_30_23
  · subst h; exact Zw.rK_30_24
  · subst h; exact Zw.rK_30_25
  · subst h; exact Zw.rK_30_26
  · subst h; exact Zw.rK_30_27
  · subst h; exact Zw.rK_30_28
  · subst h; exact Zw.rK_30_29
theorem Zw.rK_32_0 : Zw.LK 32 0 = some Zw.p4 := by kernel_rfl
theorem Zw.rK_32_1 : Zw.LK 32 1 = some Zw.p4 := by kernel_rfl
theorem Zw.rK_32_2 : Zw.LK 32 2 = some Zw.p4 := by kernel_rfl
theorem Zw.rK_32_3 : Zw.LK 32 3 = some Zw.p4 := by kernel_rfl
theorem Zw.rK_32_4 : Zw.LK 32 4 = some Zw.p4 := by kernel_rfl
theorem Zw.rK_32_5 : Zw.LK 32 5 = some Zw.p4 := by kernel_rfl
theorem Zw.rK_32_6 : Zw.LK 32 6 = some Zw.p4 := by kernel_rfl
theorem Zw.rK_32_7 : Zw.LK 32 7 = some Zw.p4 := by kernel_rfl
theorem Zw.rK_32_8 : Zw.LK 32 8 = some Zw.p4 := by kernel_rfl
theorem Zw.rK_32_9 : Zw.LK 32 9 = some Zw.p4 := by kernel_rfl
theorem Zw.rK_32_10 : Zw.LK 32 10 = some Zw.p4 := by kernel_rfl
theorem Zw.rK_32_11 : Zw.LK 32 11 = some Zw.p4 := by kernel_rfl
theorem Zw.rK_32_12 : Zw.LK 32 12 = some Zw.p4 := by kernel_rfl
theorem Zw.rK_32_13 : Zw.LK 32 13 = some Zw.p4 := by kernel_rfl
theorem Zw.rK_32_14 : Zw.LK 32 14 = some Zw.p4 := by kernel_rfl
theorem Zw.rK_32_15 : Zw.LK 32 15 = some Zw.p4 := by kernel_rfl
theorem Zw.rK_32_16 : Zw.LK 32 16 = some Zw.p4 := by kernel_rfl
theorem Zw.rK_32_17 : Zw.LK 32 17 = some Zw.p4 := by kernel_rfl
theorem Zw.rK_32_18 : Zw.LK 32 18 = some Zw.p4 := by kernel_rfl
theorem Zw.rK_32_19 : Zw.LK 32 19 = some Zw.p4 := by kernel_rfl
theorem Zw.rK_32_20 : Zw.LK 32 20 = some Zw.p4 := by kernel_rfl
theorem Zw.rK_32_21 : Zw.LK 32 21 = some Zw.p4 := by kernel_rfl
theorem Zw.rK_32_22 : Zw.LK 32 22 = some Zw.p4 := by kernel_rfl
theorem Zw.rK_32_23 : Zw.LK 32 23 = some Zw.p4 := by kernel_rfl
theorem Zw.rK_32_24 : Zw.LK 32 24 = some Zw.p4 := by kernel_rfl
theorem Zw.rK_32_25 : Zw.LK 32 25 = some Zw.p4 := by kernel_rfl
theorem Zw.rK_32_26 : Zw.LK 32 26 = some Zw.p4 := by kernel_rfl
theorem Zw.rK_32_27 : Zw.LK 32 27 = some Zw.p4 := by kernel_rfl
theorem Zw.rK_32_28 : Zw.LK 32 28 = some Zw.p4 := by kernel_rfl
theorem Zw.rK_32_29 : Zw.LK 32 29 = some Zw.p4 := by kernel_rfl
theorem Zw.rK_32_30 : Zw.LK 32 30 = some Zw.p4 := by kernel_rfl
theorem Zw.rK_32_31 : Zw.LK 32 31 = some Zw.p4 := by kernel_rfl
theorem Zw.rK32 (K : Nat) (h : K < 32) : Zw.LK 32 K = some Zw.p4 := by
  rcases (show K = 0 ∨ K = 1 ∨ K = 2 ∨ K = 3 ∨ K = 4 ∨ K = 5 ∨ K = 6 ∨ K = 7 ∨ K = 8 ∨ K = 9 ∨ K = 10 ∨ K = 11 ∨ K = 12 ∨ K = 13 ∨ K = 14 ∨ K = 15 ∨ K = 16 ∨ K = 17 ∨ K = 18 ∨ K = 19 ∨ K = 20 ∨ K = 21 ∨ K = 22 ∨ K = 23 ∨ K = 24 ∨ K = 25 ∨ K = 26 ∨ K = 27 ∨ K = 28 ∨ K = 29 ∨ K = 30 ∨ K = 31 by omega) with h | h | h | h | h | h | h | h | h | h | h | h | h | h | h | h | h | h | h | h | h | h | h | h | h | h | h | h | h | h | h | h
  · subst h; exact Zw.rK_32_0
  · subst h; exact Zw.rK_32_1
  · subst h; exact Zw.rK_32_2
  · subst h; exact Zw.rK_32_3
  · subst h; exact Zw.rK_32_4
  · subst h; exact Zw.rK_32_5
  · subst h; exact Zw.rK_32_6
  · subst h; exact Zw.rK_32_7
  · subst h; exact Zw.rK_32_8
  · subst h; exact Zw.rK_32_9
  · subst h; exact Zw.rK_32_10
  · subst h; exact Zw.rK_32_11
  · subst h; exact Zw.rK_32_12
  · subst h; exact Zw.rK_32_13
  · subst h; exact Zw.rK_32_14
  · subst h; exact Zw.rK_32_15
  · subst h; exact Zw.rK_32_16
  · subst h; exact Zw.rK_32_17
  · subst h; exact Zw.rK_32_18
  · subst h; exact Zw.rK_32_19
  · subst h; exact Zw.rK_32_20
  · subst h; exact Zw.rK_32_21
  · subst h; exact Zw.rK_32_22
  · subst h; exact Zw.rK_32_23
  · subst h; exact Zw.rK_32_24
  · subst h; exact Zw.rK_32_25
  · subst h; exact Zw.rK_32_26
  · subst h; exact Zw.rK_32_27
  · subst h; exact Zw.rK_32_28
  · subst h; exact Zw.rK_32_29
  · subst h; exact Zw.rK_32_30
  · subst h; exact Zw.rK_32_31
theorem Zw.rK_34_0 : Zw.LK 34 0 = some Zw.p4 := by kernel_rfl
theorem Zw.rK_34_1 : Zw.LK 34 1 = some Zw.p4 := by kernel_rfl
theorem Zw.rK_34_2 : Zw.LK 34 2 = some Zw.p4 := by kernel_rfl
theorem Zw.rK_34_3 : Zw.LK 34 3 = some Zw.p4 := by kernel_rfl
theorem Zw.rK_34_4 : Zw.LK 34 4 = some Zw.p4 := by kernel_rfl
theorem Zw.rK_34_5 : Zw.LK 34 5 = some Zw.p4 := by kernel_rfl
theorem Zw.rK_34_6 : Zw.LK 34 6 = some Zw.p4 := by kernel_rfl
theorem Zw.rK_34_7 : Zw.LK 34 7 = some Zw.p4 := by kernel_rfl
theorem Zw.rK_34_8 : Zw.LK 34 8 = some Zw.p4 := by kernel_rfl
theorem Zw.rK_34_9 : Zw.LK 34 9 = some Zw.p4 := by kernel_rfl
theorem Zw.rK_34_10 : Zw.LK 34 10 = some Zw.p4 := by kernel_rfl
theorem Zw.rK_34_11 : Zw.LK 34 11 = some Zw.p4 := by kernel_rfl
theorem Zw.rK_34_12 : Zw.LK 34 12 = some Zw.p4 := by kernel_rfl
theorem Zw.rK_34_13 : Zw.LK 34 13 = some Zw.p4 := by kernel_rfl
theorem Zw.rK_34_14 : Zw.LK 34 14 = some Zw.p4 := by kernel_rfl
theorem Zw.rK_34_15 : Zw.LK 34 15 = some Zw.p4 := by kernel_rfl
theorem Zw.rK_34_16 : Zw.LK 34 16 = some Zw.p4 := by kernel_rfl
theorem Zw.rK_34_17 : Zw.LK 34 17 = some Zw.p4 := by kernel_rfl
theorem Zw.rK_34_18 : Zw.LK 34 18 = some Zw.p4 := by kernel_rfl
theorem Zw.rK_34_19 : Zw.LK 34 19 = some Zw.p4 := by kernel_rfl
theorem Zw.rK_34_20 : Zw.LK 34 20 = some Zw.p4 := by kernel_rfl
theorem Zw.rK_34_21 : Zw.LK 34 21 = some Zw.p4 := by kernel_rfl
theorem Zw.rK_34_22 : Zw.LK 34 22 = some Zw.p4 := by kernel_rfl
theorem Zw.rK_34_23 : Zw.LK 34 23 = some Zw.p4 := by kernel_rfl
theorem Zw.rK_34_24 : Zw.LK 34 24 = some Zw.p4 := by kernel_rfl
theorem Zw.rK_34_25 : Zw.LK 34 25 = some Zw.p4 := by kernel_rfl
theorem Zw.rK_34_26 : Zw.LK 34 26 = some Zw.p4 := by kernel_rfl
theorem Zw.rK_34_27 : Zw.LK 34 27 = some Zw.p4 := by kernel_rfl
theorem Zw.rK_34_28 : Zw.LK 34 28 = some Zw.p4 := by kernel_rfl
theorem Zw.rK_34_29 : Zw.LK 34 29 = some Zw.p4 := by kernel_rfl
theorem Zw.rK_34_30 : Zw.LK 34 30 = some Zw.p4 := by kernel_rfl
theorem Zw.rK_34_31 : Zw.LK 34 31 = some Zw.p4 := by kernel_rfl
theorem Zw.rK_34_32 : Zw.LK 34 32 = some Zw.p4 := by kernel_rfl
theorem Zw.rK_34_33 : Zw.LK 34 33 = some Zw.p4 := by kernel_rfl
theorem Zw.rK34 (K : Nat) (h : K < 34) : Zw.LK 34 K = some Zw.p4 := by
  rcases (show K = 0 ∨ K = 1 ∨ K = 2 ∨ K = 3 ∨ K = 4 ∨ K = 5 ∨ K = 6 ∨ K = 7 ∨ K = 8 ∨ K = 9 ∨ K = 10 ∨ K = 11 ∨ K = 12 ∨ K = 13 ∨ K = 14 ∨ K = 15 ∨ K = 16 ∨ K = 17 ∨ K = 18 ∨ K = 19 ∨ K = 20 ∨ K = 21 ∨ K = 22 ∨ K = 23 ∨ K = 24 ∨ K = 25 ∨ K = 26 ∨ K = 27 ∨ K = 28 ∨ K = 29 ∨ K = 30 ∨ K = 31 ∨ K = 32 ∨ K = 33 by omega) with h | h | h | h | h | h | h | h | h | h | h | h | h | h | h | h | h | h | h | h | h | h | h | h | h | h | h | h | h | h | h | h | h | h
  · subst h; exact Zw.rK_34_0
  · subst h; exact Zw.rK_34_1
  · subst h; exact Zw.rK_34_2
  · subst h; exact Zw.rK_34_3
  · subst h; exact Zw.rK_34_4
  · subst h; exact Zw.rK_34_5
  · subst h; exact Zw.rK_34_6
  · subst h; exact Zw.rK_34_7
  · subst h; exact Zw.rK_34_8
  · subst h; exact Zw.rK_34_9
  · subst h; exact Zw.rK_34_10
  · subst h; exact Zw.rK_34_11
  · subst h; exact Zw.rK_34_12
  · subst h; exact Zw.rK_34_13
  · subst h; exact Zw.rK_34_14
  · subst h; exact Zw.rK_34_15
  · subst h; exact Zw.rK_34_16
  · subst h; exact Zw.rK_34_17
  · subst h; exact Zw.rK_34_18
  · subst h; exact Zw.rK_34_19
  · subst h; exact Zw.rK_34_20
  · subst h; exact Zw.rK_34_21
  · subst h; exact Zw.rK_34_22
  · subst h; exact Zw.rK_34_23
  · subst h; exact Zw.rK_34_24
  · subst h; exact Zw.rK_34_25
  · subst h; exact Zw.rK_34_26
  · subst h; exact Zw.rK_34_27
  · subst h; exact Zw.rK_34_28
  · subst h; exact Zw.rK_34_29
  · subst h; exact Zw.rK_34_30
  · subst h; exact Zw.rK_34_31
  · subst h; exact Zw.rK_34_32
  · subst h; exact Zw.rK_34_33
theorem Zw.rK_36_0 : Zw.LK 36 0 = some Zw.p4 := by kernel_rfl
theorem Zw.rK_36_1 : Zw.LK 36 1 = some Zw.p4 := by kernel_rfl
theorem Zw.rK_36_2 : Zw.LK 36 2 = some Zw.p4 := by kernel_rfl
theorem Zw.rK_36_3 : Zw.LK 36 3 = some Zw.p4 := by kernel_rfl
theorem Zw.rK_36_4 : Zw.LK 36 4 = some Zw.p4 := by kernel_rfl
theorem Zw.rK_36_5 : Zw.LK 36 5 = some Zw.p4 := by kernel_rfl
theorem Zw.rK_36_6 : Zw.LK 36 6 = some Zw.p4 := by kernel_rfl
theorem Zw.rK_36_7 : Zw.LK 36 7 = some Zw.p4 := by kernel_rfl
theorem Zw.rK_36_8 : Zw.LK 36 8 = some Zw.p4 := by kernel_rfl
theorem Zw.rK_36_9 : Zw.LK 36 9 = some Zw.p4 := by kernel_rfl
theorem Zw.rK_36_10 : Zw.LK 36 10 = some Zw.p4 := by kernel_rfl
theorem Zw.rK_36_11 : Zw.LK 36 11 = some Zw.p4 := by kernel_rfl
theorem Zw.rK_36_12 : Zw.LK 36 12 = some Zw.p4 := by kernel_rfl
theorem Zw.rK_36_13 : Zw.LK 36 13 = some Zw.p4 := by kernel_rfl
theorem Zw.rK_36_14 : Zw.LK 36 14 = some Zw.p4 := by kernel_rfl
theorem Zw.rK_36_15 : Zw.LK 36 15 = some Zw.p4 := by kernel_rfl
theorem Zw.rK_36_16 : Zw.LK 36 16 = some Zw.p4 := by kernel_rfl
theorem Zw.rK_36_17 : Zw.LK 36 17 = some Zw.p4 := by kernel_rfl
theorem Zw.rK_36_18 : Zw.LK 36 18 = some Zw.p4 := by kernel_rfl
theorem Zw.rK_36_19 : Zw.LK 36 19 = some Zw.p4 := by kernel_rfl
theorem Zw.rK_36_20 : Zw.LK 36 20 = some Zw.p4 := by kernel_rfl
theorem Zw.rK_36_21 : Zw.LK 36 21 = some Zw.p4 := by kernel_rfl
theorem Zw.rK_36_22 : Zw.LK 36 22 = some Zw.p4 := by kernel_rfl
theorem Zw.rK_36_23 : Zw.LK 36 23 = some Zw.p4 := by kernel_rfl
theorem Zw.rK_36_24 : Zw.LK 36 24 = some Zw.p4 := by kernel_rfl
theorem Zw.rK_36_25 : Zw.LK 36 25 = some Zw.p4 := by kernel_rfl
theorem Zw.rK_36_26 : Zw.LK 36 26 = some Zw.p4 := by kernel_rfl
theorem Zw.rK_36_27 : Zw.LK 36 27 = some Zw.p4 := by kernel_rfl
theorem Zw.rK_36_28 : Zw.LK 36 28 = some Zw.p4 := by kernel_rfl
theorem Zw.rK_36_29 : Zw.LK 36 29 = some Zw.p4 := by kernel_rfl
theorem Zw.rK_36_30 : Zw.LK 36 30 = some Zw.p4 := by kernel_rfl
theorem Zw.rK_36_31 : Zw.LK 36 31 = some Zw.p4 := by kernel_rfl
theorem Zw.rK_36_32 : Zw.LK 36 32 = some Zw.p4 := by kernel_rfl
theorem Zw.rK_36_33 : Zw.LK 36 33 = some Zw.p4 := by kernel_rfl
theorem Zw.rK_36_34 : Zw.LK 36 34 = some Zw.p4 := by kernel_rfl
theorem Zw.rK_36_35 : Zw.LK 36 35 = some Zw.p4 := by kernel_rfl
theorem Zw.rK36 (K : Nat) (h : K < 36) : Zw.LK 36 K = some Zw.p4 := by
  rcases (show K = 0 ∨ K = 1 ∨ K = 2 ∨ K = 3 ∨ K = 4 ∨ K = 5 ∨ K = 6 ∨ K = 7 ∨ K = 8 ∨ K = 9 ∨ K = 10 ∨ K = 11 ∨ K = 12 ∨ K = 13 ∨ K = 14 ∨ K = 15 ∨ K = 16 ∨ K = 17 ∨ K = 18 ∨ K = 19 ∨ K = 20 ∨ K = 21 ∨ K = 22 ∨ K = 23 ∨ K = 24 ∨ K = 25 ∨ K = 26 ∨ K = 27 ∨ K = 28 ∨ K = 29 ∨ K = 30 ∨ K = 31 ∨ K = 32 ∨ K = 33 ∨ K = 34 ∨ K = 35 by omega) with h | h | h | h | h | h | h | h | h | h | h | h | h | h | h | h | h | h | h | h | h | h | h | h | h | h | h | h | h | h | h | h | h | h | h | h
  · subst h; exact Zw.rK_36_0
  · subst h; exact Zw.rK_36_1
  · subst h; exact Zw.rK_36_2
  · subst h; exact Zw.rK_36_3
  · subst h; exact Zw.rK_36_4
  · subst h; exact Zw.rK_36_5
  · subst h; exact Zw.rK_36_6
  · subst h; exact Zw.rK_36_7
  · subst h; exact Zw.rK_36_8
  · subst h; exact Zw.rK_36_9
  · subst h; exact Zw.rK_36_10
  · subst h; exact Zw.rK_36_11
  · subst h; exact Zw.rK_36_12
  · subst h; exact Zw.rK_36_13
  · subst h; exact Zw.rK_36_14
  · subst h; exact Zw.rK_36_15
  · subst h; exact Zw.rK_36_16
  · subst h; exact Zw.rK_36_17
  · subst h; exact Zw.rK_36_18
  · subst h; exact Zw.rK_36_19
  · subst h; exact Zw.rK_36_20
  · subst h; exact Zw.rK_36_21
  · subst h; exact Zw.rK_36_22
  · subst h; exact Zw.rK_36_23
  · subst h; exact Zw.rK_36_24
  · subst h; exact Zw.rK_36_25
  · subst h; exact Zw.rK_36_26
  · subst h; exact Zw.rK_36_27
  · subst h; exact Zw.rK_36_28
  · subst h; exact Zw.rK_36_29
  · subst h; exact Zw.rK_36_30
  · subst h; exact Zw.rK_36_31
  · subst h; exact Zw.rK_36_32
  · subst h; exact Zw.rK_36_33
  · subst h; exact Zw.rK_36_34
  · subst h; exact Zw.rK_36_35
theorem Zw.rK_38_0 : Zw.LK 38 0 = some Zw.p4 := by kernel_rfl
theorem Zw.rK_38_1 : Zw.LK 38 1 = some Zw.p4 := by kernel_rfl
theorem Zw.rK_38_2 : Zw.LK 38 2 = some Zw.p4 := by kernel_rfl
theorem Zw.rK_38_3 : Zw.LK 38 3 = some Zw.p4 := by kernel_rfl
theorem Zw.rK_38_4 : Zw.LK 38 4 = some Zw.p4 := by kernel_rfl
theorem Zw.rK_38_5 : Zw.LK 38 5 = some Zw.p4 := by kernel_rfl
theorem Zw.rK_38_6 : Zw.LK 38 6 = some Zw.p4 := by kernel_rfl
theorem Zw.rK_38_7 : Zw.LK 38 7 = some Zw.p4 := by kernel_rfl
theorem Zw.rK_38_8 : Zw.LK 38 8 = some Zw.p4 := by kernel_rfl
theorem Zw.rK_38_9 : Zw.LK 38 9 = some Zw.p4 := by kernel_rfl
theorem Zw.rK_38_10 : Zw.LK 38 10 = some Zw.p4 := by kernel_rfl
theorem Zw.rK_38_11 : Zw.LK 38 11 = some Zw.p4 := by kernel_rfl
theorem Zw.rK_38_12 : Zw.LK 38 12 = some Zw.p4 := by kernel_rfl
theorem Zw.rK_38_13 : Zw.LK 38 13 = some Zw.p4 := by kernel_rfl
theorem Zw.rK_38_14 : Zw.LK 38 14 = some Zw.p4 := by kernel_rfl
theorem Zw.rK_38_15 : Zw.LK 38 15 = some Zw.p4 := by kernel_rfl
theorem Zw.rK_38_16 : Zw.LK 38 16 = some Zw.p4 := by kernel_rfl
theorem Zw.rK_38_17 : Zw.LK 38 17 = some Zw.p4 := by kernel_rfl
theorem Zw.rK_38_18 : Zw.LK 38 18 = some Zw.p4 := by kernel_rfl
theorem Zw.rK_38_19 : Zw.LK 38 19 = some Zw.p4 := by kernel_rfl
theorem Zw.rK_38_20 : Zw.LK 38 20 = some Zw.p4 := by kernel_rfl
theorem Zw.rK_38_21 : Zw.LK 38 21 = some Zw.p4 := by kernel_rfl
theorem Zw.rK_38_22 : Zw.LK 38 22 = some Zw.p4 := by kernel_rfl
theorem Zw.rK_38_23 : Zw.LK 38 23 = some Zw.p4 := by kernel_rfl
theorem Zw.rK_38_24 : Zw.LK 38 24 = some Zw.p4 := by kernel_rfl
theorem Zw.rK_38_25 : Zw.LK 38 25 = some Zw.p4 := by kernel_rfl
theorem Zw.rK_38_26 : Zw.LK 38 26 = some Zw.p4 := by kernel_rfl
theorem Zw.rK_38_27 : Zw.LK 38 27 = some Zw.p4 := by kernel_rfl
theorem Zw.rK_38_28 : Zw.LK 38 28 = some Zw.p4 := by kernel_rfl
theorem Zw.rK_38_29 : Zw.LK 38 29 = some Zw.p4 := by kernel_rfl
theorem Zw.rK_38_30 : Zw.LK 38 30 = some Zw.p4 := by kernel_rfl
theorem Zw.rK_38_31 : Zw.LK 38 31 = some Zw.p4 := by kernel_rfl
theorem Zw.rK_38_32 : Zw.LK 38 32 = some Zw.p4 := by kernel_rfl
theorem Zw.rK_38_33 : Zw.LK 38 33 = some Zw.p4 := by kernel_rfl
theorem Zw.rK_38_34 : Zw.LK 38 34 = some Zw.p4 := by kernel_rfl
theorem Zw.rK_38_35 : Zw.LK 38 35 = some Zw.p4 := by kernel_rfl
theorem Zw.rK_38_36 : Zw.LK 38 36 = some Zw.p4 := by kernel_rfl
theorem Zw.rK_38_37 : Zw.LK 38 37 = some Zw.p4 := by kernel_rfl
theorem Zw.rK38 (K : Nat) (h : K < 38) : Zw.LK 38 K = some Zw.p4 := by
  rcases (show K = 0 ∨ K = 1 ∨ K = 2 ∨ K = 3 ∨ K = 4 ∨ K = 5 ∨ K = 6 ∨ K = 7 ∨ K = 8 ∨ K = 9 ∨ K = 10 ∨ K = 11 ∨ K = 12 ∨ K = 13 ∨ K = 14 ∨ K = 15 ∨ K = 16 ∨ K = 17 ∨ K = 18 ∨ K = 19 ∨ K = 20 ∨ K = 21 ∨ K = 22 ∨ K = 23 ∨ K = 24 ∨ K = 25 ∨ K = 26 ∨ K = 27 ∨ K = 28 ∨ K = 29 ∨ K = 30 ∨ K = 31 ∨ K = 32 ∨ K = 33 ∨ K = 34 ∨ K = 35 ∨ K = 36 ∨ K = 37 by omega) with h | h | h | h | h | h | h | h | h | h | h | h | h | h | h | h | h | h | h | h | h | h | h | h | h | h | h | h | h | h | h | h | h | h | h | h | h | h
  · subst h; exact Zw.rK_38_0
  · subst h; exact Zw.rK_38_1
  · subst h; exact Zw.rK_38_2
  · subst h; exact Zw.rK_38_3
  · subst h; exact Zw.rK_38_4
  · subst h; exact Zw.rK_38_5
  · subst h; exact Zw.rK_38_6
  · subst h; exact Zw.rK_38_7
  · subst h; exact Zw.rK_38_8
  · subst h; exact Zw.rK_38_9
  · subst h; exact Zw.rK_38_10
  · subst h; exact Zw.rK_38_11
  · subst h; exact Zw.rK_38_12
  · subst h; exact Zw.rK_38_13
  · subst h; exact Zw.rK_38_14
  · subst h; exact Zw.rK_38_15
  · subst h; exact Zw.rK_38_16
  · subst h; exact Zw.rK_38_17
  · subst h; exact Zw.rK_38_18
  · subst h; exact Zw.rK_38_19
  · subst h; exact Zw.rK_38_20
  · subst h; exact Zw.rK_38_21
  · subst h; exact Zw.rK_38_22
  · subst h; exact Zw.rK_38_23
  · subst h; exact Zw.rK_38_24
  · subst h; exact Zw.rK_38_25
  · subst h; exact Zw.rK_38_26
  · subst h; exact Zw.rK_38_27
  · subst h; exact Zw.rK_38_28
  · subst h; exact Zw.rK_38_29
  · subst h; exact Zw.rK_38_30
  · subst h; exact Zw.rK_38_31
  · subst h; exact Zw.rK_38_32
  · subst h; exact Zw.rK_38_33
  · subst h; exact Zw.rK_38_34
  · subst h; exact Zw.rK_38_35
  · subst h; exact Zw.rK_38_36
  · subst h; exact Zw.rK_38_37
theorem Zw.rK_40_0 : Zw.LK 40 0 = some Zw.p4 := by kernel_rfl
theorem Zw.rK_40_1 : Zw.LK 40 1 = some Zw.p4 := by kernel_rfl
theorem Zw.rK_40_2 : Zw.LK 40 2 = some Zw.p4 := by kernel_rfl
theorem Zw.rK_40_3 : Zw.LK 40 3 = some Zw.p4 := by kernel_rfl
theorem Zw.rK_40_4 : Zw.LK 40 4 = some Zw.p4 := by kernel_rfl
theorem Zw.rK_40_5 : Zw.LK 40 5 = some Zw.p4 := by kernel_rfl
theorem Zw.rK_40_6 : Zw.LK 40 6 = some Zw.p4 := by kernel_rfl
theorem Zw.rK_40_7 : Zw.LK 40 7 = some Zw.p4 := by kernel_rfl
theorem Zw.rK_40_8 : Zw.LK 40 8 = some Zw.p4 := by kernel_rfl
theorem Zw.rK_40_9 : Zw.LK 40 9 = some Zw.p4 := by kernel_rfl
theorem Zw.rK_40_10 : Zw.LK 40 10 = some Zw.p4 := by kernel_rfl
theorem Zw.rK_40_11 : Zw.LK 40 11 = some Zw.p4 := by kernel_rfl
theorem Zw.rK_40_12 : Zw.LK 40 12 = some Zw.p4 := by kernel_rfl
theorem Zw.rK_40_13 : Zw.LK 40 13 = some Zw.p4 := by kernel_rfl
theorem Zw.rK_40_14 : Zw.LK 40 14 = some Zw.p4 := by kernel_rfl
theorem Zw.rK_40_15 : Zw.LK 40 15 = some Zw.p4 := by kernel_rfl
theorem Zw.rK_40_16 : Zw.LK 40 16 = some Zw.p4 := by kernel_rfl
theorem Zw.rK_40_17 : Zw.LK 40 17 = some Zw.p4 := by kernel_rfl
theorem Zw.rK_40_18 : Zw.LK 40 18 = some Zw.p4 := by kernel_rfl
theorem Zw.rK_40_19 : Zw.LK 40 19 = some Zw.p4 := by kernel_rfl
theorem Zw.rK_40_20 : Zw.LK 40 20 = some Zw.p4 := by kernel_rfl
theorem Zw.rK_40_21 : Zw.LK 40 21 = some Zw.p4 := by kernel_rfl
theorem Zw.rK_40_22 : Zw.LK 40 22 = some Zw.p4 := by kernel_rfl
theorem Zw.rK_40_23 : Zw.LK 40 23 = some Zw.p4 := by kernel_rfl
theorem Zw.rK_40_24 : Zw.LK 40 24 = some Zw.p4 := by kernel_rfl
theorem Zw.rK_40_25 : Zw.LK 40 25 = some Zw.p4 := by kernel_rfl
theorem Zw.rK_40_26 : Zw.LK 40 26 = some Zw.p4 := by kernel_rfl
theorem Zw.rK_40_27 : Zw.LK 40 27 = some Zw.p4 := by kernel_rfl
theorem Zw.rK_40_28 : Zw.LK 40 28 = some Zw.p4 := by kernel_rfl
theorem Zw.rK_40_29 : Zw.LK 40 29 = some Zw.p4 := by kernel_rfl
theorem Zw.rK_40_30 : Zw.LK 40 30 = some Zw.p4 := by kernel_rfl
theorem Zw.rK_40_31 : Zw.LK 40 31 = some Zw.p4 := by kernel_rfl
theorem Zw.rK_40_32 : Zw.LK 40 32 = some Zw.p4 := by kernel_rfl
theorem Zw.rK_40_33 : Zw.LK 40 33 = some Zw.p4 := by kernel_rfl
theorem Zw.rK_40_34 : Zw.LK 40 34 = some Zw.p4 := by kernel_rfl
theorem Zw.rK_40_35 : Zw.LK 40 35 = some Zw.p4 := by kernel_rfl
theorem Zw.rK_40_36 : Zw.LK 40 36 = some Zw.p4 := by kernel_rfl
theorem Zw.rK_40_37 : Zw.LK 40 37 = some Zw.p4 := by kernel_rfl
theorem Zw.rK_40_38 : Zw.LK 40 38 = some Zw.p4 := by kernel_rfl
theorem Zw.rK_40_39 : Zw.LK 40 39 = some Zw.p4 := by kernel_rfl
theorem Zw.rK40 (K : Nat) (h : K < 40) : Zw.LK 40 K = some Zw.p4 := by
  rcases (show K = 0 ∨ K = 1 ∨ K = 2 ∨ K = 3 ∨ K = 4 ∨ K = 5 ∨ K = 6 ∨ K = 7 ∨ K = 8 ∨ K = 9 ∨ K = 10 ∨ K = 11 ∨ K = 12 ∨ K = 13 ∨ K = 14 ∨ K = 15 ∨ K = 16 ∨ K = 17 ∨ K = 18 ∨ K = 19 ∨ K = 20 ∨ K = 21 ∨ K = 22 ∨ K = 23 ∨ K = 24 ∨ K = 25 ∨ K = 26 ∨ K = 27 ∨ K = 28 ∨ K = 29 ∨ K = 30 ∨ K = 31 ∨ K = 32 ∨ K = 33 ∨ K = 34 ∨ K = 35 ∨ K = 36 ∨ K = 37 ∨ K = 38 ∨ K = 39 by omega) with h | h | h | h | h | h | h | h | h | h | h | h | h | h | h | h | h | h | h | h | h | h | h | h | h | h | h | h | h | h | h | h | h | h | h | h | h | h | h | h
  · subst h; exact Zw.rK_40_0
  · subst h; exact Zw.rK_40_1
  · subst h; exact Zw.rK_40_2
  · subst h; exact Zw.rK_40_3
  · subst h; exact Zw.rK_40_4
  · subst h; exact Zw.rK_40_5
  · subst h; exact Zw.rK_40_6
  · subst h; exact Zw.rK_40_7
  · subst h; exact Zw.rK_40_8
  · subst h; exact Zw.rK_40_9
  · subst h; exact Zw.rK_40_10
  · subst h; exact Zw.rK_40_11
  · subst h; exact Zw.rK_40_12
  · subst h; exact Zw.rK_40_13
  · subst h; exact Zw.rK_40_14
  · subst h; exact Zw.rK_40_15
  · subst h; exact Zw.rK_40_16
  · subst h; exact Zw.rK_40_17
  · subst h; exact Zw.rK_40_18
  · subst h; exact Zw.rK_40_19
  · subst h; exact Zw.rK_40_20
  · subst h; exact Zw.rK_40_21
  · subst h; exact Zw.rK_40_22
  · subst h; exact Zw.rK_40_23
  · subst h; exact Zw.rK_40_24
  · subst h; exact Zw.rK_40_25
  · subst h; exact Zw.rK_40_26
  · subst h; exact Zw.rK_40_27
  · subst h; exact Zw.rK_40_28
  · subst h; exact Zw.rK_40_29
  · subst h; exact Zw.rK_40_30
  · subst h; exact Zw.rK_40_31
  · subst h; exact Zw.rK_40_32
  · subst h; exact Zw.rK_40_33
  · subst h; exact Zw.rK_40_34
  · subst h; exact Zw.rK_40_35
  · subst h; exact Zw.rK_40_36
  · subst h; exact Zw.rK_40_37
  · subst h; exact Zw.rK_40_38
  · subst h; exact Zw.rK_40_39
end Go.Proofs
