/- Pieces of the law's run, from node to node, answered by the executor. No conditions. -/
import Derived.Test.YtegeiefgjngihaaGreatDoorVSeatSourceAgainNd
set_option linter.all false
namespace Go.Proofs
open Go Go.Vsx
set_option maxRecDepth 1000000
theorem Zw.rK_1_0 : Zw.LK 1 0 = some Zw.p4 := by kernel_rfl
theorem Zw.rK1 (K : Nat) (h : K < 1) : Zw.LK 1 K = some Zw.p4 := by
  rcases (show K = 0 by omega) with h
  · subst h; exact Zw.rK_1_0
theorem Zw.rK_3_0 : Zw.LK 3 0 = some Zw.p4 := by kernel_rfl
theorem Zw.rK_3_1 : Zw.LK 3 1 = some Zw.p4 := by kernel_rfl
theorem Zw.rK_3_2 : Zw.LK 3 2 = some Zw.p4 := by kernel_rfl
theorem Zw.rK3 (K : Nat) (h : K < 3) : Zw.LK 3 K = some Zw.p4 := by
  rcases (show K = 0 ∨ K = 1 ∨ K = 2 by omega) with h | h | h
  · subst h; exact Zw.rK_3_0
  · subst h; exact Zw.rK_3_1
  · subst h; exact Zw.rK_3_2
theorem Zw.rK_5_0 : Zw.LK 5 0 = some Zw.p4 := by kernel_rfl
theorem Zw.rK_5_1 : Zw.LK 5 1 = some Zw.p4 := by kernel_rfl
theorem Zw.rK_5_2 : Zw.LK 5 2 = some Zw.p4 := by kernel_rfl
theorem Zw.rK_5_3 : Zw.LK 5 3 = some Zw.p4 := by kernel_rfl
theorem Zw.rK_5_4 : Zw.LK 5 4 = some Zw.p4 := by kernel_rfl
theorem Zw.rK5 (K : Nat) (h : K < 5) : Zw.LK 5 K = some Zw.p4 := by
  rcases (show K = 0 ∨ K = 1 ∨ K = 2 ∨ K = 3 ∨ K = 4 by omega) with h | h | h | h | h
  · subst h; exact Zw.rK_5_0
  · subst h; exact Zw.rK_5_1
  · subst h; exact Zw.rK_5_2
  · subst h; exact Zw.rK_5_3
  · subst h; exact Zw.rK_5_4
theorem Zw.rK_7_0 : Zw.LK 7 0 = some Zw.p4 := by kernel_rfl
theorem Zw.rK_7_1 : Zw.LK 7 1 = some Zw.p4 := by kernel_rfl
theorem Zw.rK_7_2 : Zw.LK 7 2 = some Zw.p4 := by kernel_rfl
theorem Zw.rK_7_3 : Zw.LK 7 3 = some Zw.p4 := by kernel_rfl
theorem Zw.rK_7_4 : Zw.LK 7 4 = some Zw.p4 := by kernel_rfl
theorem Zw.rK_7_5 : Zw.LK 7 5 = some Zw.p4 := by kernel_rfl
theorem Zw.rK_7_6 : Zw.LK 7 6 = some Zw.p4 := by kernel_rfl
theorem Zw.rK7 (K : Nat) (h : K < 7) : Zw.LK 7 K = some Zw.p4 := by
  rcases (show K = 0 ∨ K = 1 ∨ K = 2 ∨ K = 3 ∨ K = 4 ∨ K = 5 ∨ K = 6 by omega) with h | h | h | h | h | h | h
  · subst h; exact Zw.rK_7_0
  · subst h; exact Zw.rK_7_1
  · subst h; exact Zw.rK_7_2
  · subst h; exact Zw.rK_7_3
  · subst h; exact Zw.rK_7_4
  · subst h; exact Zw.rK_7_5
  · subst h; exact Zw.rK_7_6
theorem Zw.rK_9_0 : Zw.LK 9 0 = some Zw.p4 := by kernel_rfl
theorem Zw.rK_9_1 : Zw.LK 9 1 = some Zw.p4 := by kernel_rfl
theorem Zw.rK_9_2 : Zw.LK 9 2 = some Zw.p4 := by kernel_rfl
theorem Zw.rK_9_3 : Zw.LK 9 3 = some Zw.p4 := by kernel_rfl
theorem Zw.rK_9_4 : Zw.LK 9 4 = some Zw.p4 := by kernel_rfl
theorem Zw.rK_9_5 : Zw.LK 9 5 = some Zw.p4 := by kernel_rfl
theorem Zw.rK_9_6 : Zw.LK 9 6 = some Zw.p4 := by kernel_rfl
theorem Zw.rK_9_7 : Zw.LK 9 7 = some Zw.p4 := by kernel_rfl
theorem Zw.rK_9_8 : Zw.LK 9 8 = some Zw.p4 := by kernel_rfl
theorem Zw.rK9 (K : Nat) (h : K < 9) : Zw.LK 9 K = some Zw.p4 := by
  rcases (show K = 0 ∨ K = 1 ∨ K = 2 ∨ K = 3 ∨ K = 4 ∨ K = 5 ∨ K = 6 ∨ K = 7 ∨ K = 8 by omega) with h | h | h | h | h | h | h | h | h
  · subst h; exact Zw.rK_9_0
  · subst h; exact Zw.rK_9_1
  · subst h; exact Zw.rK_9_2
  · subst h; exact Zw.rK_9_3
  · subst h; exact Zw.rK_9_4
  · subst h; exact Zw.rK_9_5
  · subst h; exact Zw.rK_9_6
  · subst h; exact Zw.rK_9_7
  · subst h; exact Zw.rK_9_8
theorem Zw.rK_11_0 : Zw.LK 11 0 = some Zw.p4 := by kernel_rfl
theorem Zw.rK_11_1 : Zw.LK 11 1 = some Zw.p4 := by kernel_rfl
theorem Zw.rK_11_2 : Zw.LK 11 2 = some Zw.p4 := by kernel_rfl
theorem Zw.rK_11_3 : Zw.LK 11 3 = some Zw.p4 := by kernel_rfl
theorem Zw.rK_11_4 : Zw.LK 11 4 = some Zw.p4 := by kernel_rfl
theorem Zw.rK_11_5 : Zw.LK 11 5 = some Zw.p4 := by kernel_rfl
theorem Zw.rK_11_6 : Zw.LK 11 6 = some Zw.p4 := by kernel_rfl
theorem Zw.rK_11_7 : Zw.LK 11 7 = some Zw.p4 := by kernel_rfl
theorem Zw.rK_11_8 : Zw.LK 11 8 = some Zw.p4 := by kernel_rfl
theorem Zw.rK_11_9 : Zw.LK 11 9 = some Zw.p4 := by kernel_rfl
theorem Zw.rK_11_10 : Zw.LK 11 10 = some Zw.p4 := by kernel_rfl
theorem Zw.rK11 (K : Nat) (h : K < 11) : Zw.LK 11 K = some Zw.p4 := by
  rcases (show K = 0 ∨ K = 1 ∨ K = 2 ∨ K = 3 ∨ K = 4 ∨ K = 5 ∨ K = 6 ∨ K = 7 ∨ K = 8 ∨ K = 9 ∨ K = 10 by omega) with h | h | h | h | h | h | h | h | h | h | h
  · subst h; exact Zw.rK_11_0
  · subst h; exact Zw.rK_11_1
  · subst h; exact Zw.rK_11_2
  · subst h; exact Zw.rK_11_3
  · subst h; exact Zw.rK_11_4
  · subst h; exact Zw.rK_11_5
  · subst h; exact Zw.rK_11_6
  · subst h; exact Zw.rK_11_7
  · subst h; exact Zw.rK_11_8
  · subst h; exact Zw.rK_11_9
  · subst h; exact Zw.rK_11_10
theorem Zw.rK_13_0 : Zw.LK 13 0 = some Zw.p4 := by kernel_rfl
theorem Zw.rK_13_1 : Zw.LK 13 1 = some Zw.p4 := by kernel_rfl
theorem Zw.rK_13_2 : Zw.LK 13 2 = some Zw.p4 := by kernel_rfl
theorem Zw.rK_13_3 : Zw.LK 13 3 = some Zw.p4 := by kernel_rfl
theorem Zw.rK_13_4 : Zw.LK 13 4 = some Zw.p4 := by kernel_rfl
theorem Zw.rK_13_5 : Zw.LK 13 5 = some Zw.p4 := by kernel_rfl
theorem Zw.rK_13_6 : Zw.LK 13 6 = some Zw.p4 := by kernel_rfl
theorem Zw.rK_13_7 : Zw.LK 13 7 = some Zw.p4 := by kernel_rfl
theorem Zw.rK_13_8 : Zw.LK 13 8 = some Zw.p4 := by kernel_rfl
theorem Zw.rK_13_9 : Zw.LK 13 9 = some Zw.p4 := by kernel_rfl
theorem Zw.rK_13_10 : Zw.LK 13 10 = some Zw.p4 := by kernel_rfl
theorem Zw.rK_13_11 : Zw.LK 13 11 = some Zw.p4 := by kernel_rfl
theorem Zw.rK_13_12 : Zw.LK 13 12 = some Zw.p4 := by kernel_rfl
theorem Zw.rK13 (K : Nat) (h : K < 13) : Zw.LK 13 K = some Zw.p4 := by
  rcases (show K = 0 ∨ K = 1 ∨ K = 2 ∨ K = 3 ∨ K = 4 ∨ K = 5 ∨ K = 6 ∨ K = 7 ∨ K = 8 ∨ K = 9 ∨ K = 10 ∨ K = 11 ∨ K = 12 by omega) with h | h | h | h | h | h | h | h | h | h | h | h | h
  · subst h; exact Zw.rK_13_0
  · subst h; exact Zw.rK_13_1
  · subst h; exact Zw.rK_13_2
  · subst h; exact Zw.rK_13_3
  · subst h; exact Zw.rK_13_4
  · subst h; exact Zw.rK_13_5
  · subst h; exact Zw.rK_13_6
  · subst h; exact Zw.rK_13_7
  · subst h; exact Zw.rK_13_8
  · subst h; exact Zw.rK_13_9
  · subst h; exact Zw.rK_13_10
  · subst h; exact Zw.rK_13_11
  · subst h; exact Zw.rK_13_12
theorem Zw.rK_15_0 : Zw.LK 15 0 = some Zw.p4 := by kernel_rfl
theorem Zw.rK_15_1 : Zw.LK 15 1 = some Zw.p4 := by kernel_rfl
theorem Zw.rK_15_2 : Zw.LK 15 2 = some Zw.p4 := by kernel_rfl
theorem Zw.rK_15_3 : Zw.LK 15 3 = some Zw.p4 := by kernel_rfl
theorem Zw.rK_15_4 : Zw.LK 15 4 = some Zw.p4 := by kernel_rfl
theorem Zw.rK_15_5 : Zw.LK 15 5 = some Zw.p4 := by kernel_rfl
theorem Zw.rK_15_6 : Zw.LK 15 6 = some Zw.p4 := by kernel_rfl
theorem Zw.rK_15_7 : Zw.LK 15 7 = some Zw.p4 := by kernel_rfl
theorem Zw.rK_15_8 : Zw.LK 15 8 = some Zw.p4 := by kernel_rfl
theorem Zw.rK_15_9 : Zw.LK 15 9 = some Zw.p4 := by kernel_rfl
theorem Zw.rK_15_10 : Zw.LK 15 10 = some Zw.p4 := by kernel_rfl
theorem Zw.rK_15_11 : Zw.LK 15 11 = some Zw.p4 := by kernel_rfl
theorem Zw.rK_15_12 : Zw.LK 15 12 = some Zw.p4 := by kernel_rfl
theorem Zw.rK_15_13 : Zw.LK 15 13 = some Zw.p4 := by kernel_rfl
theorem Zw.rK_15_14 : Zw.LK 15 14 = some Zw.p4 := by kernel_rfl
theorem Zw.rK15 (K : Nat) (h : K < 15) : Zw.LK 15 K = some Zw.p4 := by
  rcases (show K = 0 ∨ K = 1 ∨ K = 2 ∨ K = 3 ∨ K = 4 ∨ K = 5 ∨ K = 6 ∨ K = 7 ∨ K = 8 ∨ K = 9 ∨ K = 10 ∨ K = 11 ∨ K = 12 ∨ K = 13 ∨ K = 14 by omega) with h | h | h | h | h | h | h | h | h | h | h | h | h | h | h
  · subst h; exact Zw.rK_15_0
  · subst h; exact Zw.rK_15_1
  · subst h; exact Zw.rK_15_2
  · subst h; exact Zw.rK_15_3
  · subst h; exact Zw.rK_15_4
  · subst h; exact Zw.rK_15_5
  · subst h; exact Zw.rK_15_6
  · subst h; exact Zw.rK_15_7
  · subst h; exact Zw.rK_15_8
  · subst h; exact Zw.rK_15_9
  · subst h; exact Zw.rK_15_10
  · subst h; exact Zw.rK_15_11
  · subst h; exact Zw.rK_15_12
  · subst h; exact Zw.rK_15_13
  · subst h; exact Zw.rK_15_14
theorem Zw.rK_17_0 : Zw.LK 17 0 = some Zw.p4 := by kernel_rfl
theorem Zw.rK_17_1 : Zw.LK 17 1 = some Zw.p4 := by kernel_rfl
theorem Zw.rK_17_2 : Zw.LK 17 2 = some Zw.p4 := by kernel_rfl
theorem Zw.rK_17_3 : Zw.LK 17 3 = some Zw.p4 := by kernel_rfl
theorem Zw.rK_17_4 : Zw.LK 17 4 = some Zw.p4 := by kernel_rfl
theorem Zw.rK_17_5 : Zw.LK 17 5 = some Zw.p4 := by kernel_rfl
theorem Zw.rK_17_6 : Zw.LK 17 6 = some Zw.p4 := by kernel_rfl
theorem Zw.rK_17_7 : Zw.LK 17 7 = some Zw.p4 := by kernel_rfl
theorem Zw.rK_17_8 : Zw.LK 17 8 = some Zw.p4 := by kernel_rfl
theorem Zw.rK_17_9 : Zw.LK 17 9 = some Zw.p4 := by kernel_rfl
theorem Zw.rK_17_10 : Zw.LK 17 10 = some Zw.p4 := by kernel_rfl
theorem Zw.rK_17_11 : Zw.LK 17 11 = some Zw.p4 := by kernel_rfl
theorem Zw.rK_17_12 : Zw.LK 17 12 = some Zw.p4 := by kernel_rfl
theorem Zw.rK_17_13 : Zw.LK 17 13 = some Zw.p4 := by kernel_rfl
theorem Zw.rK_17_14 : Zw.LK 17 14 = some Zw.p4 := by kernel_rfl
theorem Zw.rK_17_15 : Zw.LK 17 15 = some Zw.p4 := by kernel_rfl
theorem Zw.rK_17_16 : Zw.LK 17 16 = some Zw.p4 := by kernel_rfl
theorem Zw.rK17 (K : Nat) (h : K < 17) : Zw.LK 17 K = some Zw.p4 := by
  rcases (show K = 0 ∨ K = 1 ∨ K = 2 ∨ K = 3 ∨ K = 4 ∨ K = 5 ∨ K = 6 ∨ K = 7 ∨ K = 8 ∨ K = 9 ∨ K = 10 ∨ K = 11 ∨ K = 12 ∨ K = 13 ∨ K = 14 ∨ K = 15 ∨ K = 16 by omega) with h | h | h | h | h | h | h | h | h | h | h | h | h | h | h | h | h
  · subst h; exact Zw.rK_17_0
  · subst h; exact Zw.rK_17_1
  · subst h; exact Zw.rK_17_2
  · subst h; exact Zw.rK_17_3
  · subst h; exact Zw.rK_17_4
  · subst h; exact Zw.rK_17_5
  · subst h; exact Zw.rK_17_6
  · subst h; exact Zw.rK_17_7
  · subst h; exact Zw.rK_17_8
  · subst h; exact Zw.rK_17_9
  · subst h; exact Zw.rK_17_10
  · subst h; exact Zw.rK_17_11
  · subst h; exact Zw.rK_17_12
  · subst h; exact Zw.rK_17_13
  · subst h; exact Zw.rK_17_14
  · subst h; exact Zw.rK_17_15
  · subst h; exact Zw.rK_17_16
theorem Zw.rK_19_0 : Zw.LK 19 0 = some Zw.p4 := by kernel_rfl
theorem Zw.rK_19_1 : Zw.LK 19 1 = some Zw.p4 := by kernel_rfl
theorem Zw.rK_19_2 : Zw.LK 19 2 = some Zw.p4 := by kernel_rfl
theorem Zw.rK_19_3 : Zw.LK 19 3 = some Zw.p4 := by kernel_rfl
theorem Zw.rK_19_4 : Zw.LK 19 4 = some Zw.p4 := by kernel_rfl
theorem Zw.rK_19_5 : Zw.LK 19 5 = some Zw.p4 := by kernel_rfl
theorem Zw.rK_19_6 : Zw.LK 19 6 = some Zw.p4 := by kernel_rfl
theorem Zw.rK_19_7 : Zw.LK 19 7 = some Zw.p4 := by kernel_rfl
theorem Zw.rK_19_8 : Zw.LK 19 8 = some Zw.p4 := by kernel_rfl
theorem Zw.rK_19_9 : Zw.LK 19 9 = some Zw.p4 := by kernel_rfl
theorem Zw.rK_19_10 : Zw.LK 19 10 = some Zw.p4 := by kernel_rfl
theorem Zw.rK_19_11 : Zw.LK 19 11 = some Zw.p4 := by kernel_rfl
theorem Zw.rK_19_12 : Zw.LK 19 12 = some Zw.p4 := by kernel_rfl
theorem Zw.rK_19_13 : Zw.LK 19 13 = some Zw.p4 := by kernel_rfl
theorem Zw.rK_19_14 : Zw.LK 19 14 = some Zw.p4 := by kernel_rfl
theorem Zw.rK_19_15 : Zw.LK 19 15 = some Zw.p4 := by kernel_rfl
theorem Zw.rK_19_16 : Zw.LK 19 16 = some Zw.p4 := by kernel_rfl
theorem Zw.rK_19_17 : Zw.LK 19 17 = some Zw.p4 := by kernel_rfl
theorem Zw.rK_19_18 : Zw.LK 19 18 = some Zw.p4 := by kernel_rfl
theorem Zw.rK19 (K : Nat) (h : K < 19) : Zw.LK 19 K = some Zw.p4 := by
  rcases (show K = 0 ∨ K = 1 ∨ K = 2 ∨ K = 3 ∨ K = 4 ∨ K = 5 ∨ K = 6 ∨ K = 7 ∨ K = 8 ∨ K = 9 ∨ K = 10 ∨ K = 11 ∨ K = 12 ∨ K = 13 ∨ K = 14 ∨ K = 15 ∨ K = 16 ∨ K = 17 ∨ K = 18 by omega) with h | h | h | h | h | h | h | h | h | h | h | h | h | h | h | h | h | h | h
  · subst h; exact Zw.rK_19_0
  · subst h; exact Zw.rK_19_1
  · subst h; exact Zw.rK_19_2
  · subst h; exact Zw.rK_19_3
  · subst h; exact Zw.rK_19_4
  · subst h; exact Zw.rK_19_5
  · subst h; exact Zw.rK_19_6
  · subst h; exact Zw.rK_19_7
  · subst h; exact Zw.rK_19_8
  · subst h; exact Zw.rK_19_9
  · subst h; exact Zw.rK_19_10
  · subst h; exact Zw.rK_19_11
  · subst h; exact Zw.rK_19_12
  · subst h; exact Zw.rK_19_13
  · subst h; exact Zw.rK_19_14
  · subst h; exact Zw.rK_19_15
  · subst h; exact Zw.rK_19_16
  · subst h; exact Zw.rK_19_17
  · subst h; exact Zw.rK_19_18
theorem Zw.rK_21_0 : Zw.LK 21 0 = some Zw.p4 := by kernel_rfl
theorem Zw.rK_21_1 : Zw.LK 21 1 = some Zw.p4 := by kernel_rfl
theorem Zw.rK_21_2 : Zw.LK 21 2 = some Zw.p4 := by kernel_rfl
theorem Zw.rK_21_3 : Zw.LK 21 3 = some Zw.p4 := by kernel_rfl
theorem Zw.rK_21_4 : Zw.LK 21 4 = some Zw.p4 := by kernel_rfl
theorem Zw.rK_21_5 : Zw.LK 21 5 = some Zw.p4 := by kernel_rfl
theorem Zw.rK_21_6 : Zw.LK 21 6 = some Zw.p4 := by kernel_rfl
theorem Zw.rK_21_7 : Zw.LK 21 7 = some Zw.p4 := by kernel_rfl
theorem Zw.rK_21_8 : Zw.LK 21 8 = some Zw.p4 := by kernel_rfl
theorem Zw.rK_21_9 : Zw.LK 21 9 = some Zw.p4 := by kernel_rfl
theorem Zw.rK_21_10 : Zw.LK 21 10 = some Zw.p4 := by kernel_rfl
theorem Zw.rK_21_11 : Zw.LK 21 11 = some Zw.p4 := by kernel_rfl
theorem Zw.rK_21_12 : Zw.LK 21 12 = some Zw.p4 := by kernel_rfl
theorem Zw.rK_21_13 : Zw.LK 21 13 = some Zw.p4 := by kernel_rfl
theorem Zw.rK_21_14 : Zw.LK 21 14 = some Zw.p4 := by kernel_rfl
theorem Zw.rK_21_15 : Zw.LK 21 15 = some Zw.p4 := by kernel_rfl
theorem Zw.rK_21_16 : Zw.LK 21 16 = some Zw.p4 := by kernel_rfl
theorem Zw.rK_21_17 : Zw.LK 21 17 = some Zw.p4 := by kernel_rfl
theorem Zw.rK_21_18 : Zw.LK 21 18 = some Zw.p4 := by kernel_rfl
theorem Zw.rK_21_19 : Zw.LK 21 19 = some Zw.p4 := by kernel_rfl
theorem Zw.rK_21_20 : Zw.LK 21 20 = some Zw.p4 := by kernel_rfl
theorem Zw.rK21 (K : Nat) (h : K < 21) : Zw.LK 21 K = some Zw.p4 := by
  rcases (show K = 0 ∨ K = 1 ∨ K = 2 ∨ K = 3 ∨ K = 4 ∨ K = 5 ∨ K = 6 ∨ K = 7 ∨ K = 8 ∨ K = 9 ∨ K = 10 ∨ K = 11 ∨ K = 12 ∨ K = 13 ∨ K = 14 ∨ K = 15 ∨ K = 16 ∨ K = 17 ∨ K = 18 ∨ K = 19 ∨ K = 20 by omega) with h | h | h | h | h | h | h | h | h | h | h | h | h | h | h | h | h | h | h | h | h
  · subst h; exact Zw.rK_21_0
  · subst h; exact Zw.rK_21_1
  · subst h; exact Zw.rK_21_2
  · subst h; exact Zw.rK_21_3
  · subst h; exact Zw.rK_21_4
  · subst h; exact Zw.rK_21_5
  · subst h; exact Zw.rK_21_6
  · subst h; exact Zw.rK_21_7
  · subst h; exact Zw.rK_21_8
  · subst h; exact Zw.rK_21_9
  · subst h; exact Zw.rK_21_10
  · subst h; exact Zw.rK_21_11
  · subst h; exact Zw.rK_21_12
  · subst h; exact Zw.rK_21_13
  · subst h; exact Zw.rK_21_14
  · subst h; exact Zw.rK_21_15
  · subst h; exact Zw.rK_21_16
  · subst h; exact Zw.rK_21_17
  · subst h; exact Zw.rK_21_18
  · subst h; exact Zw.rK_21_19
  · subst h; exact Zw.rK_21_20
theorem Zw.rK_23_0 : Zw.LK 23 0 = some Zw.p4 := by kernel_rfl
theorem Zw.rK_23_1 : Zw.LK 23 1 = some Zw.p4 := by kernel_rfl
theorem Zw.rK_23_2 : Zw.LK 23 2 = some Zw.p4 := by kernel_rfl
theorem Zw.rK_23_3 : Zw.LK 23 3 = some Zw.p4 := by kernel_rfl
theorem Zw.rK_23_4 : Zw.LK 23 4 = some Zw.p4 := by kernel_rfl
theorem Zw.rK_23_5 : Zw.LK 23 5 = some Zw.p4 := by kernel_rfl
theorem Zw.rK_23_6 : Zw.LK 23 6 = some Zw.p4 := by kernel_rfl
theorem Zw.rK_23_7 : Zw.LK 23 7 = some Zw.p4 := by kernel_rfl
theorem Zw.rK_23_8 : Zw.LK 23 8 = some Zw.p4 := by kernel_rfl
theorem Zw.rK_23_9 : Zw.LK 23 9 = some Zw.p4 := by kernel_rfl
theorem Zw.rK_23_10 : Zw.LK 23 10 = some Zw.p4 := by kernel_rfl
theorem Zw.rK_23_11 : Zw.LK 23 11 = some Zw.p4 := by kernel_rfl
theorem Zw.rK_23_12 : Zw.LK 23 12 = some Zw.p4 := by kernel_rfl
theorem Zw.rK_23_13 : Zw.LK 23 13 = some Zw.p4 := by kernel_rfl
theorem Zw.rK_23_14 : Zw.LK 23 14 = some Zw.p4 := by kernel_rfl
theorem Zw.rK_23_15 : Zw.LK 23 15 = some Zw.p4 := by kernel_rfl
theorem Zw.rK_23_16 : Zw.LK 23 16 = some Zw.p4 := by kernel_rfl
theorem Zw.rK_23_17 : Zw.LK 23 17 = some Zw.p4 := by kernel_rfl
theorem Zw.rK_23_18 : Zw.LK 23 18 = some Zw.p4 := by kernel_rfl
theorem Zw.rK_23_19 : Zw.LK 23 19 = some Zw.p4 := by kernel_rfl
theorem Zw.rK_23_20 : Zw.LK 23 20 = some Zw.p4 := by kernel_rfl
theorem Zw.rK_23_21 : Zw.LK 23 21 = some Zw.p4 := by kernel_rfl
theorem Zw.rK_23_22 : Zw.LK 23 22 = some Zw.p4 := by kernel_rfl
theorem Zw.rK23 (K : Nat) (h : K < 23) : Zw.LK 23 K = some Zw.p4 := by
  rcases (show K = 0 ∨ K = 1 ∨ K = 2 ∨ K = 3 ∨ K = 4 ∨ K = 5 ∨ K = 6 ∨ K = 7 ∨ K = 8 ∨ K = 9 ∨ K = 10 ∨ K = 11 ∨ K = 12 ∨ K = 13 ∨ K = 14 ∨ K = 15 ∨ K = 16 ∨ K = 17 ∨ K = 18 ∨ K = 19 ∨ K = 20 ∨ K = 21 ∨ K = 22 by omega) with h | h | h | h | h | h | h | h | h | h | h | h | h | h | h | h | h | h | h | h | h | h | h
  · subst h; exact Zw.rK_23_0
  · subst h; exact Zw.rK_23_1
  · subst h; exact Zw.rK_23_2
  · subst h; exact Zw.rK_23_3
  · subst h; exact Zw.rK_23_4
  · subst h; exact Zw.rK_23_5
  · subst h; exact Zw.rK_23_6
  · subst h; exact Zw.rK_23_7
  · subst h; exact Zw.rK_23_8
  · subst h; exact Zw.rK_23_9
  · subst h; exact Zw.rK_23_10
  · subst h; exact Zw.rK_23_11
  · subst h; exact Zw.rK_23_12
  · subst h; exact Zw.rK_23_13
  · subst h; exact Zw.rK_23_14
  · subst h; exact Zw.rK_23_15
  · subst h; exact Zw.rK_23_16
  · subst h; exact Zw.rK_23_17
  · subst h; exact Zw.rK_23_18
  · subst h; exact Zw.rK_23_19
  · subst h; exact Zw.rK_23_20
  · subst h; exact Zw.rK_23_21
  · subst h; exact Zw.rK_23_22
theorem Zw.rK_25_0 : Zw.LK 25 0 = some Zw.p4 := by kernel_rfl
theorem Zw.rK_25_1 : Zw.LK 25 1 = some Zw.p4 := by kernel_rfl
theorem Zw.rK_25_2 : Zw.LK 25 2 = some Zw.p4 := by kernel_rfl
theorem Zw.rK_25_3 : Zw.LK 25 3 = some Zw.p4 := by kernel_rfl
theorem Zw.rK_25_4 : Zw.LK 25 4 = some Zw.p4 := by kernel_rfl
theorem Zw.rK_25_5 : Zw.LK 25 5 = some Zw.p4 := by kernel_rfl
theorem Zw.rK_25_6 : Zw.LK 25 6 = some Zw.p4 := by kernel_rfl
theorem Zw.rK_25_7 : Zw.LK 25 7 = some Zw.p4 := by kernel_rfl
theorem Zw.rK_25_8 : Zw.LK 25 8 = some Zw.p4 := by kernel_rfl
theorem Zw.rK_25_9 : Zw.LK 25 9 = some Zw.p4 := by kernel_rfl
theorem Zw.rK_25_10 : Zw.LK 25 10 = some Zw.p4 := by kernel_rfl
theorem Zw.rK_25_11 : Zw.LK 25 11 = some Zw.p4 := by kernel_rfl
theorem Zw.rK_25_12 : Zw.LK 25 12 = some Zw.p4 := by kernel_rfl
theorem Zw.rK_25_13 : Zw.LK 25 13 = some Zw.p4 := by kernel_rfl
theorem Zw.rK_25_14 : Zw.LK 25 14 = some Zw.p4 := by kernel_rfl
theorem Zw.rK_25_15 : Zw.LK 25 15 = some Zw.p4 := by kernel_rfl
theorem Zw.rK_25_16 : Zw.LK 25 16 = some Zw.p4 := by kernel_rfl
theorem Zw.rK_25_17 : Zw.LK 25 17 = some Zw.p4 := by kernel_rfl
theorem Zw.rK_25_18 : Zw.LK 25 18 = some Zw.p4 := by kernel_rfl
theorem Zw.rK_25_19 : Zw.LK 25 19 = some Zw.p4 := by kernel_rfl
theorem Zw.rK_25_20 : Zw.LK 25 20 = some Zw.p4 := by kernel_rfl
theorem Zw.rK_25_21 : Zw.LK 25 21 = some Zw.p4 := by kernel_rfl
theorem Zw.rK_25_22 : Zw.LK 25 22 = some Zw.p4 := by kernel_rfl
theorem Zw.rK_25_23 : Zw.LK 25 23 = some Zw.p4 := by kernel_rfl
theorem Zw.rK_25_24 : Zw.LK 25 24 = some Zw.p4 := by kernel_rfl
theorem Zw.rK25 (K : Nat) (h : K < 25) : Zw.LK 25 K = some Zw.p4 := by
  rcases (show K = 0 ∨ K = 1 ∨ K = 2 ∨ K = 3 ∨ K = 4 ∨ K = 5 ∨ K = 6 ∨ K = 7 ∨ K = 8 ∨ K = 9 ∨ K = 10 ∨ K = 11 ∨ K = 12 ∨ K = 13 ∨ K = 14 ∨ K = 15 ∨ K = 16 ∨ K = 17 ∨ K = 18 ∨ K = 19 ∨ K = 20 ∨ K = 21 ∨ K = 22 ∨ K = 23 ∨ K = 24 by omega) with h | h | h | h | h | h | h | h | h | h | h | h | h | h | h | h | h | h | h | h | h | h | h | h | h
  · subst h; exact Zw.rK_25_0
  · subst h; exact Zw.rK_25_1
  · subst h; exact Zw.rK_25_2
  · subst h; exact Zw.rK_25_3
  · subst h; exact Zw.rK_25_4
  · subst h; exact Zw.rK_25_5
  · subst h; exact Zw.rK_25_6
  · subst h; exact Zw.rK_25_7
  · subst h; exact Zw.rK_25_8
  · subst h; exact Zw.rK_25_9
  · subst h; exact Zw.rK_25_10
  · subst h; exact Zw.rK_25_11
  · subst h; exact Zw.rK_25_12
  · subst h; exact Zw.rK_25_13
  · subst h; exact Zw.rK_25_14
  · subst h; exact Zw.rK_25_15
  · subst h; exact Zw.rK_25_16
  · subst h; exact Zw.rK_25_17
  · subst h; exact Zw.rK_25_18
  · subst h; exact Zw.rK_25_19
  · subst h; exact Zw.rK_25_20
  · subst h; exact Zw.rK_25_21
  · subst h; exact Zw.rK_25_22
  · subst h; exact Zw.rK_25_23
  · subst h; exact Zw.rK_25_24
theorem Zw.rK_27_0 : Zw.LK 27 0 = some Zw.p4 := by kernel_rfl
theorem Zw.rK_27_1 : Zw.LK 27 1 = some Zw.p4 := by kernel_rfl
theorem Zw.rK_27_2 : Zw.LK 27 2 = some Zw.p4 := by kernel_rfl
theorem Zw.rK_27_3 : Zw.LK 27 3 = some Zw.p4 := by kernel_rfl
theorem Zw.rK_27_4 : Zw.LK 27 4 = some Zw.p4 := by kernel_rfl
theorem Zw.rK_27_5 : Zw.LK 27 5 = some Zw.p4 := by kernel_rfl
theorem Zw.rK_27_6 : Zw.LK 27 6 = some Zw.p4 := by kernel_rfl
theorem Zw.rK_27_7 : Zw.LK 27 7 = some Zw.p4 := by kernel_rfl
theorem Zw.rK_27_8 : Zw.LK 27 8 = some Zw.p4 := by kernel_rfl
theorem Zw.rK_27_9 : Zw.LK 27 9 = some Zw.p4 := by kernel_rfl
theorem Zw.rK_27_10 : Zw.LK 27 10 = some Zw.p4 := by kernel_rfl
theorem Zw.rK_27_11 : Zw.LK 27 11 = some Zw.p4 := by kernel_rfl
theorem Zw.rK_27_12 : Zw.LK 27 12 = some Zw.p4 := by kernel_rfl
theorem Zw.rK_27_13 : Zw.LK 27 13 = some Zw.p4 := by kernel_rfl
theorem Zw.rK_27_14 : Zw.LK 27 14 = some Zw.p4 := by kernel_rfl
theorem Zw.rK_27_15 : Zw.LK 27 15 = some Zw.p4 := by kernel_rfl
theorem Zw.rK_27_16 : Zw.LK 27 16 = some Zw.p4 := by kernel_rfl
theorem Zw.rK_27_17 : Zw.LK 27 17 = some Zw.p4 := by kernel_rfl
theorem Zw.rK_27_18 : Zw.LK 27 18 = some Zw.p4 := by kernel_rfl
theorem Zw.rK_27_19 : Zw.LK 27 19 = some Zw.p4 := by kernel_rfl
theorem Zw.rK_27_20 : Zw.LK 27 20 = some Zw.p4 := by kernel_rfl
theorem Zw.rK_27_21 : Zw.LK 27 21 = some Zw.p4 := by kernel_rfl
theorem Zw.rK_27_22 : Zw.LK 27 22 = some Zw.p4 := by kernel_rfl
theorem Zw.rK_27_23 : Zw.LK 27 23 = some Zw.p4 := by kernel_rfl
theorem Zw.rK_27_24 : Zw.LK 27 24 = some Zw.p4 := by kernel_rfl
theorem Zw.rK_27_25 : Zw.LK 27 25 = some Zw.p4 := by kernel_rfl
theorem Zw.rK_27_26 : Zw.LK 27 26 = some Zw.p4 := by kernel_rfl
theorem Zw.rK27 (K : Nat) (h : K < 27) : Zw.LK 27 K = some Zw.p4 := by
  rcases (show K = 0 ∨ K = 1 ∨ K = 2 ∨ K = 3 ∨ K = 4 ∨ K = 5 ∨ K = 6 ∨ K = 7 ∨ K = 8 ∨ K = 9 ∨ K = 10 ∨ K = 11 ∨ K = 12 ∨ K = 13 ∨ K = 14 ∨ K = 15 ∨ K = 16 ∨ K = 17 ∨ K = 18 ∨ K = 19 ∨ K = 20 ∨ K = 21 ∨ K = 22 ∨ K = 23 ∨ K = 24 ∨ K = 25 ∨ K = 26 by omega) with h | h | h | h | h | h | h | h | h | h | h | h | h | h | h | h | h | h | h | h | h | h | h | h | h | h | h
  · subst h; exact Zw.rK_27_0
  · subst h; exact Zw.rK_27_1
  · subst h; exact Zw.rK_27_2
  · subst h; exact Zw.rK_27_3
  · subst h; exact Zw.rK_27_4
  · subst h; exact Zw.rK_27_5
  · subst h; exact Zw.rK_27_6
  · subst h; exact Zw.rK_27_7
  · subst h; exact Zw.rK_27_8
  · subst h; exact Zw.rK_27_9
  · subst h; exact Zw.rK_27_10
  · subst h; exact Zw.rK_27_11
  · subst h; exact Zw.rK_27_12
  · subst h; exact Zw.rK_27_13
  · subst h; exact Zw.rK_27_14
  · subst h; exact Zw.rK_27_15
  · subst h; exact Zw.rK_27_16
  · subst h; exact Zw.rK_27_17
  · subst h; exact Zw.rK_27_18
  · subst h; exact Zw.rK_27_19
  · subst h; exact Zw.rK_27_20
  · subst h; exact Zw.rK_27_21
  · subst h; exact Zw.rK_27_22
  · subst h; exact Zw.rK_27_23
  · subst h; exact Zw.rK_27_24
  · subst h; exact Zw.rK_27_25
  · subst h; exact Zw.rK_27_26
theorem Zw.rK_29_0 : Zw.LK 29 0 = some Zw.p4 := by kernel_rfl
theorem Zw.rK_29_1 : Zw.LK 29 1 = some Zw.p4 := by kernel_rfl
theorem Zw.rK_29_2 : Zw.LK 29 2 = some Zw.p4 := by kernel_rfl
theorem Zw.rK_29_3 : Zw.LK 29 3 = some Zw.p4 := by kernel_rfl
theorem Zw.rK_29_4 : Zw.LK 29 4 = some Zw.p4 := by kernel_rfl
theorem Zw.rK_29_5 : Zw.LK 29 5 = some Zw.p4 := by kernel_rfl
theorem Zw.rK_29_6 : Zw.LK 29 6 = some Zw.p4 := by kernel_rfl
theorem Zw.rK_29_7 : Zw.LK 29 7 = some Zw.p4 := by kernel_rfl
theorem Zw.rK_29_8 : Zw.LK 29 8 = some Zw.p4 := by kernel_rfl
theorem Zw.rK_29_9 : Zw.LK 29 9 = some Zw.p4 := by kernel_rfl
theorem Zw.rK_29_10 : Zw.LK 29 10 = some Zw.p4 := by kernel_rfl
theorem Zw.rK_29_11 : Zw.LK 29 11 = some Zw.p4 := by kernel_rfl
theorem Zw.rK_29_12 : Zw.LK 29 12 = some Zw.p4 := by kernel_rfl
theorem Zw.rK_29_13 : Zw.LK 29 13 = some Zw.p4 := by kernel_rfl
theorem Zw.rK_29_14 : Zw.LK 29 14 = some Zw.p4 := by kernel_rfl
theorem Zw.rK_29_15 : Zw.LK 29 15 = some Zw.p4 := by kernel_rfl
theorem Zw.rK_29_16 : Zw.LK 29 16 = some Zw.p4 := by kernel_rfl
theorem Zw.rK_29_17 : Zw.LK 29 17 = some Zw.p4 := by kernel_rfl
theorem Zw.rK_29_18 : Zw.LK 29 18 = some Zw.p4 := by kernel_rfl
theorem Zw.rK_29_19 : Zw.LK 29 19 = some Zw.p4 := by kernel_rfl
theorem Zw.rK_29_20 : Zw.LK 29 20 = some Zw.p4 := by kernel_rfl
theorem Zw.rK_29_21 : Zw.LK 29 21 = some Zw.p4 := by kernel_rfl
theorem Zw.rK_29_22 : Zw.LK 29 22 = some Zw.p4 := by kernel_rfl
theorem Zw.rK_29_23 : Zw.LK 29 23 = some Zw.p4 := by kernel_rfl
theorem Zw.rK_29_24 : Zw.LK 29 24 = some Zw.p4 := by kernel_rfl
theorem Zw.rK_29_25 : Zw.LK 29 25 = some Zw.p4 := by kernel_rfl
theorem Zw.rK_29_26 : Zw.LK 29 26 = some Zw.p4 := by kernel_rfl
theorem Zw.rK_29_27 : Zw.LK 29 27 = some Zw.p4 := by kernel_rfl
theorem Zw.rK_29_28 : Zw.LK 29 28 = some Zw.p4 := by kernel_rfl
theorem Zw.rK29 (K : Nat) (h : K < 29) : Zw.LK 29 K = some Zw.p4 := by
  rcases (show K = 0 ∨ K = 1 ∨ K = 2 ∨ K = 3 ∨ K = 4 ∨ K = 5 ∨ K = 6 ∨ K = 7 ∨ K = 8 ∨ K = 9 ∨ K = 10 ∨ K = 11 ∨ K = 12 ∨ K = 13 ∨ K = 14 ∨ K = 15 ∨ K = 16 ∨ K = 17 ∨ K = 18 ∨ K = 19 ∨ K = 20 ∨ K = 21 ∨ K = 22 ∨ K = 23 ∨ K = 24 ∨ K = 25 ∨ K = 26 ∨ K = 27 ∨ K = 28 by omega) with h | h | h | h | h | h | h | h | h | h | h | h | h | h | h | h | h | h | h | h | h | h | h | h | h | h | h | h | h
  · subst h; exact Zw.rK_29_0
  · subst h; exact Zw.rK_29_1
  · subst h; exact Zw.rK_29_2
  · subst h; exact Zw.rK_29_3
  · subst h; exact Zw.rK_29_4
  · subst h; exact Zw.rK_29_5
  · subst h; exact Zw.rK_29_6
  · subst h; exact Zw.rK_29_7
  · subst h; exact Zw.rK_29_8
  · subst h; exact Zw.rK_29_9
  · subst h; exact Zw.rK_29_10
  · subst h; exact Zw.rK_29_11
  · subst h; exact Zw.rK_29_12
  · subst h; exact Zw.rK_29_13
  · subst h; exact Zw.rK_29_14
  · subst h; exact Zw.rK_29_15
  · subst h; exact Zw.rK_29_16
  · subst h; exact Zw.rK_29_17
  · subst h; exact Zw.rK_29_18
  · subst h; exact Zw.rK_29_19
  · subst h; exact Zw.rK_29_20
  · subst h; exact Zw.rK_29_21
  · subst h; exact Zw.rK_29_22
  · subst h; exact Zw.rK_29_23
  · subst h; exact Zw.rK_29_24
  · subst h; exact Zw.rK_29_25
  · subst h; exact Zw.rK_29_26
  · subst h; exact Zw.rK_29_27
  · subst h; exact Zw.rK_29_28
theorem Zw.rK_31_0 : Zw.LK 31 0 = some Zw.p4 := by kernel_rfl
theorem Zw.rK_31_1 : Zw.LK 31 1 = some Zw.p4 := by kernel_rfl
theorem Zw.rK_31_2 : Zw.LK 31 2 = some Zw.p4 := by kernel_rfl
theorem Zw.rK_31_3 : Zw.LK 31 3 = some Zw.p4 := by kernel_rfl
theorem Zw.rK_31_4 : Zw.LK 31 4 = some Zw.p4 := by kernel_rfl
theorem Zw.rK_31_5 : Zw.LK 31 5 = some Zw.p4 := by kernel_rfl
theorem Zw.rK_31_6 : Zw.LK 31 6 = some Zw.p4 := by kernel_rfl
theorem Zw.rK_31_7 : Zw.LK 31 7 = some Zw.p4 := by kernel_rfl
theorem Zw.rK_31_8 : Zw.LK 31 8 = some Zw.p4 := by kernel_rfl
theorem Zw.rK_31_9 : Zw.LK 31 9 = some Zw.p4 := by kernel_rfl
theorem Zw.rK_31_10 : Zw.LK 31 10 = some Zw.p4 := by kernel_rfl
theorem Zw.rK_31_11 : Zw.LK 31 11 = some Zw.p4 := by kernel_rfl
theorem Zw.rK_31_12 : Zw.LK 31 12 = some Zw.p4 := by kernel_rfl
theorem Zw.rK_31_13 : Zw.LK 31 13 = some Zw.p4 := by kernel_rfl
theorem Zw.rK_31_14 : Zw.LK 31 14 = some Zw.p4 := by kernel_rfl
theorem Zw.rK_31_15 : Zw.LK 31 15 = some Zw.p4 := by kernel_rfl
theorem Zw.rK_31_16 : Zw.LK 31 16 = some Zw.p4 := by kernel_rfl
theorem Zw.rK_31_17 : Zw.LK 31 17 = some Zw.p4 := by kernel_rfl
theorem Zw.rK_31_18 : Zw.LK 31 18 = some Zw.p4 := by kernel_rfl
theorem Zw.rK_31_19 : Zw.LK 31 19 = some Zw.p4 := by kernel_rfl
theorem Zw.rK_31_20 : Zw.LK 31 20 = some Zw.p4 := by kernel_rfl
theorem Zw.rK_31_21 : Zw.LK 31 21 = some Zw.p4 := by kernel_rfl
theorem Zw.rK_31_22 : Zw.LK 31 22 = some Zw.p4 := by kernel_rfl
theorem Zw.rK_31_23 : Zw.LK 31 23 = some Zw.p4 := by kernel_rfl
theorem Zw.rK_31_24 : Zw.LK 31 24 = some Zw.p4 := by kernel_rfl
theorem Zw.rK_31_25 : Zw.LK 31 25 = some Zw.p4 := by kernel_rfl
theorem Zw.rK_31_26 : Zw.LK 31 26 = some Zw.p4 := by kernel_rfl
theorem Zw.rK_31_27 : Zw.LK 31 27 = some Zw.p4 := by kernel_rfl
theorem Zw.rK_31_28 : Zw.LK 31 28 = some Zw.p4 := by kernel_rfl
theorem Zw.rK_31_29 : Zw.LK 31 29 = some Zw.p4 := by kernel_rfl
theorem Zw.rK_31_30 : Zw.LK 31 30 = some Zw.p4 := by kernel_rfl
theorem Zw.rK31 (K : Nat) (h : K < 31) : Zw.LK 31 K = some Zw.p4 := by
  rcases (show K = 0 ∨ K = 1 ∨ K = 2 ∨ K = 3 ∨ K = 4 ∨ K = 5 ∨ K = 6 ∨ K = 7 ∨ K = 8 ∨ K = 9 ∨ K = 10 ∨ K = 11 ∨ K = 12 ∨ K = 13 ∨ K = 14 ∨ K = 15 ∨ K = 16 ∨ K = 17 ∨ K = 18 ∨ K = 19 ∨ K = 20 ∨ K = 21 ∨ K = 22 ∨ K = 23 ∨ K = 24 ∨ K = 25 ∨ K = 26 ∨ K = 27 ∨ K = 28 ∨ K = 29 ∨ K = 30 by omega) with h | h | h | h | h | h | h | h | h | h | h | h | h | h | h | h | h | h | h | h | h | h | h | h | h | h | h | h | h | h | h
  · subst h; exact Zw.rK_31_0
  · subst h; exact Zw.rK_31_1
  · subst h; exact Zw.rK_31_2
  · subst h; exact Zw.rK_31_3
  · subst h; exact Zw.rK_31_4
  · subst h; exact Zw.rK_31_5
  · subst h; exact Zw.rK_31_6
  · subst h; exact Zw.rK_31_7
  · subst h; exact Zw.rK_31_8
  · subst h; exact Zw.rK_31_9
  · subst h; exact Zw.rK_31_10
  · subst h; exact Zw.rK_31_11
  · subst h; exact Zw.rK_31_12
  · subst h; exact Zw.rK_31_13
  · subst h; exact Zw.rK_31_14
  · subst h; exact Zw.rK_31_15
  · subst h; exact Zw.rK_31_16
  · subst h; exact Zw.rK_31_17
  · subst h; exact Zw.rK_31_18
  · subst h; exact Zw.rK_31_19
  · subst h; exact Zw.rK_31_20
  · subst h; exact Zw.rK_31_21
  · subst h; exact Zw.rK_31_22
  · subst h; exact Zw.rK_31_23
  · subst h; exact Zw.rK_31_24
  · subst h; exact Zw.rK_31_25
  · subst h; exact Zw.rK_31_26
  · subst h; exact Zw.rK_31_27
  · subst h; exact Zw.rK_31_28
  · subst h; exact Zw.rK_31_29
  · subst h; exact Zw.rK_31_30
theorem Zw.rK_33_0 : Zw.LK 33 0 = some Zw.p4 := by kernel_rfl
theorem Zw.rK_33_1 : Zw.LK 33 1 = some Zw.p4 := by kernel_rfl
theorem Zw.rK_33_2 : Zw.LK 33 2 = some Zw.p4 := by kernel_rfl
theorem Zw.rK_33_3 : Zw.LK 33 3 = some Zw.p4 := by kernel_rfl
theorem Zw.rK_33_4 : Zw.LK 33 4 = some Zw.p4 := by kernel_rfl
theorem Zw.rK_33_5 : Zw.LK 33 5 = some Zw.p4 := by kernel_rfl
theorem Zw.rK_33_6 : Zw.LK 33 6 = some Zw.p4 := by kernel_rfl
theorem Zw.rK_33_7 : Zw.LK 33 7 = some Zw.p4 := by kernel_rfl
theorem Zw.rK_33_8 : Zw.LK 33 8 = some Zw.p4 := by kernel_rfl
theorem Zw.rK_33_9 : Zw.LK 33 9 = some Zw.p4 := by kernel_rfl
theorem Zw.rK_33_10 : Zw.LK 33 10 = some Zw.p4 := by kernel_rfl
theorem Zw.rK_33_11 : Zw.LK 33 11 = some Zw.p4 := by kernel_rfl
theorem Zw.rK_33_12 : Zw.LK 33 12 = some Zw.p4 := by kernel_rfl
theorem Zw.rK_33_13 : Zw.LK 33 13 = some Zw.p4 := by kernel_rfl
theorem Zw.rK_33_14 : Zw.LK 33 14 = some Zw.p4 := by kernel_rfl
theorem Zw.rK_33_15 : Zw.LK 33 15 = some Zw.p4 := by kernel_rfl
theorem Zw.rK_33_16 : Zw.LK 33 16 = some Zw.p4 := by kernel_rfl
theorem Zw.rK_33_17 : Zw.LK 33 17 = some Zw.p4 := by kernel_rfl
theorem Zw.rK_33_18 : Zw.LK 33 18 = some Zw.p4 := by kernel_rfl
theorem Zw.rK_33_19 : Zw.LK 33 19 = some Zw.p4 := by kernel_rfl
theorem Zw.rK_33_20 : Zw.LK 33 20 = some Zw.p4 := by kernel_rfl
theorem Zw.rK_33_21 : Zw.LK 33 21 = some Zw.p4 := by kernel_rfl
theorem Zw.rK_33_22 : Zw.LK 33 22 = some Zw.p4 := by kernel_rfl
theorem Zw.rK_33_23 : Zw.LK 33 23 = some Zw.p4 := by kernel_rfl
theorem Zw.rK_33_24 : Zw.LK 33 24 = some Zw.p4 := by kernel_rfl
theorem Zw.rK_33_25 : Zw.LK 33 25 = some Zw.p4 := by kernel_rfl
theorem Zw.rK_33_26 : Zw.LK 33 26 = some Zw.p4 := by kernel_rfl
theorem Zw.rK_33_27 : Zw.LK 33 27 = some Zw.p4 := by kernel_rfl
theorem Zw.rK_33_28 : Zw.LK 33 28 = some Zw.p4 := by kernel_rfl
theorem Zw.rK_33_29 : Zw.LK 33 29 = some Zw.p4 := by kernel_rfl
theorem Zw.rK_33_30 : Zw.LK 33 30 = some Zw.p4 := by kernel_rfl
theorem Zw.rK_33_31 : Zw.LK 33 31 = some Zw.p4 := by kernel_rfl
theorem Zw.rK_33_32 : Zw.LK 33 32 = some Zw.p4 := by kernel_rfl
theorem Zw.rK33 (K : Nat) (h : K < 33) : Zw.LK 33 K = some Zw.p4 := by
  rcases (show K = 0 ∨ K = 1 ∨ K = 2 ∨ K = 3 ∨ K = 4 ∨ K = 5 ∨ K = 6 ∨ K = 7 ∨ K = 8 ∨ K = 9 ∨ K = 10 ∨ K = 11 ∨ K = 12 ∨ K = 13 ∨ K = 14 ∨ K = 15 ∨ K = 16 ∨ K = 17 ∨ K = 18 ∨ K = 19 ∨ K = 20 ∨ K = 21 ∨ K = 22 ∨ K = 23 ∨ K = 24 ∨ K = 25 ∨ K = 26 ∨ K = 27 ∨ K = 28 ∨ K = 29 ∨ K = 30 ∨ K = 31 ∨ K = 32 by omega) with h | h | h | h | h | h | h | h | h | h | h | h | h | h | h | h | h | h | h | h | h | h | h | h | h | h | h | h | h | h | h | h | h
  · subst h; exact Zw.rK_33_0
  · subst h; exact Zw.rK_33_1
  · subst h; exact Zw.rK_33_2
  · subst h; exact Zw.rK_33_3
  · subst h; exact Zw.rK_33_4
  · subst h; exact Zw.rK_33_5
  · subst h; exact Zw.rK_33_6
  · subst h; exact Zw.rK_33_7
  · subst h; exact Zw.rK_33_8
  · subst h; exact Zw.rK_33_9
  · subst h; exact Zw.rK_33_10
  · subst h; exact Zw.rK_33_11
  · subst h; exact Zw.rK_33_12
  · subst h; exact Zw.rK_33_13
  · subst h; exact Zw.rK_33_14
  · subst h; exact Zw.rK_33_15
  · subst h; exact Zw.rK_33_16
  · subst h; exact Zw.rK_33_17
  · subst h; exact Zw.rK_33_18
  · subst h; exact Zw.rK_33_19
  · subst h; exact Zw.rK_33_20
  · subst h; exact Zw.rK_33_21
  · subst h; exact Zw.rK_33_22
  · subst h; exact Zw.rK_33_23
  · subst h; exact Zw.rK_33_24
  · subst h; exact Zw.rK_33_25
  · subst h; exact Zw.rK_33_26
  · subst h; exact Zw.rK_33_27
  · subst h; exact Zw.rK_33_28
  · subst h; exact Zw.rK_33_29
  · subst h; exact Zw.rK_33_30
  · subst h; exact Zw.rK_33_31
  · subst h; exact Zw.rK_33_32
theorem Zw.rK_35_0 : Zw.LK 35 0 = some Zw.p4 := by kernel_rfl
theorem Zw.rK_35_1 : Zw.LK 35 1 = some Zw.p4 := by kernel_rfl
theorem Zw.rK_35_2 : Zw.LK 35 2 = some Zw.p4 := by kernel_rfl
theorem Zw.rK_35_3 : Zw.LK 35 3 = some Zw.p4 := by kernel_rfl
theorem Zw.rK_35_4 : Zw.LK 35 4 = some Zw.p4 := by kernel_rfl
theorem Zw.rK_35_5 : Zw.LK 35 5 = some Zw.p4 := by kernel_rfl
theorem Zw.rK_35_6 : Zw.LK 35 6 = some Zw.p4 := by kernel_rfl
theorem Zw.rK_35_7 : Zw.LK 35 7 = some Zw.p4 := by kernel_rfl
theorem Zw.rK_35_8 : Zw.LK 35 8 = some Zw.p4 := by kernel_rfl
theorem Zw.rK_35_9 : Zw.LK 35 9 = some Zw.p4 := by kernel_rfl
theorem Zw.rK_35_10 : Zw.LK 35 10 = some Zw.p4 := by kernel_rfl
theorem Zw.rK_35_11 : Zw.LK 35 11 = some Zw.p4 := by kernel_rfl
theorem Zw.rK_35_12 : Zw.LK 35 12 = some Zw.p4 := by kernel_rfl
theorem Zw.rK_35_13 : Zw.LK 35 13 = some Zw.p4 := by kernel_rfl
theorem Zw.rK_35_14 : Zw.LK 35 14 = some Zw.p4 := by kernel_rfl
theorem Zw.rK_35_15 : Zw.LK 35 15 = some Zw.p4 := by kernel_rfl
theorem Zw.rK_35_16 : Zw.LK 35 16 = some Zw.p4 := by kernel_rfl
theorem Zw.rK_35_17 : Zw.LK 35 17 = some Zw.p4 := by kernel_rfl
theorem Zw.rK_35_18 : Zw.LK 35 18 = some Zw.p4 := by kernel_rfl
theorem Zw.rK_35_19 : Zw.LK 35 19 = some Zw.p4 := by kernel_rfl
theorem Zw.rK_35_20 : Zw.LK 35 20 = some Zw.p4 := by kernel_rfl
theorem Zw.rK_35_21 : Zw.LK 35 21 = some Zw.p4 := by kernel_rfl
theorem Zw.rK_35_22 : Zw.LK 35 22 = some Zw.p4 := by kernel_rfl
theorem Zw.rK_35_23 : Zw.LK 35 23 = some Zw.p4 := by kernel_rfl
theorem Zw.rK_35_24 : Zw.LK 35 24 = some Zw.p4 := by kernel_rfl
theorem Zw.rK_35_25 : Zw.LK 35 25 = some Zw.p4 := by kernel_rfl
theorem Zw.rK_35_26 : Zw.LK 35 26 = some Zw.p4 := by kernel_rfl
theorem Zw.rK_35_27 : Zw.LK 35 27 = some Zw.p4 := by kernel_rfl
theorem Zw.rK_35_28 : Zw.LK 35 28 = some Zw.p4 := by kernel_rfl
theorem Zw.rK_35_29 : Zw.LK 35 29 = some Zw.p4 := by kernel_rfl
theorem Zw.rK_35_30 : Zw.LK 35 30 = some Zw.p4 := by kernel_rfl
theorem Zw.rK_35_31 : Zw.LK 35 31 = some Zw.p4 := by kernel_rfl
theorem Zw.rK_35_32 : Zw.LK 35 32 = some Zw.p4 := by kernel_rfl
theorem Zw.rK_35_33 : Zw.LK 35 33 = some Zw.p4 := by kernel_rfl
theorem Zw.rK_35_34 : Zw.LK 35 34 = some Zw.p4 := by kernel_rfl
theorem Zw.rK35 (K : Nat) (h : K < 35) : Zw.LK 35 K = some Zw.p4 := by
  rcases (show K = 0 ∨ K = 1 ∨ K = 2 ∨ K = 3 ∨ K = 4 ∨ K = 5 ∨ K = 6 ∨ K = 7 ∨ K = 8 ∨ K = 9 ∨ K = 10 ∨ K = 11 ∨ K = 12 ∨ K = 13 ∨ K = 14 ∨ K = 15 ∨ K = 16 ∨ K = 17 ∨ K = 18 ∨ K = 19 ∨ K = 20 ∨ K = 21 ∨ K = 22 ∨ K = 23 ∨ K = 24 ∨ K = 25 ∨ K = 26 ∨ K = 27 ∨ K = 28 ∨ K = 29 ∨ K = 30 ∨ K = 31 ∨ K = 32 ∨ K = 33 ∨ K = 34 by omega) with h | h | h | h | h | h | h | h | h | h | h | h | h | h | h | h | h | h | h | h | h | h | h | h | h | h | h | h | h | h | h | h | h | h | h
  · subst h; exact Zw.rK_35_0
  · subst h; exact Zw.rK_35_1
  · subst h; exact Zw.rK_35_2
  · subst h; exact Zw.rK_35_3
  · subst h; exact Zw.rK_35_4
  · subst h; exact Zw.rK_35_5
  · subst h; exact Zw.rK_35_6
  · subst h; exact Zw.rK_35_7
  · subst h; exact Zw.rK_35_8
  · subst h; exact Zw.rK_35_9
  · subst h; exact Zw.rK_35_10
  · subst h; exact Zw.rK_35_11
  · subst h; exact Zw.rK_35_12
  · subst h; exact Zw.rK_35_13
  · subst h; exact Zw.rK_35_14
  · subst h; exact Zw.rK_35_15
  · subst h; exact Zw.rK_35_16
  · subst h; exact Zw.rK_35_17
  · subst h; exact Zw.rK_35_18
  · subst h; exact Zw.rK_35_19
  · subst h; exact Zw.rK_35_20
  · subst h; exact Zw.rK_35_21
  · subst h; exact Zw.rK_35_22
  · subst h; exact Zw.rK_35_23
  · subst h; exact Zw.rK_35_24
  · subst h; exact Zw.rK_35_25
  · subst h; exact Zw.rK_35_26
  · subst h; exact Zw.rK_35_27
  · subst h; exact Zw.rK_35_28
  · subst h; exact Zw.rK_35_29
  · subst h; exact Zw.rK_35_30
  · subst h; exact Zw.rK_35_31
  · subst h; exact Zw.rK_35_32
  · subst h; exact Zw.rK_35_33
  · subst h; exact Zw.rK_35_34
theorem Zw.rK_37_0 : Zw.LK 37 0 = some Zw.p4 := by kernel_rfl
theorem Zw.rK_37_1 : Zw.LK 37 1 = some Zw.p4 := by kernel_rfl
theorem Zw.rK_37_2 : Zw.LK 37 2 = some Zw.p4 := by kernel_rfl
theorem Zw.rK_37_3 : Zw.LK 37 3 = some Zw.p4 := by kernel_rfl
theorem Zw.rK_37_4 : Zw.LK 37 4 = some Zw.p4 := by kernel_rfl
theorem Zw.rK_37_5 : Zw.LK 37 5 = some Zw.p4 := by kernel_rfl
theorem Zw.rK_37_6 : Zw.LK 37 6 = some Zw.p4 := by kernel_rfl
theorem Zw.rK_37_7 : Zw.LK 37 7 = some Zw.p4 := by kernel_rfl
theorem Zw.rK_37_8 : Zw.LK 37 8 = some Zw.p4 := by kernel_rfl
theorem Zw.rK_37_9 : Zw.LK 37 9 = some Zw.p4 := by kernel_rfl
theorem Zw.rK_37_10 : Zw.LK 37 10 = some Zw.p4 := by kernel_rfl
theorem Zw.rK_37_11 : Zw.LK 37 11 = some Zw.p4 := by kernel_rfl
theorem Zw.rK_37_12 : Zw.LK 37 12 = some Zw.p4 := by kernel_rfl
theorem Zw.rK_37_13 : Zw.LK 37 13 = some Zw.p4 := by kernel_rfl
theorem Zw.rK_37_14 : Zw.LK 37 14 = some Zw.p4 := by kernel_rfl
theorem Zw.rK_37_15 : Zw.LK 37 15 = some Zw.p4 := by kernel_rfl
theorem Zw.rK_37_16 : Zw.LK 37 16 = some Zw.p4 := by kernel_rfl
theorem Zw.rK_37_17 : Zw.LK 37 17 = some Zw.p4 := by kernel_rfl
theorem Zw.rK_37_18 : Zw.LK 37 18 = some Zw.p4 := by kernel_rfl
theorem Zw.rK_37_19 : Zw.LK 37 19 = some Zw.p4 := by kernel_rfl
theorem Zw.rK_37_20 : Zw.LK 37 20 = some Zw.p4 := by kernel_rfl
theorem Zw.rK_37_21 : Zw.LK 37 21 = some Zw.p4 := by kernel_rfl
theorem Zw.rK_37_22 : Zw.LK 37 22 = some Zw.p4 := by kernel_rfl
theorem Zw.rK_37_23 : Zw.LK 37 23 = some Zw.p4 := by kernel_rfl
theorem Zw.rK_37_24 : Zw.LK 37 24 = some Zw.p4 := by kernel_rfl
theorem Zw.rK_37_25 : Zw.LK 37 25 = some Zw.p4 := by kernel_rfl
theorem Zw.rK_37_26 : Zw.LK 37 26 = some Zw.p4 := by kernel_rfl
theorem Zw.rK_37_27 : Zw.LK 37 27 = some Zw.p4 := by kernel_rfl
theorem Zw.rK_37_28 : Zw.LK 37 28 = some Zw.p4 := by kernel_rfl
theorem Zw.rK_37_29 : Zw.LK 37 29 = some Zw.p4 := by kernel_rfl
theorem Zw.rK_37_30 : Zw.LK 37 30 = some Zw.p4 := by kernel_rfl
theorem Zw.rK_37_31 : Zw.LK 37 31 = some Zw.p4 := by kernel_rfl
theorem Zw.rK_37_32 : Zw.LK 37 32 = some Zw.p4 := by kernel_rfl
theorem Zw.rK_37_33 : Zw.LK 37 33 = some Zw.p4 := by kernel_rfl
theorem Zw.rK_37_34 : Zw.LK 37 34 = some Zw.p4 := by kernel_rfl
theorem Zw.rK_37_35 : Zw.LK 37 35 = some Zw.p4 := by kernel_rfl
theorem Zw.rK_37_36 : Zw.LK 37 36 = some Zw.p4 := by kernel_rfl
theorem Zw.rK37 (K : Nat) (h : K < 37) : Zw.LK 37 K = some Zw.p4 := by
  rcases (show K = 0 ∨ K = 1 ∨ K = 2 ∨ K = 3 ∨ K = 4 ∨ K = 5 ∨ K = 6 ∨ K = 7 ∨ K = 8 ∨ K = 9 ∨ K = 10 ∨ K = 11 ∨ K = 12 ∨ K = 13 ∨ K = 14 ∨ K = 15 ∨ K = 16 ∨ K = 17 ∨ K = 18 ∨ K = 19 ∨ K = 20 ∨ K = 21 ∨ K = 22 ∨ K = 23 ∨ K = 24 ∨ K = 25 ∨ K = 26 ∨ K = 27 ∨ K = 28 ∨ K = 29 ∨ K = 30 ∨ K = 31 ∨ K = 32 ∨ K = 33 ∨ K = 34 ∨ K = 35 ∨ K = 36 by omega) with h | h | h | h | h | h | h | h | h | h | h | h | h | h | h | h | h | h | h | h | h | h | h | h | h | h | h | h | h | h | h | h | h | h | h | h | h
  · subst h; exact Zw.rK_37_0
  · subst h; exact Zw.rK_37_1
  · subst h; exact Zw.rK_37_2
  · subst h; exact Zw.rK_37_3
  · subst h; exact Zw.rK_37_4
  · subst h; exact Zw.rK_37_5
  · subst h; exact Zw.rK_37_6
  · subst h; exact Zw.rK_37_7
  · subst h; exact Zw.rK_37_8
  · subst h; exact Zw.rK_37_9
  · subst h; exact Zw.rK_37_10
  · subst h; exact Zw.rK_37_11
  · subst h; exact Zw.rK_37_12
  · subst h; exact Zw.rK_37_13
  · subst h; exact Zw.rK_37_14
  · subst h; exact Zw.rK_37_15
  · subst h; exact Zw.rK_37_16
  · subst h; exact Zw.rK_37_17
  · subst h; exact Zw.rK_37_18
  · subst h; exact Zw.rK_37_19
  · subst h; exact Zw.rK_37_20
  · subst h; exact Zw.rK_37_21
  · subst h; exact Zw.rK_37_22
  · subst h; exact Zw.rK_37_23
  · subst h; exact Zw.rK_37_24
  · subst h; exact Zw.rK_37_25
  · subst h; exact Zw.rK_37_26
  · subst h; exact Zw.rK_37_27
  · subst h; exact Zw.rK_37_28
  · subst h; exact Zw.rK_37_29
  · subst h; exact Zw.rK_37_30
  · subst h; exact Zw.rK_37_31
  · subst h; exact Zw.rK_37_32
  · subst h; exact Zw.rK_37_33
  · subst h; exact Zw.rK_37_34
  · subst h; exact Zw.rK_37_35
  · subst h; exact Zw.rK_37_36
theorem Zw.rK_39_0 : Zw.LK 39 0 = some Zw.p4 := by kernel_rfl
theorem Zw.rK_39_1 : Zw.LK 39 1 = some Zw.p4 := by kernel_rfl
theorem Zw.rK_39_2 : Zw.LK 39 2 = some Zw.p4 := by kernel_rfl
theorem Zw.rK_39_3 : Zw.LK 39 3 = some Zw.p4 := by kernel_rfl
theorem Zw.rK_39_4 : Zw.LK 39 4 = some Zw.p4 := by kernel_rfl
theorem Zw.rK_39_5 : Zw.LK 39 5 = some Zw.p4 := by kernel_rfl
theorem Zw.rK_39_6 : Zw.LK 39 6 = some Zw.p4 := by kernel_rfl
theorem Zw.rK_39_7 : Zw.LK 39 7 = some Zw.p4 := by kernel_rfl
theorem Zw.rK_39_8 : Zw.LK 39 8 = some Zw.p4 := by kernel_rfl
theorem Zw.rK_39_9 : Zw.LK 39 9 = some Zw.p4 := by kernel_rfl
theorem Zw.rK_39_10 : Zw.LK 39 10 = some Zw.p4 := by kernel_rfl
theorem Zw.rK_39_11 : Zw.LK 39 11 = some Zw.p4 := by kernel_rfl
theorem Zw.rK_39_12 : Zw.LK 39 12 = some Zw.p4 := by kernel_rfl
theorem Zw.rK_39_13 : Zw.LK 39 13 = some Zw.p4 := by kernel_rfl
theorem Zw.rK_39_14 : Zw.LK 39 14 = some Zw.p4 := by kernel_rfl
theorem Zw.rK_39_15 : Zw.LK 39 15 = some Zw.p4 := by kernel_rfl
theorem Zw.rK_39_16 : Zw.LK 39 16 = some Zw.p4 := by kernel_rfl
theorem Zw.rK_39_17 : Zw.LK 39 17 = some Zw.p4 := by kernel_rfl
theorem Zw.rK_39_18 : Zw.LK 39 18 = some Zw.p4 := by kernel_rfl
theorem Zw.rK_39_19 : Zw.LK 39 19 = some Zw.p4 := by kernel_rfl
theorem Zw.rK_39_20 : Zw.LK 39 20 = some Zw.p4 := by kernel_rfl
theorem Zw.rK_39_21 : Zw.LK 39 21 = some Zw.p4 := by kernel_rfl
theorem Zw.rK_39_22 : Zw.LK 39 22 = some Zw.p4 := by kernel_rfl
theorem Zw.rK_39_23 : Zw.LK 39 23 = some Zw.p4 := by kernel_rfl
theorem Zw.rK_39_24 : Zw.LK 39 24 = some Zw.p4 := by kernel_rfl
theorem Zw.rK_39_25 : Zw.LK 39 25 = some Zw.p4 := by kernel_rfl
theorem Zw.rK_39_26 : Zw.LK 39 26 = some Zw.p4 := by kernel_rfl
theorem Zw.rK_39_27 : Zw.LK 39 27 = some Zw.p4 := by kernel_rfl
theorem Zw.rK_39_28 : Zw.LK 39 28 = some Zw.p4 := by kernel_rfl
theorem Zw.rK_39_29 : Zw.LK 39 29 = some Zw.p4 := by kernel_rfl
theorem Zw.rK_39_30 : Zw.LK 39 30 = some Zw.p4 := by kernel_rfl
theorem Zw.rK_39_31 : Zw.LK 39 31 = some Zw.p4 := by kernel_rfl
theorem Zw.rK_39_32 : Zw.LK 39 32 = some Zw.p4 := by kernel_rfl
theorem Zw.rK_39_33 : Zw.LK 39 33 = some Zw.p4 := by kernel_rfl
theorem Zw.rK_39_34 : Zw.LK 39 34 = some Zw.p4 := by kernel_rfl
theorem Zw.rK_39_35 : Zw.LK 39 35 = some Zw.p4 := by kernel_rfl
theorem Zw.rK_39_36 : Zw.LK 39 36 = some Zw.p4 := by kernel_rfl
theorem Zw.rK_39_37 : Zw.LK 39 37 = some Zw.p4 := by kernel_rfl
theorem Zw.rK_39_38 : Zw.LK 39 38 = some Zw.p4 := by kernel_rfl
theorem Zw.rK39 (K : Nat) (h : K < 39) : Zw.LK 39 K = some Zw.p4 := by
  rcases (show K = 0 ∨ K = 1 ∨ K = 2 ∨ K = 3 ∨ K = 4 ∨ K = 5 ∨ K = 6 ∨ K = 7 ∨ K = 8 ∨ K = 9 ∨ K = 10 ∨ K = 11 ∨ K = 12 ∨ K = 13 ∨ K = 14 ∨ K = 15 ∨ K = 16 ∨ K = 17 ∨ K = 18 ∨ K = 19 ∨ K = 20 ∨ K = 21 ∨ K = 22 ∨ K = 23 ∨ K = 24 ∨ K = 25 ∨ K = 26 ∨ K = 27 ∨ K = 28 ∨ K = 29 ∨ K = 30 ∨ K = 31 ∨ K = 32 ∨ K = 33 ∨ K = 34 ∨ K = 35 ∨ K = 36 ∨ K = 37 ∨ K = 38 by omega) with h | h | h | h | h | h | h | h | h | h | h | h | h | h | h | h | h | h | h | h | h | h | h | h | h | h | h | h | h | h | h | h | h | h | h | h | h | h | h
  · subst h; exact Zw.rK_39_0
  · subst h; exact Zw.rK_39_1
  · subst h; exact Zw.rK_39_2
  · subst h; exact Zw.rK_39_3
  · subst h; exact Zw.rK_39_4
  · subst h; exact Zw.rK_39_5
  · subst h; exact Zw.rK_39_6
  · subst h; exact Zw.rK_39_7
  · subst h; exact Zw.rK_39_8
  · subst h; exact Zw.rK_39_9
  · subst h; exact Zw.rK_39_10
  · subst h; exact Zw.rK_39_11
  · subst h; exact Zw.rK_39_12
  · subst h; exact Zw.rK_39_13
  · subst h; exact Zw.rK_39_14
  · subst h; exact Zw.rK_39_15
  · subst h; exact Zw.rK_39_16
  · subst h; exact Zw.rK_39_17
  · subst h; exact Zw.rK_39_18
  · subst h; exact Zw.rK_39_19
  · subst h; exact Zw.rK_39_20
  · subst h; exact Zw.rK_39_21
  · subst h; exact Zw.rK_39_22
  · subst h; exact Zw.rK_39_23
  · subst h; exact Zw.rK_39_24
  · subst h; exact Zw.rK_39_25
  · subst h; exact Zw.rK_39_26
  · subst h; exact Zw.rK_39_27
  · subst h; exact Zw.rK_39_28
  · subst h; exact Zw.rK_39_29
  · subst h; exact Zw.rK_39_30
  · subst h; exact Zw.rK_39_31
  · subst h; exact Zw.rK_39_32
  · subst h; exact Zw.rK_39_33
  · subst h; exact Zw.rK_39_34
  · subst h; exact Zw.rK_39_35
  · subst h; exact Zw.rK_39_36
  · subst h; exact Zw.rK_39_37
  · subst h; exact Zw.rK_39_38
end Go.Proofs
