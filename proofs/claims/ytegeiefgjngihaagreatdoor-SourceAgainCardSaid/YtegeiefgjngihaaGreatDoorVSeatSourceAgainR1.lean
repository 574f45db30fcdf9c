/- Pieces of the law's run, from node to node, answered by the executor. No conditions. -/
import Derived.Test.YtegeiefgjngihaaGreatDoorVSeatSourceAgainNd
set_option linter.all false
namespace Go.Proofs
open Go Go.Vsx
set_option maxRecDepth 1000000
theorem Zw.r0 : Zw.L0 = some Zw.p0 := by kernel_rfl
theorem Zw.i0 : Zw.d0.sub 8 [] (idl 8 Zw.d0.objs) (idA 2) (Zw.d0.st 8 []) = true := by kernel_rfl
theorem Zw.iA : Zw.allU (fun L => Zw.hidA (Zw.roA L) L) 41 = true := by kernel_rfl
theorem Zw.iE : Zw.allU (fun L => Zw.hidA [] L) 41 = true := by kernel_rfl
theorem Zw.iB : Zw.allU Zw.hidB 41 = true := by kernel_rfl
theorem Zw.rF : Zw.allU Zw.finB 41 = true := by kernel_rfl
theorem Zw.rR0_0 : Zw.LR 0 0 = some Zw.p0 := by kernel_rfl
theorem Zw.rR0_1 : Zw.LR 0 1 = some Zw.p0 := by kernel_rfl
theorem Zw.rR0_2 : Zw.LR 0 2 = some Zw.p0 := by kernel_rfl
theorem Zw.rR0_3 : Zw.LR 0 3 = some Zw.p0 := by kernel_rfl
theorem Zw.rR0_4 : Zw.LR 0 4 = some Zw.p0 := by kernel_rfl
theorem Zw.rR0_5 : Zw.LR 0 5 = some Zw.p0 := by kernel_rfl
theorem Zw.rR0_6 : Zw.LR 0 6 = some Zw.p0 := by kernel_rfl
theorem Zw.rR0_7 : Zw.LR 0 7 = some Zw.p0 := by kernel_rfl
theorem Zw.rR0_8 : Zw.LR 0 8 = some Zw.p0 := by kernel_rfl
theorem Zw.rR0_9 : Zw.LR 0 9 = some Zw.p0 := by kernel_rfl
theorem Zw.rR0_10 : Zw.LR 0 10 = some Zw.p0 := by kernel_rfl
theorem Zw.rR0_11 : Zw.LR 0 11 = some Zw.p0 := by kernel_rfl
theorem Zw.rR0_12 : Zw.LR 0 12 = some Zw.p0 := by kernel_rfl
theorem Zw.rR0_13 : Zw.LR 0 13 = some Zw.p0 := by kernel_rfl
theorem Zw.rR0_14 : Zw.LR 0 14 = some Zw.p0 := by kernel_rfl
theorem Zw.rR0_15 : Zw.LR 0 15 = some Zw.p0 := by kernel_rfl
theorem Zw.rR0_16 : Zw.LR 0 16 = some Zw.p0 := by kernel_rfl
theorem Zw.rR0_17 : Zw.LR 0 17 = some Zw.p0 := by kernel_rfl
theorem Zw.rR0_18 : Zw.LR 0 18 = some Zw.p0 := by kernel_rfl
theorem Zw.rR0_19 : Zw.LR 0 19 = some Zw.p0 := by kernel_rfl
theorem Zw.rR0_20 : Zw.LR 0 20 = some Zw.p0 := by kernel_rfl
theorem Zw.rR0_21 : Zw.LR 0 21 = some Zw.p0 := by kernel_rfl
theorem Zw.rR0_22 : Zw.LR 0 22 = some Zw.p0 := by kernel_rfl
theorem Zw.rR0_23 : Zw.LR 0 23 = some Zw.p0 := by kernel_rfl
theorem Zw.rR0_24 : Zw.LR 0 24 = some Zw.p0 := by kernel_rfl
theorem Zw.rR0_25 : Zw.LR 0 25 = some Zw.p0 := by kernel_rfl
theorem Zw.rR0_26 : Zw.LR 0 26 = some Zw.p0 := by kernel_rfl
theorem Zw.rR0_27 : Zw.LR 0 27 = some Zw.p0 := by kernel_rfl
theorem Zw.rR0_28 : Zw.LR 0 28 = some Zw.p0 := by kernel_rfl
theorem Zw.rR0_29 : Zw.LR 0 29 = some Zw.p0 := by kernel_rfl
theorem Zw.rR0_30 : Zw.LR 0 30 = some Zw.p0 := by kernel_rfl
theorem Zw.rR0_31 : Zw.LR 0 31 = some Zw.p0 := by kernel_rfl
theorem Zw.rR0_32 : Zw.LR 0 32 = some Zw.p0 := by kernel_rfl
theorem Zw.rR0_33 : Zw.LR 0 33 = some Zw.p0 := by kernel_rfl
theorem Zw.rR0_34 : Zw.LR 0 34 = some Zw.p0 := by kernel_rfl
theorem Zw.rR0_35 : Zw.LR 0 35 = some Zw.p0 := by kernel_rfl
theorem Zw.rR0_36 : Zw.LR 0 36 = some Zw.p0 := by kernel_rfl
theorem Zw.rR0_37 : Zw.LR 0 37 = some Zw.p0 := by kernel_rfl
theorem Zw.rR0_38 : Zw.LR 0 38 = some Zw.p0 := by kernel_rfl
theorem Zw.rR0_39 : Zw.LR 0 39 = some Zw.p0 := by kernel_rfl
theorem Zw.rR0 (L : Nat) (h : L < 40) : Zw.LR 0 L = some Zw.p0 := by
  rcases (show L = 0 ∨ L = 1 ∨ L = 2 ∨ L = 3 ∨ L = 4 ∨ L = 5 ∨ L = 6 ∨ L = 7 ∨ L = 8 ∨ L = 9 ∨ L = 10 ∨ L = 11 ∨ L = 12 ∨ L = 13 ∨ L = 14 ∨ L = 15 ∨ L = 16 ∨ L = 17 ∨ L = 18 ∨ L = 19 ∨ L = 20 ∨ L = 21 ∨ L = 22 ∨ L = 23 ∨ L = 24 ∨ L = 25 ∨ L = 26 ∨ L = 27 ∨ L = 28 ∨ L = 29 ∨ L = 30 ∨ L = 31 ∨ L = 32 ∨ L = 33 ∨ L = 34 ∨ L = 35 ∨ L = 36 ∨ L = 37 ∨ L = 38 ∨ L = 39 by omega) with h | h | h | h | h | h | h | h | h | h | h | h | h | h | h | h | h | h | h | h | h | h | h | h | h | h | h | h | h | h | h | h | h | h | h | h | h | h | h | h
  · subst h; exact Zw.rR0_0
  · subst h; exact Zw.rR0_1
  · subst h; exact Zw.rR0_2
  · subst h; exact Zw.rR0_3
  · subst h; exact Zw.rR0_4
  · subst h; exact Zw.rR0_5
  · subst h; exact Zw.rR0_6
  · subst h; exact Zw.rR0_7
  · subst h; exact Zw.rR0_8
  · subst h; exact Zw.rR0_9
  · subst h; exact Zw.rR0_10
  · subst h; exact Zw.rR0_11
  · subst h; exact Zw.rR0_12
  · subst h; exact Zw.rR0_13
  · subst h; exact Zw.rR0_14
  · subst h; exact Zw.rR0_15
  · subst h; exact Zw.rR0_16
  · subst h; exact Zw.rR0_17
  · subst h; exact Zw.rR0_18
  · subst h; exact Zw.rR0_19
  · subst h; exact Zw.rR0_20
  · subst h; exact Zw.rR0_21
  · subst h; exact Zw.rR0_22
  · subst h; exact Zw.rR0_23
  · subst h; exact Zw.rR0_24
  · subst h; exact Zw.rR0_25
  · subst h; exact Zw.rR0_26
  · subst h; exact Zw.rR0_27
  · subst h; exact Zw.rR0_28
  · subst h; exact Zw.rR0_29
  · subst h; exact Zw.rR0_30
  · subst h; exact Zw.rR0_31
  · subst h; exact Zw.rR0_32
  · subst h; exact Zw.rR0_33
  · subst h; exact Zw.rR0_34
  · subst h; exact Zw.rR0_35
  · subst h; exact Zw.rR0_36
  · subst h; exact Zw.rR0_37
  · subst h; exact Zw.rR0_38
  · subst h; exact Zw.rR0_39
theorem Zw.rR1_0 : Zw.LR 1 0 = some Zw.p0 := by kernel_rfl
theorem Zw.rR1_1 : Zw.LR 1 1 = some Zw.p0 := by kernel_rfl
theorem Zw.rR1_2 : Zw.LR 1 2 = some Zw.p0 := by kernel_rfl
theorem Zw.rR1_3 : Zw.LR 1 3 = some Zw.p0 := by kernel_rfl
theorem Zw.rR1_4 : Zw.LR 1 4 = some Zw.p0 := by kernel_rfl
theorem Zw.rR1_5 : Zw.LR 1 5 = some Zw.p0 := by kernel_rfl
theorem Zw.rR1_6 : Zw.LR 1 6 = some Zw.p0 := by kernel_rfl
theorem Zw.rR1_7 : Zw.LR 1 7 = some Zw.p0 := by kernel_rfl
theorem Zw.rR1_8 : Zw.LR 1 8 = some Zw.p0 := by kernel_rfl
theorem Zw.rR1_9 : Zw.LR 1 9 = some Zw.p0 := by kernel_rfl
theorem Zw.rR1_10 : Zw.LR 1 10 = some Zw.p0 := by kernel_rfl
theorem Zw.rR1_11 : Zw.LR 1 11 = some Zw.p0 := by kernel_rfl
theorem Zw.rR1_12 : Zw.LR 1 12 = some Zw.p0 := by kernel_rfl
theorem Zw.rR1_13 : Zw.LR 1 13 = some Zw.p0 := by kernel_rfl
theorem Zw.rR1_14 : Zw.LR 1 14 = some Zw.p0 := by kernel_rfl
theorem Zw.rR1_15 : Zw.LR 1 15 = some Zw.p0 := by kernel_rfl
theorem Zw.rR1_16 : Zw.LR 1 16 = some Zw.p0 := by kernel_rfl
theorem Zw.rR1_17 : Zw.LR 1 17 = some Zw.p0 := by kernel_rfl
theorem Zw.rR1_18 : Zw.LR 1 18 = some Zw.p0 := by kernel_rfl
theorem Zw.rR1_19 : Zw.LR 1 19 = some Zw.p0 := by kernel_rfl
theorem Zw.rR1_20 : Zw.LR 1 20 = some Zw.p0 := by kernel_rfl
theorem Zw.rR1_21 : Zw.LR 1 21 = some Zw.p0 := by kernel_rfl
theorem Zw.rR1_22 : Zw.LR 1 22 = some Zw.p0 := by kernel_rfl
theorem Zw.rR1_23 : Zw.LR 1 23 = some Zw.p0 := by kernel_rfl
theorem Zw.rR1_24 : Zw.LR 1 24 = some Zw.p0 := by kernel_rfl
theorem Zw.rR1_25 : Zw.LR 1 25 = some Zw.p0 := by kernel_rfl
theorem Zw.rR1_26 : Zw.LR 1 26 = some Zw.p0 := by kernel_rfl
theorem Zw.rR1_27 : Zw.LR 1 27 = some Zw.p0 := by kernel_rfl
theorem Zw.rR1_28 : Zw.LR 1 28 = some Zw.p0 := by kernel_rfl
theorem Zw.rR1_29 : Zw.LR 1 29 = some Zw.p0 := by kernel_rfl
theorem Zw.rR1_30 : Zw.LR 1 30 = some Zw.p0 := by kernel_rfl
theorem Zw.rR1_31 : Zw.LR 1 31 = some Zw.p0 := by kernel_rfl
theorem Zw.rR1_32 : Zw.LR 1 32 = some Zw.p0 := by kernel_rfl
theorem Zw.rR1_33 : Zw.LR 1 33 = some Zw.p0 := by kernel_rfl
theorem Zw.rR1_34 : Zw.LR 1 34 = some Zw.p0 := by kernel_rfl
theorem Zw.rR1_35 : Zw.LR 1 35 = some Zw.p0 := by kernel_rfl
theorem Zw.rR1_36 : Zw.LR 1 36 = some Zw.p0 := by kernel_rfl
theorem Zw.rR1_37 : Zw.LR 1 37 = some Zw.p0 := by kernel_rfl
theorem Zw.rR1_38 : Zw.LR 1 38 = some Zw.p0 := by kernel_rfl
theorem Zw.rR1_39 : Zw.LR 1 39 = some Zw.p0 := by kernel_rfl
theorem Zw.rR1 (L : Nat) (h : L < 40) : Zw.LR 1 L = some Zw.p0 := by
  rcases (show L = 0 ∨ L = 1 ∨ L = 2 ∨ L = 3 ∨ L = 4 ∨ L = 5 ∨ L = 6 ∨ L = 7 ∨ L = 8 ∨ L = 9 ∨ L = 10 ∨ L = 11 ∨ L = 12 ∨ L = 13 ∨ L = 14 ∨ L = 15 ∨ L = 16 ∨ L = 17 ∨ L = 18 ∨ L = 19 ∨ L = 20 ∨ L = 21 ∨ L = 22 ∨ L = 23 ∨ L = 24 ∨ L = 25 ∨ L = 26 ∨ L = 27 ∨ L = 28 ∨ L = 29 ∨ L = 30 ∨ L = 31 ∨ L = 32 ∨ L = 33 ∨ L = 34 ∨ L = 35 ∨ L = 36 ∨ L = 37 ∨ L = 38 ∨ L = 39 by omega) with h | h | h | h | h | h | h | h | h | h | h | h | h | h | h | h | h | h | h | h | h | h | h | h | h | h | h | h | h | h | h | h | h | h | h | h | h | h | h | h
  · subst h; exact Zw.rR1_0
  · subst h; exact Zw.rR1_1
  · subst h; exact Zw.rR1_2
  · subst h; exact Zw.rR1_3
  · subst h; exact Zw.rR1_4
  · subst h; exact Zw.rR1_5
  · subst h; exact Zw.rR1_6
  · subst h; exact Zw.rR1_7
  · subst h; exact Zw.rR1_8
  · subst h; exact Zw.rR1_9
  · subst h; exact Zw.rR1_10
  · subst h; exact Zw.rR1_11
  · subst h; exact Zw.rR1_12
  · subst h; exact Zw.rR1_13
  · subst h; exact Zw.rR1_14
  · subst h; exact Zw.rR1_15
  · subst h; exact Zw.rR1_16
  · subst h; exact Zw.rR1_17
  · subst h; exact Zw.rR1_18
  · subst h; exact Zw.rR1_19
  · subst h; exact Zw.rR1_20
  · subst h; exact Zw.rR1_21
  · subst h; exact Zw.rR1_22
  · subst h; exact Zw.rR1_23
  · subst h; exact Zw.rR1_24
  · subst h; exact Zw.rR1_25
  · subst h; exact Zw.rR1_26
  · subst h; exact Zw.rR1_27
  · subst h; exact Zw.rR1_28
  · subst h; exact Zw.rR1_29
  · subst h; exact Zw.rR1_30
  · subst h; exact Zw.rR1_31
  · subst h; exact Zw.rR1_32
  · subst h; exact Zw.rR1_33
  · subst h; exact Zw.rR1_34
  · subst h; exact Zw.rR1_35
  · subst h; exact Zw.rR1_36
  · subst h; exact Zw.rR1_37
  · subst h; exact Zw.rR1_38
  · subst h; exact Zw.rR1_39
theorem Zw.rR2_0 : Zw.LR 2 0 = some Zw.p0 := by kernel_rfl
theorem Zw.rR2_1 : Zw.LR 2 1 = some Zw.p0 := by kernel_rfl
theorem Zw.rR2_2 : Zw.LR 2 2 = some Zw.p0 := by kernel_rfl
theorem Zw.rR2_3 : Zw.LR 2 3 = some Zw.p0 := by kernel_rfl
theorem Zw.rR2_4 : Zw.LR 2 4 = some Zw.p0 := by kernel_rfl
theorem Zw.rR2_5 : Zw.LR 2 5 = some Zw.p0 := by kernel_rfl
theorem Zw.rR2_6 : Zw.LR 2 6 = some Zw.p0 := by kernel_rfl
theorem Zw.rR2_7 : Zw.LR 2 7 = some Zw.p0 := by kernel_rfl
theorem Zw.rR2_8 : Zw.LR 2 8 = some Zw.p0 := by kernel_rfl
theorem Zw.rR2_9 : Zw.LR 2 9 = some Zw.p0 := by kernel_rfl
theorem Zw.rR2_10 : Zw.LR 2 10 = some Zw.p0 := by kernel_rfl
theorem Zw.rR2_11 : Zw.LR 2 11 = some Zw.p0 := by kernel_rfl
theorem Zw.rR2_12 : Zw.LR 2 12 = some Zw.p0 := by kernel_rfl
theorem Zw.rR2_13 : Zw.LR 2 13 = some Zw.p0 := by kernel_rfl
theorem Zw.rR2_14 : Zw.LR 2 14 = some Zw.p0 := by kernel_rfl
theorem Zw.rR2_15 : Zw.LR 2 15 = some Zw.p0 := by kernel_rfl
theorem Zw.rR2_16 : Zw.LR 2 16 = some Zw.p0 := by kernel_rfl
theorem Zw.rR2_17 : Zw.LR 2 17 = some Zw.p0 := by kernel_rfl
theorem Zw.rR2_18 : Zw.LR 2 18 = some Zw.p0 := by kernel_rfl
theorem Zw.rR2_19 : Zw.LR 2 19 = some Zw.p0 := by kernel_rfl
theorem Zw.rR2_20 : Zw.LR 2 20 = some Zw.p0 := by kernel_rfl
theorem Zw.rR2_21 : Zw.LR 2 21 = some Zw.p0 := by kernel_rfl
theorem Zw.rR2_22 : Zw.LR 2 22 = some Zw.p0 := by kernel_rfl
theorem Zw.rR2_23 : Zw.LR 2 23 = some Zw.p0 := by kernel_rfl
theorem Zw.rR2_24 : Zw.LR 2 24 = some Zw.p0 := by kernel_rfl
theorem Zw.rR2_25 : Zw.LR 2 25 = some Zw.p0 := by kernel_rfl
theorem Zw.rR2_26 : Zw.LR 2 26 = some Zw.p0 := by kernel_rfl
theorem Zw.rR2_27 : Zw.LR 2 27 = some Zw.p0 := by kernel_rfl
theorem Zw.rR2_28 : Zw.LR 2 28 = some Zw.p0 := by kernel_rfl
theorem Zw.rR2_29 : Zw.LR 2 29 = some Zw.p0 := by kernel_rfl
theorem Zw.rR2_30 : Zw.LR 2 30 = some Zw.p0 := by kernel_rfl
theorem Zw.rR2_31 : Zw.LR 2 31 = some Zw.p0 := by kernel_rfl
theorem Zw.rR2_32 : Zw.LR 2 32 = some Zw.p0 := by kernel_rfl
theorem Zw.rR2_33 : Zw.LR 2 33 = some Zw.p0 := by kernel_rfl
theorem Zw.rR2_34 : Zw.LR 2 34 = some Zw.p0 := by kernel_rfl
theorem Zw.rR2_35 : Zw.LR 2 35 = some Zw.p0 := by kernel_rfl
theorem Zw.rR2_36 : Zw.LR 2 36 = some Zw.p0 := by kernel_rfl
theorem Zw.rR2_37 : Zw.LR 2 37 = some Zw.p0 := by kernel_rfl
theorem Zw.rR2_38 : Zw.LR 2 38 = some Zw.p0 := by kernel_rfl
theorem Zw.rR2_39 : Zw.LR 2 39 = some Zw.p0 := by kernel_rfl
theorem Zw.rR2 (L : Nat) (h : L < 40) : Zw.LR 2 L = some Zw.p0 := by
  rcases (show L = 0 ∨ L = 1 ∨ L = 2 ∨ L = 3 ∨ L = 4 ∨ L = 5 ∨ L = 6 ∨ L = 7 ∨ L = 8 ∨ L = 9 ∨ L = 10 ∨ L = 11 ∨ L = 12 ∨ L = 13 ∨ L = 14 ∨ L = 15 ∨ L = 16 ∨ L = 17 ∨ L = 18 ∨ L = 19 ∨ L = 20 ∨ L = 21 ∨ L = 22 ∨ L = 23 ∨ L = 24 ∨ L = 25 ∨ L = 26 ∨ L = 27 ∨ L = 28 ∨ L = 29 ∨ L = 30 ∨ L = 31 ∨ L = 32 ∨ L = 33 ∨ L = 34 ∨ L = 35 ∨ L = 36 ∨ L = 37 ∨ L = 38 ∨ L = 39 by omega) with h | h | h | h | h | h | h | h | h | h | h | h | h | h | h | h | h | h | h | h | h | h | h | h | h | h | h | h | h | h | h | h | h | h | h | h | h | h | h | h
  · subst h; exact Zw.rR2_0
  · subst h; exact Zw.rR2_1
  · subst h; exact Zw.rR2_2
  · subst h; exact Zw.rR2_3
  · subst h; exact Zw.rR2_4
  · subst h; exact Zw.rR2_5
  · subst h; exact Zw.rR2_6
  · subst h; exact Zw.rR2_7
  · subst h; exact Zw.rR2_8
  · subst h; exact Zw.rR2_9
  · subst h; exact Zw.rR2_10
  · subst h; exact Zw.rR2_11
  · subst h; exact Zw.rR2_12
  · subst h; exact Zw.rR2_13
  · subst h; exact Zw.rR2_14
  · subst h; exact Zw.rR2_15
  · subst h; exact Zw.rR2_16
  · subst h; exact Zw.rR2_17
  · subst h; exact Zw.rR2_18
  · subst h; exact Zw.rR2_19
  · subst h; exact Zw.rR2_20
  · subst h; exact Zw.rR2_21
  · subst h; exact Zw.rR2_22
  · subst h; exact Zw.rR2_23
  · subst h; exact Zw.rR2_24
  · subst h; exact Zw.rR2_25
  · subst h; exact Zw.rR2_26
  · subst h; exact Zw.rR2_27
  · subst h; exact Zw.rR2_28
  · subst h; exact Zw.rR2_29
  · subst h; exact Zw.rR2_30
  · subst h; exact Zw.rR2_31
  · subst h; exact Zw.rR2_32
  · subst h; exact Zw.rR2_33
  · subst h; exact Zw.rR2_34
  · subst h; exact Zw.rR2_35
  · subst h; exact Zw.rR2_36
  · subst h; exact Zw.rR2_37
  · subst h; exact Zw.rR2_38
  · subst h; exact Zw.rR2_39
theorem Zw.rR3_0 : Zw.LR 3 0 = some Zw.p0 := by kernel_rfl
theorem Zw.rR3_1 : Zw.LR 3 1 = some Zw.p0 := by kernel_rfl
theorem Zw.rR3_2 : Zw.LR 3 2 = some Zw.p0 := by kernel_rfl
theorem Zw.rR3_3 : Zw.LR 3 3 = some Zw.p0 := by kernel_rfl
theorem Zw.rR3_4 : Zw.LR 3 4 = some Zw.p0 := by kernel_rfl
theorem Zw.rR3_5 : Zw.LR 3 5 = some Zw.p0 := by kernel_rfl
theorem Zw.rR3_6 : Zw.LR 3 6 = some Zw.p0 := by kernel_rfl
theorem Zw.rR3_7 : Zw.LR 3 7 = some Zw.p0 := by kernel_rfl
theorem Zw.rR3_8 : Zw.LR 3 8 = some Zw.p0 := by kernel_rfl
theorem Zw.rR3_9 : Zw.LR 3 9 = some Zw.p0 := by kernel_rfl
theorem Zw.rR3_10 : Zw.LR 3 10 = some Zw.p0 := by kernel_rfl
theorem Zw.rR3_11 : Zw.LR 3 11 = some Zw.p0 := by kernel_rfl
theorem Zw.rR3_12 : Zw.LR 3 12 = some Zw.p0 := by kernel_rfl
theorem Zw.rR3_13 : Zw.LR 3 13 = some Zw.p0 := by kernel_rfl
theorem Zw.rR3_14 : Zw.LR 3 14 = some Zw.p0 := by kernel_rfl
theorem Zw.rR3_15 : Zw.LR 3 15 = some Zw.p0 := by kernel_rfl
theorem Zw.rR3_16 : Zw.LR 3 16 = some Zw.p0 := by kernel_rfl
theorem Zw.rR3_17 : Zw.LR 3 17 = some Zw.p0 := by kernel_rfl
theorem Zw.rR3_18 : Zw.LR 3 18 = some Zw.p0 := by kernel_rfl
theorem Zw.rR3_19 : Zw.LR 3 19 = some Zw.p0 := by kernel_rfl
theorem Zw.rR3_20 : Zw.LR 3 20 = some Zw.p0 := by kernel_rfl
theorem Zw.rR3_21 : Zw.LR 3 21 = some Zw.p0 := by kernel_rfl
theorem Zw.rR3_22 : Zw.LR 3 22 = some Zw.p0 := by kernel_rfl
theorem Zw.rR3_23 : Zw.LR 3 23 = some Zw.p0 := by kernel_rfl
theorem Zw.rR3_24 : Zw.LR 3 24 = some Zw.p0 := by kernel_rfl
theorem Zw.rR3_25 : Zw.LR 3 25 = some Zw.p0 := by kernel_rfl
theorem Zw.rR3_26 : Zw.LR 3 26 = some Zw.p0 := by kernel_rfl
theorem Zw.rR3_27 : Zw.LR 3 27 = some Zw.p0 := by kernel_rfl
theorem Zw.rR3_28 : Zw.LR 3 28 = some Zw.p0 := by kernel_rfl
theorem Zw.rR3_29 : Zw.LR 3 29 = some Zw.p0 := by kernel_rfl
theorem Zw.rR3_30 : Zw.LR 3 30 = some Zw.p0 := by kernel_rfl
theorem Zw.rR3_31 : Zw.LR 3 31 = some Zw.p0 := by kernel_rfl
theorem Zw.rR3_32 : Zw.LR 3 32 = some Zw.p0 := by kernel_rfl
theorem Zw.rR3_33 : Zw.LR 3 33 = some Zw.p0 := by kernel_rfl
theorem Zw.rR3_34 : Zw.LR 3 34 = some Zw.p0 := by kernel_rfl
theorem Zw.rR3_35 : Zw.LR 3 35 = some Zw.p0 := by kernel_rfl
theorem Zw.rR3_36 : Zw.LR 3 36 = some Zw.p0 := by kernel_rfl
theorem Zw.rR3_37 : Zw.LR 3 37 = some Zw.p0 := by kernel_rfl
theorem Zw.rR3_38 : Zw.LR 3 38 = some Zw.p0 := by kernel_rfl
theorem Zw.rR3_39 : Zw.LR 3 39 = some Zw.p0 := by kernel_rfl
theorem Zw.rR3 (L : Nat) (h : L < 40) : Zw.LR 3 L = some Zw.p0 := by
  rcases (show L = 0 ∨ L = 1 ∨ L = 2 ∨ L = 3 ∨ L = 4 ∨ L = 5 ∨ L = 6 ∨ L = 7 ∨ L = 8 ∨ L = 9 ∨ L = 10 ∨ L = 11 ∨ L = 12 ∨ L = 13 ∨ L = 14 ∨ L = 15 ∨ L = 16 ∨ L = 17 ∨ L = 18 ∨ L = 19 ∨ L = 20 ∨ L = 21 ∨ L = 22 ∨ L = 23 ∨ L = 24 ∨ L = 25 ∨ L = 26 ∨ L = 27 ∨ L = 28 ∨ L = 29 ∨ L = 30 ∨ L = 31 ∨ L = 32 ∨ L = 33 ∨ L = 34 ∨ L = 35 ∨ L = 36 ∨ L = 37 ∨ L = 38 ∨ L = 39 by omega) with h | h | h | h | h | h | h | h | h | h | h | h | h | h | h | h | h | h | h | h | h | h | h | h | h | h | h | h | h | h | h | h | h | h | h | h | h | h | h | h
  · subst h; exact Zw.rR3_0
  · subst h; exact Zw.rR3_1
  · subst h; exact Zw.rR3_2
  · subst h; exact Zw.rR3_3
  · subst h; exact Zw.rR3_4
  · subst h; exact Zw.rR3_5
  · subst h; exact Zw.rR3_6
  · subst h; exact Zw.rR3_7
  · subst h; exact Zw.rR3_8
  · subst h; exact Zw.rR3_9
  · subst h; exact Zw.rR3_10
  · subst h; exact Zw.rR3_11
  · subst h; exact Zw.rR3_12
  · subst h; exact Zw.rR3_13
  · subst h; exact Zw.rR3_14
  · subst h; exact Zw.rR3_15
  · subst h; exact Zw.rR3_16
  · subst h; exact Zw.rR3_17
  · subst h; exact Zw.rR3_18
  · subst h; exact Zw.rR3_19
  · subst h; exact Zw.rR3_20
  · subst h; exact Zw.rR3_21
  · subst h; exact Zw.rR3_22
  · subst h; exact Zw.rR3_23
  · subst h; exact Zw.rR3_24
  · subst h; exact Zw.rR3_25
  · subst h; exact Zw.rR3_26
  · subst h; exact Zw.rR3_27
  · subst h; exact Zw.rR3_28
  · subst h; exact Zw.rR3_29
  · subst h; exact Zw.rR3_30
  · subst h; exact Zw.rR3_31
  · subst h; exact Zw.rR3_32
  · subst h; exact Zw.rR3_33
  · subst h; exact Zw.rR3_34
  · subst h; exact Zw.rR3_35
  · subst h; exact Zw.rR3_36
  · subst h; exact Zw.rR3_37
  · subst h; exact Zw.rR3_38
  · subst h; exact Zw.rR3_39
theorem Zw.rA_0 : Zw.LA 0 = some Zw.p0 := by kernel_rfl
theorem Zw.rA_1 : Zw.LA 1 = some Zw.p0 := by kernel_rfl
theorem Zw.rA_2 : Zw.LA 2 = some Zw.p0 := by kernel_rfl
theorem Zw.rA_3 : Zw.LA 3 = some Zw.p0 := by kernel_rfl
theorem Zw.rA_4 : Zw.LA 4 = some Zw.p0 := by kernel_rfl
theorem Zw.rA_5 : Zw.LA 5 = some Zw.p0 := by kernel_rfl
theorem Zw.rA_6 : Zw.LA 6 = some Zw.p0 := by kernel_rfl
theorem Zw.rA_7 : Zw.LA 7 = some Zw.p0 := by kernel_rfl
theorem Zw.rA_8 : Zw.LA 8 = some Zw.p0 := by kernel_rfl
theorem Zw.rA_9 : Zw.LA 9 = some Zw.p0 := by kernel_rfl
theorem Zw.rA_10 : Zw.LA 10 = some Zw.p0 := by kernel_rfl
theorem Zw.rA_11 : Zw.LA 11 = some Zw.p0 := by kernel_rfl
theorem Zw.rA_12 : Zw.LA 12 = some Zw.p0 := by kernel_rfl
theorem Zw.rA_13 : Zw.LA 13 = some Zw.p0 := by kernel_rfl
theorem Zw.rA_14 : Zw.LA 14 = some Zw.p0 := by kernel_rfl
theorem Zw.rA_15 : Zw.LA 15 = some Zw.p0 := by kernel_rfl
theorem Zw.rA_16 : Zw.LA 16 = some Zw.p0 := by kernel_rfl
theorem Zw.rA_17 : Zw.LA 17 = some Zw.p0 := by kernel_rfl
theorem Zw.rA_18 : Zw.LA 18 = some Zw.p0 := by kernel_rfl
theorem Zw.rA_19 : Zw.LA 19 = some Zw.p0 := by kernel_rfl
theorem Zw.rA_20 : Zw.LA 20 = some Zw.p0 := by kernel_rfl
theorem Zw.rA_21 : Zw.LA 21 = some Zw.p0 := by kernel_rfl
theorem Zw.rA_22 : Zw.LA 22 = some Zw.p0 := by kernel_rfl
theorem Zw.rA_23 : Zw.LA 23 = some Zw.p0 := by kernel_rfl
theorem Zw.rA_24 : Zw.LA 24 = some Zw.p0 := by kernel_rfl
theorem Zw.rA_25 : Zw.LA 25 = some Zw.p0 := by kernel_rfl
theorem Zw.rA_26 : Zw.LA 26 = some Zw.p0 := by kernel_rfl
theorem Zw.rA_27 : Zw.LA 27 = some Zw.p0 := by kernel_rfl
theorem Zw.rA_28 : Zw.LA 28 = some Zw.p0 := by kernel_rfl
theorem Zw.rA_29 : Zw.LA 29 = some Zw.p0 := by kernel_rfl
theorem Zw.rA_30 : Zw.LA 30 = some Zw.p0 := by kernel_rfl
theorem Zw.rA_31 : Zw.LA 31 = some Zw.p0 := by kernel_rfl
theorem Zw.rA_32 : Zw.LA 32 = some Zw.p0 := by kernel_rfl
theorem Zw.rA_33 : Zw.LA 33 = some Zw.p0 := by kernel_rfl
theorem Zw.rA_34 : Zw.LA 34 = some Zw.p0 := by kernel_rfl
theorem Zw.rA_35 : Zw.LA 35 = some Zw.p0 := by kernel_rfl
theorem Zw.rA_36 : Zw.LA 36 = some Zw.p0 := by kernel_rfl
theorem Zw.rA_37 : Zw.LA 37 = some Zw.p0 := by kernel_rfl
theorem Zw.rA_38 : Zw.LA 38 = some Zw.p0 := by kernel_rfl
theorem Zw.rA_39 : Zw.LA 39 = some Zw.p0 := by kernel_rfl
theorem Zw.rA (L : Nat) (h : L < 40) : Zw.LA L = some Zw.p0 := by
  rcases (show L = 0 ∨ L = 1 ∨ L = 2 ∨ L = 3 ∨ L = 4 ∨ L = 5 ∨ L = 6 ∨ L = 7 ∨ L = 8 ∨ L = 9 ∨ L = 10 ∨ L = 11 ∨ L = 12 ∨ L = 13 ∨ L = 14 ∨ L = 15 ∨ L = 16 ∨ L = 17 ∨ L = 18 ∨ L = 19 ∨ L = 20 ∨ L = 21 ∨ L = 22 ∨ L = 23 ∨ L = 24 ∨ L = 25 ∨ L = 26 ∨ L = 27 ∨ L = 28 ∨ L = 29 ∨ L = 30 ∨ L = 31 ∨ L = 32 ∨ L = 33 ∨ L = 34 ∨ L = 35 ∨ L = 36 ∨ L = 37 ∨ L = 38 ∨ L = 39 by omega) with h | h | h | h | h | h | h | h | h | h | h | h | h | h | h | h | h | h | h | h | h | h | h | h | h | h | h | h | h | h | h | h | h | h | h | h | h | h | h | h
  · subst h; exact Zw.rA_0
  · subst h; exact Zw.rA_1
  · subst h; exact Zw.rA_2
  · subst h; exact Zw.rA_3
  · subst h; exact Zw.rA_4
  · subst h; exact Zw.rA_5
  · subst h; exact Zw.rA_6
  · subst h; exact Zw.rA_7
  · subst h; exact Zw.rA_8
  · subst h; exact Zw.rA_9
  · subst h; exact Zw.rA_10
  · subst h; exact Zw.rA_11
  · subst h; exact Zw.rA_12
  · subst h; exact Zw.rA_13
  · subst h; exact Zw.rA_14
  · subst h; exact Zw.rA_15
  · subst h; exact Zw.rA_16
  · subst h; exact Zw.rA_17
  · subst h; exact Zw.rA_18
  · subst h; exact Zw.rA_19
  · subst h; exact Zw.rA_20
  · subst h; exact Zw.rA_21
  · subst h; exact Zw.rA_22
  · subst h; exact Zw.rA_23
  · subst h; exact Zw.rA_24
  · subst h; exact Zw.rA_25
  · subst h; exact Zw.rA_26
  · subst h; exact Zw.rA_27
  · subst h; exact Zw.rA_28
  · subst h; exact Zw.rA_29
  · subst h; exact Zw.rA_30
  · subst h; exact Zw.rA_31
  · subst h; exact Zw.rA_32
  · subst h; exact Zw.rA_33
  · subst h; exact Zw.rA_34
  · subst h; exact Zw.rA_35
  · subst h; exact Zw.rA_36
  · subst h; exact Zw.rA_37
  · subst h; exact Zw.rA_38
  · subst h; exact Zw.rA_39
end Go.Proofs
