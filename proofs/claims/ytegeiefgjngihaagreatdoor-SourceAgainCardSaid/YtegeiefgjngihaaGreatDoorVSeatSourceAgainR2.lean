/- Pieces of the law's run, from node to node, answered by the executor. No conditions. -/
import Derived.Test.YtegeiefgjngihaaGreatDoorVSeatSourceAgainNd
set_option linter.all false
namespace Go.Proofs
open Go Go.Vsx
set_option maxRecDepth 1000000
theorem Zw.rE_0 : Zw.LE 0 false = some Zw.p4 := by kernel_rfl
theorem Zw.rE_1 : Zw.LE 1 false = some Zw.p4 := by kernel_rfl
theorem Zw.rE_2 : Zw.LE 2 false = some Zw.p4 := by kernel_rfl
theorem Zw.rE_3 : Zw.LE 3 false = some Zw.p4 := by kernel_rfl
theorem Zw.rE_4 : Zw.LE 4 false = some Zw.p4 := by kernel_rfl
theorem Zw.rE_5 : Zw.LE 5 false = some Zw.p4 := by kernel_rfl
theorem Zw.rE_6 : Zw.LE 6 false = some Zw.p4 := by kernel_rfl
theorem Zw.rE_7 : Zw.LE 7 false = some Zw.p4 := by kernel_rfl
theorem Zw.rE_8 : Zw.LE 8 false = some Zw.p4 := by kernel_rfl
theorem Zw.rE_9 : Zw.LE 9 false = some Zw.p4 := by kernel_rfl
theorem Zw.rE_10 : Zw.LE 10 false = some Zw.p4 := by kernel_rfl
theorem Zw.rE_11 : Zw.LE 11 false = some Zw.p4 := by kernel_rfl
theorem Zw.rE_12 : Zw.LE 12 false = some Zw.p4 := by kernel_rfl
theorem Zw.rE_13 : Zw.LE 13 false = some Zw.p4 := by kernel_rfl
theorem Zw.rE_14 : Zw.LE 14 false = some Zw.p4 := by kernel_rfl
theorem Zw.rE_15 : Zw.LE 15 false = some Zw.p4 := by kernel_rfl
theorem Zw.rE_16 : Zw.LE 16 false = some Zw.p4 := by kernel_rfl
theorem Zw.rE_17 : Zw.LE 17 false = some Zw.p4 := by kernel_rfl
theorem Zw.rE_18 : Zw.LE 18 false = some Zw.p4 := by kernel_rfl
theorem Zw.rE_19 : Zw.LE 19 false = some Zw.p4 := by kernel_rfl
theorem Zw.rE_20 : Zw.LE 20 false = some Zw.p4 := by kernel_rfl
theorem Zw.rE_21 : Zw.LE 21 false = some Zw.p4 := by kernel_rfl
theorem Zw.rE_22 : Zw.LE 22 false = some Zw.p4 := by kernel_rfl
theorem Zw.rE_23 : Zw.LE 23 false = some Zw.p4 := by kernel_rfl
theorem Zw.rE_24 : Zw.LE 24 false = some Zw.p4 := by kernel_rfl
theorem Zw.rE_25 : Zw.LE 25 false = some Zw.p4 := by kernel_rfl
theorem Zw.rE_26 : Zw.LE 26 false = some Zw.p4 := by kernel_rfl
theorem Zw.rE_27 : Zw.LE 27 false = some Zw.p4 := by kernel_rfl
theorem Zw.rE_28 : Zw.LE 28 false = some Zw.p4 := by kernel_rfl
theorem Zw.rE_29 : Zw.LE 29 false = some Zw.p4 := by kernel_rfl
theorem Zw.rE_30 : Zw.LE 30 false = some Zw.p4 := by kernel_rfl
theorem Zw.rE_31 : Zw.LE 31 false = some Zw.p4 := by kernel_rfl
theorem Zw.rE_32 : Zw.LE 32 false = some Zw.p4 := by kernel_rfl
theorem Zw.rE_33 : Zw.LE 33 false = some Zw.p4 := by kernel_rfl
theorem Zw.rE_34 : Zw.LE 34 false = some Zw.p4 := by kernel_rfl
theorem Zw.rE_35 : Zw.LE 35 false = some Zw.p4 := by kernel_rfl
theorem Zw.rE_36 : Zw.LE 36 false = some Zw.p4 := by kernel_rfl
theorem Zw.rE_37 : Zw.LE 37 false = some Zw.p4 := by kernel_rfl
theorem Zw.rE_38 : Zw.LE 38 false = some Zw.p4 := by kernel_rfl
theorem Zw.rE_39 : Zw.LE 39 false = some Zw.p4 := by kernel_rfl
theorem Zw.rE_40 : Zw.LE 40 false = some Zw.p4 := by kernel_rfl
theorem Zw.rE (L : Nat) (h : L < 41) : Zw.LE L false = some Zw.p4 := by
  rcases (show L = 0 ∨ L = 1 ∨ L = 2 ∨ L = 3 ∨ L = 4 ∨ L = 5 ∨ L = 6 ∨ L = 7 ∨ L = 8 ∨ L = 9 ∨ L = 10 ∨ L = 11 ∨ L = 12 ∨ L = 13 ∨ L = 14 ∨ L = 15 ∨ L = 16 ∨ L = 17 ∨ L = 18 ∨ L = 19 ∨ L = 20 ∨ L = 21 ∨ L = 22 ∨ L = 23 ∨ L = 24 ∨ L = 25 ∨ L = 26 ∨ L = 27 ∨ L = 28 ∨ L = 29 ∨ L = 30 ∨ L = 31 ∨ L = 32 ∨ L = 33 ∨ L = 34 ∨ L = 35 ∨ L = 36 ∨ L = 37 ∨ L = 38 ∨ L = 39 ∨ L = 40 by omega) with h | h | h | h | h | h | h | h | h | h | h | h | h | h | h | h | h | h | h | h | h | h | h | h | h | h | h | h | h | h | h | h | h | h | h | h | h | h | h | h | h
  · subst h; exact Zw.rE_0
  · subst h; exact Zw.rE_1
  · subst h; exact Zw.rE_2
  · subst h; exact Zw.rE_3
  · subst h; exact Zw.rE_4
  · subst h; exact Zw.rE_5
  · subst h; exact Zw.rE_6
  · subst h; exact Zw.rE_7
  · subst h; exact Zw.rE_8
  · subst h; exact Zw.rE_9
  · subst h; exact Zw.rE_10
  · subst h; exact Zw.rE_11
  · subst h; exact Zw.rE_12
  · subst h; exact Zw.rE_13
  · subst h; exact Zw.rE_14
  · subst h; exact Zw.rE_15
  · subst h; exact Zw.rE_16
  · subst h; exact Zw.rE_17
  · subst h; exact Zw.rE_18
  · subst h; exact Zw.rE_19
  · subst h; exact Zw.rE_20
  · subst h; exact Zw.rE_21
  · subst h; exact Zw.rE_22
  · subst h; exact Zw.rE_23
  · subst h; exact Zw.rE_24
  · subst h; exact Zw.rE_25
  · subst h; exact Zw.rE_26
  · subst h; exact Zw.rE_27
  · subst h; exact Zw.rE_28
  · subst h; exact Zw.rE_29
  · subst h; exact Zw.rE_30
  · subst h; exact Zw.rE_31
  · subst h; exact Zw.rE_32
  · subst h; exact Zw.rE_33
  · subst h; exact Zw.rE_34
  · subst h; exact Zw.rE_35
  · subst h; exact Zw.rE_36
  · subst h; exact Zw.rE_37
  · subst h; exact Zw.rE_38
  · subst h; exact Zw.rE_39
  · subst h; exact Zw.rE_40
theorem Zw.rEt : Zw.LE 40 true = some Zw.p4 := by kernel_rfl
end Go.Proofs
