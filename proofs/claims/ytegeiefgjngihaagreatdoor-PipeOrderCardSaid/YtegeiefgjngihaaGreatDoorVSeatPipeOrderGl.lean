/- The law: families of nodes over how many items each pipe has; hence from its start, for every input. No conditions. -/
import Derived.Test.YtegeiefgjngihaaGreatDoorVSeatPipeOrderR1
import Derived.Test.YtegeiefgjngihaaGreatDoorVSeatPipeOrderR2
import Derived.Test.YtegeiefgjngihaaGreatDoorVSeatPipeOrderR3
import Derived.Test.YtegeiefgjngihaaGreatDoorVSeatPipeOrderR4
set_option linter.all false
namespace Go.Proofs
open Go Go.Vsx Go.RowKit
set_option maxRecDepth 1000000
set_option maxHeartbeats 4000000
set_option linter.unusedVariables false
theorem Zw.nx {W : World} {pt pt' : Pt} {d d' : Nd} {vals : List Value} {roc : List (List Value)} {j hk : Nat} {rl : List (Nat × Nat)} {A : List Value} {vals' : List Value} (t : List SE) (ex : List Value) (rows : List Pl)
    (hok : ∀ sy, okPt (Tryz.Es Tryz.m4 sy) 8 pt = true) (hold : AllHold (nodeMu 8 rows (vals ++ ex)) t)
    (hid : d.sub 8 roc (idl 8 d.objs) (idA hk) (d.st 8 []) = true) (hrow : RowsHold W (nodeMu 8 rows (vals ++ ex)) rows roc)
    (hrun : leafNext (fK (Tryz.Es Tryz.m4 (syOf t)) 100000 100000 pt (d.st 8 roc) j) 8 d' rl A = some pt')
    (h : NdGood Tryz.prog Tryz.f4 8 Tryz.H0 W pt' d' vals') (hlen : hk = vals.length) (hone : (vals ++ ex).all (·.oneCell') = true) (hA : evL (nodeMu 8 rows (vals ++ ex)) A = some vals') (hone' : vals'.all (·.oneCell') = true) : NdGood Tryz.prog Tryz.f4 8 Tryz.H0 W pt d vals :=
  NdGood.next (E := Tryz.Es Tryz.m4 (syOf t)) (extras := ex) (rows := rows) (vals' := vals') (by omega) (Tryz.right Tryz.m4 (syOf t) _ W Tryz.mOk4 (symOk_of rfl hold)) (hok _) hid hlen hone hrow hrun hA hone' h
theorem Zw.fx {W : World} {pt : Pt} {d : Nd} {vals : List Value} {roc : List (List Value)} {j hk : Nat} (t : List SE) (ex : List Value) (rows : List Pl)
    (hok : ∀ sy, okPt (Tryz.Es Tryz.m4 sy) 8 pt = true) (hold : AllHold (nodeMu 8 rows (vals ++ ex)) t)
    (hid : d.sub 8 roc (idl 8 d.objs) (idA hk) (d.st 8 []) = true) (hlen : hk = vals.length) (hone : (vals ++ ex).all (·.oneCell') = true) (hrow : RowsHold W (nodeMu 8 rows (vals ++ ex)) rows roc)
    (hrun : leafFin (Tryz.Es Tryz.m4 (syOf t)) Tryz.f4 (fK (Tryz.Es Tryz.m4 (syOf t)) 100000 100000 pt (d.st 8 roc) j) = true) : NdGood Tryz.prog Tryz.f4 8 Tryz.H0 W pt d vals :=
  NdGood.fin (E := Tryz.Es Tryz.m4 (syOf t)) (extras := ex) (rows := rows) (by omega) (Tryz.right Tryz.m4 (syOf t) _ W Tryz.mOk4 (symOk_of rfl hold)) (hok _) hid hlen hone hrow hrun

theorem Zw.rP {n k c0 c1 c2 : Nat} (h : 1 ≤ n ∧ n ≤ 3 ∧ c0 ≤ 8 ∧ c1 ≤ 8 ∧ c2 ≤ 8 ∧ (n < 2 → c1 = 0) ∧ (n < 3 → c2 = 0)) (hk : k < n) : Zw.LP n k c0 c1 c2 = some Zw.p0 := by
  obtain ⟨h0, h01, h02, h03, h04, h05, h06⟩ := h
  rcases (show n = 1 ∨ n = 2 ∨ n = 3 by omega) with rfl | rfl | rfl
  · obtain rfl := h05 (by omega); obtain rfl := h06 (by omega)
    obtain rfl : k = 0 := by omega
    exact Zw.rep Zw.r1 c0 (by omega)
  · obtain rfl := h06 (by omega)
    rcases (show k = 0 ∨ k = 1 by omega) with rfl | rfl
    ·
      have := Zw.rep Zw.r2_0 (9 * c0 + c1) (by omega)
      simp only [show (9 * c0 + c1) / 9 = c0 by omega, show (9 * c0 + c1) % 9 = c1 by omega] at this
      exact this
    ·
      have := Zw.rep Zw.r2_1 (9 * c0 + c1) (by omega)
      simp only [show (9 * c0 + c1) / 9 = c0 by omega, show (9 * c0 + c1) % 9 = c1 by omega] at this
      exact this
  · clear h05 h06
    rcases (show k = 0 ∨ k = 1 ∨ k = 2 by omega) with rfl | rfl | rfl
    ·
      rcases (show c0 = 0 ∨ c0 = 1 ∨ c0 = 2 ∨ c0 = 3 ∨ c0 = 4 ∨ c0 = 5 ∨ c0 = 6 ∨ c0 = 7 ∨ c0 = 8 by omega) with h4 | h4 | h4 | h4 | h4 | h4 | h4 | h4 | h4
      · subst h4
        have := Zw.rep Zw.r3_0_0 (9 * c1 + c2) (by omega)
        simp only [show (9 * c1 + c2) / 9 = c1 by omega, show (9 * c1 + c2) % 9 = c2 by omega] at this
        exact this
      · subst h4
        have := Zw.rep Zw.r3_0_1 (9 * c1 + c2) (by omega)
        simp only [show (9 * c1 + c2) / 9 = c1 by omega, show (9 * c1 + c2) % 9 = c2 by omega] at this
        exact this
      · subst h4
        have := Zw.rep Zw.r3_0_2 (9 * c1 + c2) (by omega)
        simp only [show (9 * c1 + c2) / 9 = c1 by omega, show (9 * c1 + c2) % 9 = c2 by omega] at this
        exact this
      · subst h4
        have := Zw.rep Zw.r3_0_3 (9 * c1 + c2) (by omega)
        simp only [show (9 * c1 + c2) / 9 = c1 by omega, show (9 * c1 + c2) % 9 = c2 by omega] at this
        exact this
      · subst h4
        have := Zw.rep Zw.r3_0_4 (9 * c1 + c2) (by omega)
        simp only [show (9 * c1 + c2) / 9 = c1 by omega, show (9 * c1 + c2) % 9 = c2 by omega] at this
        exact this
      · subst h4
        have := Zw.rep Zw.r3_0_5 (9 * c1 + c2) (by omega)
        simp only [show (9 * c1 + c2) / 9 = c1 by omega, show (9 * c1 + c2) % 9 = c2 by omega] at this
        exact this
      · subst h4
        have := Zw.rep Zw.r3_0_6 (9 * c1 + c2) (by omega)
        simp only [show (9 * c1 + c2) / 9 = c1 by omega, show (9 * c1 + c2) % 9 = c2 by omega] at this
        exact this
      · subst h4
        have := Zw.rep Zw.r3_0_7 (9 * c1 + c2) (by omega)
        simp only [show (9 * c1 + c2) / 9 = c1 by omega, show (9 * c1 + c2) % 9 = c2 by omega] at this
        exact this
      · subst h4
        have := Zw.rep Zw.r3_0_8 (9 * c1 + c2) (by omega)
        simp only [show (9 * c1 + c2) / 9 = c1 by omega, show (9 * c1 + c2) % 9 = c2 by omega] at this
        exact this
    ·
      rcases (show c0 = 0 ∨ c0 = 1 ∨ c0 = 2 ∨ c0 = 3 ∨ c0 = 4 ∨ c0 = 5 ∨ c0 = 6 ∨ c0 = 7 ∨ c0 = 8 by omega) with h4 | h4 | h4 | h4 | h4 | h4 | h4 | h4 | h4
      · subst h4
        have := Zw.rep Zw.r3_1_0 (9 * c1 + c2) (by omega)
        simp only [show (9 * c1 + c2) / 9 = c1 by omega, show (9 * c1 + c2) % 9 = c2 by omega] at this
        exact this
      · subst h4
        have := Zw.rep Zw.r3_1_1 (9 * c1 + c2) (by omega)
        simp only [show (9 * c1 + c2) / 9 = c1 by omega, show (9 * c1 + c2) % 9 = c2 by omega] at this
        exact this
      · subst h4
        have := Zw.rep Zw.r3_1_2 (9 * c1 + c2) (by omega)
        simp only [show (9 * c1 + c2) / 9 = c1 by omega, show (9 * c1 + c2) % 9 = c2 by omega] at this
        exact this
      · subst h4
        have := Zw.rep Zw.r3_1_3 (9 * c1 + c2) (by omega)
        simp only [show (9 * c1 + c2) / 9 = c1 by omega, show (9 * c1 + c2) % 9 = c2 by omega] at this
        exact this
      · subst h4
        have := Zw.rep Zw.r3_1_4 (9 * c1 + c2) (by omega)
        simp only [show (9 * c1 + c2) / 9 = c1 by omega, show (9 * c1 + c2) % 9 = c2 by omega] at this
        exact this
      · subst h4
        have := Zw.rep Zw.r3_1_5 (9 * c1 + c2) (by omega)
        simp only [show (9 * c1 + c2) / 9 = c1 by omega, show (9 * c1 + c2) % 9 = c2 by omega] at this
        exact this
      · subst h4
        have := Zw.rep Zw.r3_1_6 (9 * c1 + c2) (by omega)
        simp only [show (9 * c1 + c2) / 9 = c1 by omega, show (9 * c1 + c2) % 9 = c2 by omega] at this
        exact this
      · subst h4
        have := Zw.rep Zw.r3_1_7 (9 * c1 + c2) (by omega)
        simp only [show (9 * c1 + c2) / 9 = c1 by omega, show (9 * c1 + c2) % 9 = c2 by omega] at this
        exact this
      · subst h4
        have := Zw.rep Zw.r3_1_8 (9 * c1 + c2) (by omega)
        simp only [show (9 * c1 + c2) / 9 = c1 by omega, show (9 * c1 + c2) % 9 = c2 by omega] at this
        exact this
    ·
      rcases (show c0 = 0 ∨ c0 = 1 ∨ c0 = 2 ∨ c0 = 3 ∨ c0 = 4 ∨ c0 = 5 ∨ c0 = 6 ∨ c0 = 7 ∨ c0 = 8 by omega) with h4 | h4 | h4 | h4 | h4 | h4 | h4 | h4 | h4
      · subst h4
        have := Zw.rep Zw.r3_2_0 (9 * c1 + c2) (by omega)
        simp only [show (9 * c1 + c2) / 9 = c1 by omega, show (9 * c1 + c2) % 9 = c2 by omega] at this
        exact this
      · subst h4
        have := Zw.rep Zw.r3_2_1 (9 * c1 + c2) (by omega)
        simp only [show (9 * c1 + c2) / 9 = c1 by omega, show (9 * c1 + c2) % 9 = c2 by omega] at this
        exact this
      · subst h4
        have := Zw.rep Zw.r3_2_2 (9 * c1 + c2) (by omega)
        simp only [show (9 * c1 + c2) / 9 = c1 by omega, show (9 * c1 + c2) % 9 = c2 by omega] at this
        exact this
      · subst h4
        have := Zw.rep Zw.r3_2_3 (9 * c1 + c2) (by omega)
        simp only [show (9 * c1 + c2) / 9 = c1 by omega, show (9 * c1 + c2) % 9 = c2 by omega] at this
        exact this
      · subst h4
        have := Zw.rep Zw.r3_2_4 (9 * c1 + c2) (by omega)
        simp only [show (9 * c1 + c2) / 9 = c1 by omega, show (9 * c1 + c2) % 9 = c2 by omega] at this
        exact this
      · subst h4
        have := Zw.rep Zw.r3_2_5 (9 * c1 + c2) (by omega)
        simp only [show (9 * c1 + c2) / 9 = c1 by omega, show (9 * c1 + c2) % 9 = c2 by omega] at this
        exact this
      · subst h4
        have := Zw.rep Zw.r3_2_6 (9 * c1 + c2) (by omega)
        simp only [show (9 * c1 + c2) / 9 = c1 by omega, show (9 * c1 + c2) % 9 = c2 by omega] at this
        exact this
      · subst h4
        have := Zw.rep Zw.r3_2_7 (9 * c1 + c2) (by omega)
        simp only [show (9 * c1 + c2) / 9 = c1 by omega, show (9 * c1 + c2) % 9 = c2 by omega] at this
        exact this
      · subst h4
        have := Zw.rep Zw.r3_2_8 (9 * c1 + c2) (by omega)
        simp only [show (9 * c1 + c2) / 9 = c1 by omega, show (9 * c1 + c2) % 9 = c2 by omega] at this
        exact this
theorem Zw.rEfalse {n c0 c1 c2 : Nat} (h : 1 ≤ n ∧ n ≤ 3 ∧ c0 ≤ 8 ∧ c1 ≤ 8 ∧ c2 ≤ 8 ∧ (n < 2 → c1 = 0) ∧ (n < 3 → c2 = 0)) : Zw.LE n false c0 c1 c2 = some Zw.p2 := by
  obtain ⟨h0, h01, h02, h03, h04, h05, h06⟩ := h
  rcases (show n = 1 ∨ n = 2 ∨ n = 3 by omega) with rfl | rfl | rfl
  · obtain rfl := h05 (by omega); obtain rfl := h06 (by omega)
    exact Zw.rep Zw.e1false c0 (by omega)
  · obtain rfl := h06 (by omega)
    have := Zw.rep Zw.e2false (9 * c0 + c1) (by omega)
    simp only [show (9 * c0 + c1) / 9 = c0 by omega, show (9 * c0 + c1) % 9 = c1 by omega] at this
    exact this
  · clear h05 h06
    rcases (show c0 = 0 ∨ c0 = 1 ∨ c0 = 2 ∨ c0 = 3 ∨ c0 = 4 ∨ c0 = 5 ∨ c0 = 6 ∨ c0 = 7 ∨ c0 = 8 by omega) with h4 | h4 | h4 | h4 | h4 | h4 | h4 | h4 | h4
    · subst h4
      have := Zw.rep Zw.e3false_0 (9 * c1 + c2) (by omega)
      simp only [show (9 * c1 + c2) / 9 = c1 by omega, show (9 * c1 + c2) % 9 = c2 by omega] at this
      exact this
    · subst h4
      have := Zw.rep Zw.e3false_1 (9 * c1 + c2) (by omega)
      simp only [show (9 * c1 + c2) / 9 = c1 by omega, show (9 * c1 + c2) % 9 = c2 by omega] at this
      exact this
    · subst h4
      have := Zw.rep Zw.e3false_2 (9 * c1 + c2) (by omega)
      simp only [show (9 * c1 + c2) / 9 = c1 by omega, show (9 * c1 + c2) % 9 = c2 by omega] at this
      exact this
    · subst h4
      have := Zw.rep Zw.e3false_3 (9 * c1 + c2) (by omega)
      simp only [show (9 * c1 + c2) / 9 = c1 by omega, show (9 * c1 + c2) % 9 = c2 by omega] at this
      exact this
    · subst h4
      have := Zw.rep Zw.e3false_4 (9 * c1 + c2) (by omega)
      simp only [show (9 * c1 + c2) / 9 = c1 by omega, show (9 * c1 + c2) % 9 = c2 by omega] at this
      exact this
    · subst h4
      have := Zw.rep Zw.e3false_5 (9 * c1 + c2) (by omega)
      simp only [show (9 * c1 + c2) / 9 = c1 by omega, show (9 * c1 + c2) % 9 = c2 by omega] at this
      exact this
    · subst h4
      have := Zw.rep Zw.e3false_6 (9 * c1 + c2) (by omega)
      simp only [show (9 * c1 + c2) / 9 = c1 by omega, show (9 * c1 + c2) % 9 = c2 by omega] at this
      exact this
    · subst h4
      have := Zw.rep Zw.e3false_7 (9 * c1 + c2) (by omega)
      simp only [show (9 * c1 + c2) / 9 = c1 by omega, show (9 * c1 + c2) % 9 = c2 by omega] at this
      exact this
    · subst h4
      have := Zw.rep Zw.e3false_8 (9 * c1 + c2) (by omega)
      simp only [show (9 * c1 + c2) / 9 = c1 by omega, show (9 * c1 + c2) % 9 = c2 by omega] at this
      exact this
theorem Zw.rEtrue {n c0 c1 c2 : Nat} (h : 1 ≤ n ∧ n ≤ 3 ∧ c0 ≤ 8 ∧ c1 ≤ 8 ∧ c2 ≤ 8 ∧ (n < 2 → c1 = 0) ∧ (n < 3 → c2 = 0)) : Zw.LE n true c0 c1 c2 = some Zw.p2 := by
  obtain ⟨h0, h01, h02, h03, h04, h05, h06⟩ := h
  rcases (show n = 1 ∨ n = 2 ∨ n = 3 by omega) with rfl | rfl | rfl
  · obtain rfl := h05 (by omega); obtain rfl := h06 (by omega)
    exact Zw.rep Zw.e1true c0 (by omega)
  · obtain rfl := h06 (by omega)
    have := Zw.rep Zw.e2true (9 * c0 + c1) (by omega)
    simp only [show (9 * c0 + c1) / 9 = c0 by omega, show (9 * c0 + c1) % 9 = c1 by omega] at this
    exact this
  · clear h05 h06
    rcases (show c0 = 0 ∨ c0 = 1 ∨ c0 = 2 ∨ c0 = 3 ∨ c0 = 4 ∨ c0 = 5 ∨ c0 = 6 ∨ c0 = 7 ∨ c0 = 8 by omega) with h4 | h4 | h4 | h4 | h4 | h4 | h4 | h4 | h4
    · subst h4
      have := Zw.rep Zw.e3true_0 (9 * c1 + c2) (by omega)
      simp only [show (9 * c1 + c2) / 9 = c1 by omega, show (9 * c1 + c2) % 9 = c2 by omega] at this
      exact this
    · subst h4
      have := Zw.rep Zw.e3true_1 (9 * c1 + c2) (by omega)
      simp only [show (9 * c1 + c2) / 9 = c1 by omega, show (9 * c1 + c2) % 9 = c2 by omega] at this
      exact this
    · subst h4
      have := Zw.rep Zw.e3true_2 (9 * c1 + c2) (by omega)
      simp only [show (9 * c1 + c2) / 9 = c1 by omega, show (9 * c1 + c2) % 9 = c2 by omega] at this
      exact this
    · subst h4
      have := Zw.rep Zw.e3true_3 (9 * c1 + c2) (by omega)
      simp only [show (9 * c1 + c2) / 9 = c1 by omega, show (9 * c1 + c2) % 9 = c2 by omega] at this
      exact this
    · subst h4
      have := Zw.rep Zw.e3true_4 (9 * c1 + c2) (by omega)
      simp only [show (9 * c1 + c2) / 9 = c1 by omega, show (9 * c1 + c2) % 9 = c2 by omega] at this
      exact this
    · subst h4
      have := Zw.rep Zw.e3true_5 (9 * c1 + c2) (by omega)
      simp only [show (9 * c1 + c2) / 9 = c1 by omega, show (9 * c1 + c2) % 9 = c2 by omega] at this
      exact this
    · subst h4
      have := Zw.rep Zw.e3true_6 (9 * c1 + c2) (by omega)
      simp only [show (9 * c1 + c2) / 9 = c1 by omega, show (9 * c1 + c2) % 9 = c2 by omega] at this
      exact this
    · subst h4
      have := Zw.rep Zw.e3true_7 (9 * c1 + c2) (by omega)
      simp only [show (9 * c1 + c2) / 9 = c1 by omega, show (9 * c1 + c2) % 9 = c2 by omega] at this
      exact this
    · subst h4
      have := Zw.rep Zw.e3true_8 (9 * c1 + c2) (by omega)
      simp only [show (9 * c1 + c2) / 9 = c1 by omega, show (9 * c1 + c2) % 9 = c2 by omega] at this
      exact this
theorem Zw.rC {n c0 c1 c2 : Nat} (h : 1 ≤ n ∧ n ≤ 3 ∧ c0 ≤ 8 ∧ c1 ≤ 8 ∧ c2 ≤ 8 ∧ (n < 2 → c1 = 0) ∧ (n < 3 → c2 = 0)) : Zw.ck n c0 c1 c2 = true := by
  obtain ⟨h0, h01, h02, h03, h04, h05, h06⟩ := h
  rcases (show n = 1 ∨ n = 2 ∨ n = 3 by omega) with rfl | rfl | rfl
  · obtain rfl := h05 (by omega); obtain rfl := h06 (by omega)
    exact Zw.al_get Zw.c1 c0 (by omega)
  · obtain rfl := h06 (by omega)
    rcases (show c0 = 0 ∨ c0 = 1 ∨ c0 = 2 ∨ c0 = 3 ∨ c0 = 4 ∨ c0 = 5 ∨ c0 = 6 ∨ c0 = 7 ∨ c0 = 8 by omega) with h4 | h4 | h4 | h4 | h4 | h4 | h4 | h4 | h4
    · subst h4
      exact Zw.al_get Zw.c2_0 c1 (by omega)
    · subst h4
      exact Zw.al_get Zw.c2_1 c1 (by omega)
    · subst h4
      exact Zw.al_get Zw.c2_2 c1 (by omega)
    · subst h4
      exact Zw.al_get Zw.c2_3 c1 (by omega)
    · subst h4
      exact Zw.al_get Zw.c2_4 c1 (by omega)
    · subst h4
      exact Zw.al_get Zw.c2_5 c1 (by omega)
    · subst h4
      exact Zw.al_get Zw.c2_6 c1 (by omega)
    · subst h4
      exact Zw.al_get Zw.c2_7 c1 (by omega)
    · subst h4
      exact Zw.al_get Zw.c2_8 c1 (by omega)
  · clear h05 h06
    rcases (show c0 = 0 ∨ c0 = 1 ∨ c0 = 2 ∨ c0 = 3 ∨ c0 = 4 ∨ c0 = 5 ∨ c0 = 6 ∨ c0 = 7 ∨ c0 = 8 by omega) with h4 | h4 | h4 | h4 | h4 | h4 | h4 | h4 | h4
    · subst h4
      rcases (show c1 = 0 ∨ c1 = 1 ∨ c1 = 2 ∨ c1 = 3 ∨ c1 = 4 ∨ c1 = 5 ∨ c1 = 6 ∨ c1 = 7 ∨ c1 = 8 by omega) with h5 | h5 | h5 | h5 | h5 | h5 | h5 | h5 | h5
      · subst h5; exact Zw.al_get Zw.c3_0_0 c2 (by omega)
      · subst h5; exact Zw.al_get Zw.c3_0_1 c2 (by omega)
      · subst h5; exact Zw.al_get Zw.c3_0_2 c2 (by omega)
      · subst h5; exact Zw.al_get Zw.c3_0_3 c2 (by omega)
      · subst h5; exact Zw.al_get Zw.c3_0_4 c2 (by omega)
      · subst h5; exact Zw.al_get Zw.c3_0_5 c2 (by omega)
      · subst h5; exact Zw.al_get Zw.c3_0_6 c2 (by omega)
      · subst h5; exact Zw.al_get Zw.c3_0_7 c2 (by omega)
      · subst h5; exact Zw.al_get Zw.c3_0_8 c2 (by omega)
    · subst h4
      rcases (show c1 = 0 ∨ c1 = 1 ∨ c1 = 2 ∨ c1 = 3 ∨ c1 = 4 ∨ c1 = 5 ∨ c1 = 6 ∨ c1 = 7 ∨ c1 = 8 by omega) with h5 | h5 | h5 | h5 | h5 | h5 | h5 | h5 | h5
      · subst h5; exact Zw.al_get Zw.c3_1_0 c2 (by omega)
      · subst h5; exact Zw.al_get Zw.c3_1_1 c2 (by omega)
      · subst h5; exact Zw.al_get Zw.c3_1_2 c2 (by omega)
      · subst h5; exact Zw.al_get Zw.c3_1_3 c2 (by omega)
      · subst h5; exact Zw.al_get Zw.c3_1_4 c2 (by omega)
      · subst h5; exact Zw.al_get Zw.c3_1_5 c2 (by omega)
      · subst h5; exact Zw.al_get Zw.c3_1_6 c2 (by omega)
      · subst h5; exact Zw.al_get Zw.c3_1_7 c2 (by omega)
      · subst h5; exact Zw.al_get Zw.c3_1_8 c2 (by omega)
    · subst h4
      rcases (show c1 = 0 ∨ c1 = 1 ∨ c1 = 2 ∨ c1 = 3 ∨ c1 = 4 ∨ c1 = 5 ∨ c1 = 6 ∨ c1 = 7 ∨ c1 = 8 by omega) with h5 | h5 | h5 | h5 | h5 | h5 | h5 | h5 | h5
      · subst h5; exact Zw.al_get Zw.c3_2_0 c2 (by omega)
      · subst h5; exact Zw.al_get Zw.c3_2_1 c2 (by omega)
      · subst h5; exact Zw.al_get Zw.c3_2_2 c2 (by omega)
      · subst h5; exact Zw.al_get Zw.c3_2_3 c2 (by omega)
      · subst h5; exact Zw.al_get Zw.c3_2_4 c2 (by omega)
      · subst h5; exact Zw.al_get Zw.c3_2_5 c2 (by omega)
      · subst h5; exact Zw.al_get Zw.c3_2_6 c2 (by omega)
      · subst h5; exact Zw.al_get Zw.c3_2_7 c2 (by omega)
      · subst h5; exact Zw.al_get Zw.c3_2_8 c2 (by omega)
    · subst h4
      rcases (show c1 = 0 ∨ c1 = 1 ∨ c1 = 2 ∨ c1 = 3 ∨ c1 = 4 ∨ c1 = 5 ∨ c1 = 6 ∨ c1 = 7 ∨ c1 = 8 by omega) with h5 | h5 | h5 | h5 | h5 | h5 | h5 | h5 | h5
      · subst h5; exact Zw.al_get Zw.c3_3_0 c2 (by omega)
      · subst h5; exact Zw.al_get Zw.c3_3_1 c2 (by omega)
      · subst h5; exact Zw.al_get Zw.c3_3_2 c2 (by omega)
      · subst h5; exact Zw.al_get Zw.c3_3_3 c2 (by omega)
      · subst h5; exact Zw.al_get Zw.c3_3_4 c2 (by omega)
      · subst h5; exact Zw.al_get Zw.c3_3_5 c2 (by omega)
      · subst h5; exact Zw.al_get Zw.c3_3_6 c2 (by omega)
      · subst h5; exact Zw.al_get Zw.c3_3_7 c2 (by omega)
      · subst h5; exact Zw.al_get Zw.c3_3_8 c2 (by omega)
    · subst h4
      rcases (show c1 = 0 ∨ c1 = 1 ∨ c1 = 2 ∨ c1 = 3 ∨ c1 = 4 ∨ c1 = 5 ∨ c1 = 6 ∨ c1 = 7 ∨ c1 = 8 by omega) with h5 | h5 | h5 | h5 | h5 | h5 | h5 | h5 | h5
      · subst h5; exact Zw.al_get Zw.c3_4_0 c2 (by omega)
      · subst h5; exact Zw.al_get Zw.c3_4_1 c2 (by omega)
      · subst h5; exact Zw.al_get Zw.c3_4_2 c2 (by omega)
      · subst h5; exact Zw.al_get Zw.c3_4_3 c2 (by omega)
      · subst h5; exact Zw.al_get Zw.c3_4_4 c2 (by omega)
      · subst h5; exact Zw.al_get Zw.c3_4_5 c2 (by omega)
      · subst h5; exact Zw.al_get Zw.c3_4_6 c2 (by omega)
      · subst h5; exact Zw.al_get Zw.c3_4_7 c2 (by omega)
      · subst h5; exact Zw.al_get Zw.c3_4_8 c2 (by omega)
    · subst h4
      rcases (show c1 = 0 ∨ c1 = 1 ∨ c1 = 2 ∨ c1 = 3 ∨ c1 = 4 ∨ c1 = 5 ∨ c1 = 6 ∨ c1 = 7 ∨ c1 = 8 by omega) with h5 | h5 | h5 | h5 | h5 | h5 | h5 | h5 | h5
      · subst h5; exact Zw.al_get Zw.c3_5_0 c2 (by omega)
      · subst h5; exact Zw.al_get Zw.c3_5_1 c2 (by omega)
      · subst h5; exact Zw.al_get Zw.c3_5_2 c2 (by omega)
      · subst h5; exact Zw.al_get Zw.c3_5_3 c2 (by omega)
      · subst h5; exact Zw.al_get Zw.c3_5_4 c2 (by omega)
      · subst h5; exact Zw.al_get Zw.c3_5_5 c2 (by omega)
      · subst h5; exact Zw.al_get Zw.c3_5_6 c2 (by omega)
      · subst h5; exact Zw.al_get Zw.c3_5_7 c2 (by omega)
      · subst h5; exact Zw.al_get Zw.c3_5_8 c2 (by omega)
    · subst h4
      rcases (show c1 = 0 ∨ c1 = 1 ∨ c1 = 2 ∨ c1 = 3 ∨ c1 = 4 ∨ c1 = 5 ∨ c1 = 6 ∨ c1 = 7 ∨ c1 = 8 by omega) with h5 | h5 | h5 | h5 | h5 | h5 | h5 | h5 | h5
      · subst h5; exact Zw.al_get Zw.c3_6_0 c2 (by omega)
      · subst h5; exact Zw.al_get Zw.c3_6_1 c2 (by omega)
      · subst h5; exact Zw.al_get Zw.c3_6_2 c2 (by omega)
      · subst h5; exact Zw.al_get Zw.c3_6_3 c2 (by omega)
      · subst h5; exact Zw.al_get Zw.c3_6_4 c2 (by omega)
      · subst h5; exact Zw.al_get Zw.c3_6_5 c2 (by omega)
      · subst h5; exact Zw.al_get Zw.c3_6_6 c2 (by omega)
      · subst h5; exact Zw.al_get Zw.c3_6_7 c2 (by omega)
      · subst h5; exact Zw.al_get Zw.c3_6_8 c2 (by omega)
    · subst h4
      rcases (show c1 = 0 ∨ c1 = 1 ∨ c1 = 2 ∨ c1 = 3 ∨ c1 = 4 ∨ c1 = 5 ∨ c1 = 6 ∨ c1 = 7 ∨ c1 = 8 by omega) with h5 | h5 | h5 | h5 | h5 | h5 | h5 | h5 | h5
      · subst h5; exact Zw.al_get Zw.c3_7_0 c2 (by omega)
      · subst h5; exact Zw.al_get Zw.c3_7_1 c2 (by omega)
      · subst h5; exact Zw.al_get Zw.c3_7_2 c2 (by omega)
      · subst h5; exact Zw.al_get Zw.c3_7_3 c2 (by omega)
      · subst h5; exact Zw.al_get Zw.c3_7_4 c2 (by omega)
      · subst h5; exact Zw.al_get Zw.c3_7_5 c2 (by omega)
      · subst h5; exact Zw.al_get Zw.c3_7_6 c2 (by omega)
      · subst h5; exact Zw.al_get Zw.c3_7_7 c2 (by omega)
      · subst h5; exact Zw.al_get Zw.c3_7_8 c2 (by omega)
    · subst h4
      rcases (show c1 = 0 ∨ c1 = 1 ∨ c1 = 2 ∨ c1 = 3 ∨ c1 = 4 ∨ c1 = 5 ∨ c1 = 6 ∨ c1 = 7 ∨ c1 = 8 by omega) with h5 | h5 | h5 | h5 | h5 | h5 | h5 | h5 | h5
      · subst h5; exact Zw.al_get Zw.c3_8_0 c2 (by omega)
      · subst h5; exact Zw.al_get Zw.c3_8_1 c2 (by omega)
      · subst h5; exact Zw.al_get Zw.c3_8_2 c2 (by omega)
      · subst h5; exact Zw.al_get Zw.c3_8_3 c2 (by omega)
      · subst h5; exact Zw.al_get Zw.c3_8_4 c2 (by omega)
      · subst h5; exact Zw.al_get Zw.c3_8_5 c2 (by omega)
      · subst h5; exact Zw.al_get Zw.c3_8_6 c2 (by omega)
      · subst h5; exact Zw.al_get Zw.c3_8_7 c2 (by omega)
      · subst h5; exact Zw.al_get Zw.c3_8_8 c2 (by omega)

def Zw.iv (l : List Int) : List Value := l.map (Value.int .i64)
theorem Zw.iv_len (l : List Int) : (Zw.iv l).length = l.length := by simp [Zw.iv]
theorem Zw.iv_one : ∀ l : List Int, (Zw.iv l).all (·.oneCell') = true
  | [] => rfl
  | x :: l => by
    show ((Value.int .i64 x).oneCell' && (Zw.iv l).all (·.oneCell')) = true
    rw [Zw.iv_one l]; rfl
theorem Zw.at_ {ng : Nat} {rows : List Pl} {vals : List Value} {v k : Nat} (h : v = 1000 + k) : (nodeMu ng rows vals).at_ v = vals[k]? := by
  subst h
  show atomsOf vals (1000 + k) = _
  unfold atomsOf
  rw [if_pos (by omega)]
  congr 1; omega
theorem Zw.atX {ng : Nat} {rows : List Pl} {vals ex : List Value} {v t : Nat} (h : v = 1000 + vals.length + t) : (nodeMu ng rows (vals ++ ex)).at_ v = ex[t]? := by
  rw [Zw.at_ (k := vals.length + t) (by omega), List.getElem?_append_right (by omega)]
  congr 1; omega
theorem Zw.atC {ng : Nat} {rows : List Pl} {p w ex : List Value} {v i : Nat} (hv : v = 1000 + p.length + i) (hi : i < w.length) : (nodeMu ng rows ((p ++ w) ++ ex)).at_ v = w[i]? := by
  rw [Zw.at_ (k := p.length + i) (by omega), List.getElem?_append_left (by simp only [List.length_append]; omega), List.getElem?_append_right (by omega)]
  congr 1; omega
theorem Zw.ev_app {m : Mu} {vb : List Value} : ∀ {a va b : List Value}, evL m a = some va → evL m b = some vb → evL m (a ++ b) = some (va ++ vb)
  | [], va, b, h1, h2 => by cases h1; exact h2
  | u :: a, va, b, h1, h2 => by
    simp only [evL] at h1
    cases hu : evM m u with
    | none => rw [hu] at h1; cases h1
    | some x =>
      rw [hu] at h1
      cases hr : evL m a with
      | none => rw [hr] at h1; cases h1
      | some r =>
        rw [hr] at h1; cases h1
        show evL m (u :: (a ++ b)) = _
        simp only [evL, hu, Zw.ev_app hr h2]
        rfl
theorem Zw.ev_chR {m : Mu} : ∀ (l : List Value) (s : Nat), (∀ i x, l[i]? = some x → m.at_ (s + i) = some x) → evL m (Zw.chR s l.length) = some l
  | [], s, _ => rfl
  | x :: l, s, h => by
    have h0 := h 0 x rfl
    have ih := Zw.ev_chR l (s + 1) fun i y hy => by have := h (i + 1) y hy; rw [show s + 1 + i = s + (i + 1) by omega]; exact this
    have he : Zw.chR s (x :: l).length = ch s :: Zw.chR (s + 1) l.length := by
      unfold Zw.chR
      simp only [List.length_cons, List.range'_succ, List.map_cons]
    rw [he]
    simp only [evL, evM]
    rw [show m.at_ s = some x from h0, ih]
theorem Zw.hN {m : Mu} {a : Nat} {x : Int} (h : m.at_ a = some (.int .i64 x)) : SymHolds m (.bin .neq) (ch a) (ch a) (.bool false) := hold_bool (.atom _ _ h) (.atom _ _ h) (op_neq_f rfl)
theorem Zw.holdF {m : Mu} : ∀ (s a : Nat), (∀ i, i < s → ∃ x, m.at_ (a + i) = some (.int .i64 x)) → AllHold m ((List.range' a s).map Zw.eN)
  | 0, _, _ => trivial
  | s + 1, a, h => by
    obtain ⟨x, hx⟩ := h 0 (by omega)
    rw [List.range'_succ, List.map_cons]
    exact ⟨Zw.hN hx, Zw.holdF s (a + 1) fun i hi => by have := h (i + 1) (by omega); rw [show a + 1 + i = a + (i + 1) by omega]; exact this⟩

theorem Zw.mid {a b ws : List Int} {q : Nat} {x : Int} (h : ws = a ++ b) (hq : q = a.length) : ws.take q ++ ([x] ++ ws.drop q) = a ++ ([x] ++ b) := by
  subst h; subst hq; simp
theorem Zw.nB {W : World} {n c0 c1 c2 : Nat} (h : 1 ≤ n ∧ n ≤ 3 ∧ c0 ≤ 8 ∧ c1 ≤ 8 ∧ c2 ≤ 8 ∧ (n < 2 → c1 = 0) ∧ (n < 3 → c2 = 0)) {ws : List Int} (hw : ws.length = c0 + c1 + c2) : NdGood Tryz.prog Tryz.f4 8 Tryz.H0 W Zw.p2 (Zw.dB n c0 c1 c2) (Zw.iv ws) := by
  have hc := Zw.ck_get (Zw.rC h)
  refine Zw.fx (Zw.tF (c0 + c1 + c2)) [] [] (fun sy => Zw.k2 Tryz.m4 sy) (Zw.holdF _ _ fun i hi => ?_) hc.2.2.1 (by rw [Zw.iv_len, hw]) (by simp only [List.all_append, Zw.iv_one]; rfl) rowsHold_nil hc.2.2.2
  refine ⟨ws[i]'(by omega), ?_⟩
  rw [Zw.at_ (k := i) rfl, List.getElem?_append_left (by rw [Zw.iv_len]; omega)]
  simp [Zw.iv, show i < ws.length by omega]

theorem Zw.nE {W : World} {n0 : Int} {a1 : Option Addr} {m1 c1' : Nat} {f1q0 : Nat → Int} (r0 : R64 n0) (h1 : SlcOk W a1 m1 c1' 1 (fun i => [.int .i64 (f1q0 i)])) (b1 : (m1 : Int) < 9223372036854775808) (r1q0 : ∀ i, R64 (f1q0 i)) {n c0 c1 c2 : Nat} (h : 1 ≤ n ∧ n ≤ 3 ∧ c0 ≤ 8 ∧ c1 ≤ 8 ∧ c2 ≤ 8 ∧ (n < 2 → c1 = 0) ∧ (n < 3 → c2 = 0)) {ws : List Int} (hw : ws.length = c0 + c1 + c2) {i : Nat} (q : Bool) (hq : (q = false ∧ (m1 : Int) ≤ (i : Int)) ∨ (q = true ∧ (i : Int) < (m1 : Int) ∧ 20 ≤ i)) :
    NdGood Tryz.prog Tryz.f4 8 Tryz.H0 W Zw.p0 (Zw.dA n c0 c1 c2) ([.slice a1 m1 c1', .int .i64 (i : Int)] ++ Zw.iv ws) := by
  have hc := Zw.ck_get (Zw.rC h)
  have hl := Zw.iv_len ws
  have hlen : 2 + (c0 + c1 + c2) = ([Value.slice a1 m1 c1', .int .i64 (i : Int)] ++ Zw.iv ws).length := by simp only [List.length_append, List.length_cons, List.length_nil]; omega
  generalize hm : nodeMu 8 [] (([Value.slice a1 m1 c1', .int .i64 (i : Int)] ++ Zw.iv ws) ++ [.int .i64 (m1 : Int)]) = m
  have y0 : m.at_ 1000 = some (.slice a1 m1 c1') := by rw [← hm]; rfl
  have y1 : m.at_ 1001 = some (.int .i64 (i : Int)) := by rw [← hm]; rfl
  have x0 : m.at_ (1002 + (c0 + c1 + c2)) = some (.int .i64 (m1 : Int)) := by rw [← hm, Zw.atX (t := 0) (by rw [← hlen]; omega)]; rfl
  have hold : AllHold m (Zw.tE (1002 + (c0 + c1 + c2)) q) := by
    rcases hq with ⟨rfl, h2⟩ | ⟨rfl, h2, h3⟩
    · exact ⟨hold_len (.atom _ _ y0) (.atom _ _ x0), hold_bool (.atom _ _ y1) (.atom _ _ x0) (op_lss_f h2), trivial⟩
    · exact ⟨hold_len (.atom _ _ y0) (.atom _ _ x0), hold_bool (.atom _ _ y1) (.atom _ _ x0) (op_lss_t h2), hold_bool (.atom _ _ y1) (.int _ _) (op_lss_f (by omega)), trivial⟩
  rw [← hm] at hold
  have hr : Zw.LE n q c0 c1 c2 = some Zw.p2 := by
    cases q
    · exact Zw.rEfalse h
    · exact Zw.rEtrue h
  refine Zw.nx (Zw.tE (1002 + (c0 + c1 + c2)) q) [.int .i64 (m1 : Int)] [] (fun sy => Zw.k0 Tryz.m4 sy) hold hc.2.1 rowsHold_nil hr (Zw.nB h (ws := ws) hw) hlen ?_ ?_ (Zw.iv_one ws)
  · simp only [List.all_append, Zw.iv_one]; rfl
  · rw [hm]
    have := Zw.ev_chR (m := m) (Zw.iv ws) 1002 fun j x hx => by
      have hj : j < (Zw.iv ws).length := (List.getElem?_eq_some_iff.1 hx).1
      rw [← hm, Zw.atC (i := j) (by simp only [List.length_cons, List.length_nil] <;> omega) hj]; exact hx
    rw [hl, hw] at this
    exact this

theorem Zw.nA {W : World} {n0 : Int} {a1 : Option Addr} {m1 c1' : Nat} {f1q0 : Nat → Int} (r0 : R64 n0) (h1 : SlcOk W a1 m1 c1' 1 (fun i => [.int .i64 (f1q0 i)])) (b1 : (m1 : Int) < 9223372036854775808) (r1q0 : ∀ i, R64 (f1q0 i)) {n : Nat} (hn : 1 ≤ n ∧ n ≤ 3) : ∀ (k i : Nat), i ≤ 20 → 20 - i < k → ∀ (w0 w1 w2 : List Int), w0.length ≤ 8 → w1.length ≤ 8 → w2.length ≤ 8 → (n < 2 → w1.length = 0) → (n < 3 → w2.length = 0) →
    NdGood Tryz.prog Tryz.f4 8 Tryz.H0 W Zw.p0 (Zw.dA n w0.length w1.length w2.length) ([.slice a1 m1 c1', .int .i64 (i : Int)] ++ Zw.iv (w0 ++ (w1 ++ w2)))
  | 0, _, _, h => absurd h (Nat.not_lt_zero _)
  | k + 1, i, hi, hk => by
    intro w0 w1 w2 l0 l1 l2 e1 e2
    have hh : 1 ≤ n ∧ n ≤ 3 ∧ w0.length ≤ 8 ∧ w1.length ≤ 8 ∧ w2.length ≤ 8 ∧ (n < 2 → w1.length = 0) ∧ (n < 3 → w2.length = 0) := ⟨hn.1, hn.2, l0, l1, l2, e1, e2⟩
    have hw : (w0 ++ (w1 ++ w2)).length = w0.length + w1.length + w2.length := by simp only [List.length_append]; omega
    by_cases q1 : (i : Int) < (m1 : Int)
    case neg => exact Zw.nE r0 h1 b1 r1q0 hh hw false (.inl ⟨rfl, Int.not_lt.1 q1⟩)
    case pos =>
    rcases Nat.lt_or_ge i 20 with h20 | h20
    case inr => exact Zw.nE r0 h1 b1 r1q0 hh hw true (.inr ⟨rfl, q1, h20⟩)
    case inl =>
    have hc := Zw.ck_get (Zw.rC hh)
    generalize hws : w0 ++ (w1 ++ w2) = ws at hw
    generalize hs : w0.length + w1.length + w2.length = s at hw
    have hl := Zw.iv_len ws
    have hlen : 2 + s = ([Value.slice a1 m1 c1', .int .i64 (i : Int)] ++ Zw.iv ws).length := by simp only [List.length_append, List.length_cons, List.length_nil]; omega
    have lt : i < m1 := by omega
    obtain ⟨p, v⟩ := h1.elem lt
    have w := r1q0 i
    have ⟨wl, wh⟩ := w
    obtain ⟨d, e, g, o⟩ := ex_add (i : Int) (1 : Int)
    obtain rfl : d = ((i + 1 : Nat) : Int) := by omega
    obtain ⟨t1, ⟨y1, f1, z1, u1, v1⟩, g1, o1⟩ := ex_rem (f1q0 i) (n : Int) (by omega) (by omega)
    obtain ⟨t2, f2, g2, o2⟩ := ex_add t1 (n : Int)
    obtain ⟨t3, ⟨y3, f3, z3, u3, v3⟩, g3, o3⟩ := ex_rem t2 (n : Int) (by omega) (by omega)
    have k2 : t2 = t1 + n := by omega
    have k0 : 0 ≤ t2 := by omega
    have k3 : 0 ≤ t3 := by rw [f3 k0]; exact Int.emod_nonneg _ (by omega)
    obtain ⟨K, rfl⟩ : ∃ K : Nat, t3 = (K : Int) := ⟨t3.toNat, by omega⟩
    have hK : K < n := by omega
    generalize hm : nodeMu 8 [p] (([Value.slice a1 m1 c1', .int .i64 (i : Int)] ++ Zw.iv ws) ++ [.int .i64 (f1q0 i), .int .i64 (m1 : Int), .int .i64 t1, .int .i64 t2, .int .i64 ((i + 1 : Nat) : Int)]) = m
    have a0 : m.at_ 1000 = some (.slice a1 m1 c1') := by rw [← hm]; rfl
    have a1' : m.at_ 1001 = some (.int .i64 (i : Int)) := by rw [← hm]; rfl
    have x0 : m.at_ (1002 + s) = some (.int .i64 (f1q0 i)) := by rw [← hm, Zw.atX (t := 0) (by rw [← hlen]; omega)]; rfl
    have x1 : m.at_ (1002 + s + 1) = some (.int .i64 (m1 : Int)) := by rw [← hm, Zw.atX (t := 1) (by rw [← hlen]; omega)]; rfl
    have x2 : m.at_ (1002 + s + 2) = some (.int .i64 t1) := by rw [← hm, Zw.atX (t := 2) (by rw [← hlen]; omega)]; rfl
    have x3 : m.at_ (1002 + s + 3) = some (.int .i64 t2) := by rw [← hm, Zw.atX (t := 3) (by rw [← hlen]; omega)]; rfl
    have x4 : m.at_ (1002 + s + 4) = some (.int .i64 ((i + 1 : Nat) : Int)) := by rw [← hm, Zw.atX (t := 4) (by rw [← hlen]; omega)]; rfl
    have hp : m.pl 8 = some p := by rw [← hm]; rfl
    have cell : ∀ j x, (Zw.iv ws)[j]? = some x → m.at_ (1002 + j) = some x := fun j x hx => by
      have hj : j < (Zw.iv ws).length := (List.getElem?_eq_some_iff.1 hx).1
      rw [← hm, Zw.atC (i := j) (by simp only [List.length_cons, List.length_nil] <;> omega) hj]; exact hx
    have hold : AllHold m (Zw.tP n K (1002 + s)) :=
      ⟨hold_len (.atom _ _ a0) (.atom _ _ x1), hold_bool (.atom _ _ a1') (.atom _ _ x1) (op_lss_t q1), hold_bool (.atom _ _ a1') (.int _ _) (op_lss_t (by omega)), hold_idx v lt (.atom _ _ a0) (.atom _ _ a1') rfl hp,
        hold_op (.atom _ _ x0) (.int _ _) (o1 .i64) (.atom _ _ x2), hold_op (.atom _ _ x2) (.int _ _) o2 (.atom _ _ x3), hold_op (.atom _ _ x3) (.int _ _) (o3 .i64) (.int _ _), hold_op (.atom _ _ a1') (.int _ _) o (.atom _ _ x4), trivial⟩
    have hrow : RowsHold W m [p] [[ch (1002 + s)]] := rowsHold_cons (Elem.row v (VL.cons (.atom _ _ x0) VL.nil)) rowsHold_nil
    have hone : (([Value.slice a1 m1 c1', .int .i64 (i : Int)] ++ Zw.iv ws) ++ [Value.int .i64 (f1q0 i), Value.int .i64 (m1 : Int), Value.int .i64 t1, Value.int .i64 t2, Value.int .i64 ((i + 1 : Nat) : Int)]).all (·.oneCell') = true := by
      simp only [List.all_append, Zw.iv_one]; rfl
    have hr := Zw.rP hh hK
    have two : evL m [ch 1000, ch (1002 + s + 4)] = some [.slice a1 m1 c1', .int .i64 ((i + 1 : Nat) : Int)] := by simp only [evL, evM, a0, x4]
    have hid : (Zw.dA n w0.length w1.length w2.length).sub 8 [[ch (1002 + s)]] (idl 8 (Zw.dA n w0.length w1.length w2.length).objs) (idA (2 + s)) ((Zw.dA n w0.length w1.length w2.length).st 8 []) = true := by
      have := hc.1
      unfold Zw.hR at this
      rw [hs] at this
      exact this
    unfold Zw.LP at hr
    rw [hs] at hr
    have next := Zw.nA r0 h1 b1 r1q0 (c1' := c1') hn k (i + 1) h20 (by omega)
    rw [← hm] at hold hrow
    -- nothing is put
    by_cases full : Zw.cK K w0.length w1.length w2.length = 8
    · rw [full] at hr
      refine Zw.nx (Zw.tP n K (1002 + s)) _ [p] (fun sy => Zw.k0 Tryz.m4 sy) hold hid hrow hr (hws ▸ next w0 w1 w2 l0 l1 l2 e1 e2) hlen hone ?_ (by simp only [List.all_append, Zw.iv_one]; rfl)
      rw [hm]
      refine Zw.ev_app two ?_
      have := Zw.ev_chR (m := m) (Zw.iv ws) 1002 cell
      rw [hl, hw] at this
      exact this
    have hf : Nat.beq (Zw.cK K w0.length w1.length w2.length) 8 = false := by
      cases hb : Nat.beq (Zw.cK K w0.length w1.length w2.length) 8 with
      | false => rfl
      | true => exact absurd (Nat.eq_of_beq_eq_true hb) full
    rw [hf] at hr
    -- one more, in its place
    have put : ∀ q, q ≤ s → evL m ([ch 1000, ch (1002 + s + 4)] ++ (Zw.chR 1002 q ++ ([ch 1001] ++ Zw.chR (1002 + q) (s - q)))) = some ([.slice a1 m1 c1', .int .i64 ((i + 1 : Nat) : Int)] ++ Zw.iv (ws.take q ++ ([(i : Int)] ++ ws.drop q))) := fun q hq => by
      have he : Zw.iv (ws.take q ++ ([(i : Int)] ++ ws.drop q)) = Zw.iv (ws.take q) ++ ([.int .i64 (i : Int)] ++ Zw.iv (ws.drop q)) := by simp [Zw.iv]
      rw [he]
      refine Zw.ev_app two (Zw.ev_app ?_ (Zw.ev_app (va := [.int .i64 (i : Int)]) (by simp only [evL, evM, a1']) ?_))
      · have := Zw.ev_chR (m := m) (Zw.iv (ws.take q)) 1002 fun j x hx => cell j x (by
          simp only [Zw.iv, List.getElem?_map, List.getElem?_take] at hx ⊢
          split at hx
          · exact hx
          · cases hx)
        rw [Zw.iv_len, List.length_take, show min q ws.length = q by omega] at this
        exact this
      · have := Zw.ev_chR (m := m) (Zw.iv (ws.drop q)) (1002 + q) fun j x hx => by
          have := cell (q + j) x (by simpa [Zw.iv, List.getElem?_drop] using hx)
          rw [show 1002 + q + j = 1002 + (q + j) by omega]; exact this
        rw [Zw.iv_len, List.length_drop, hw] at this
        exact this
    have fin : ∀ (d' : Nd) (ws' : List Int) (rl : List (Nat × Nat)) (q : Nat), q ≤ s → ws.take q ++ ([(i : Int)] ++ ws.drop q) = ws' → leafNext (fK (Tryz.Es Tryz.m4 (syOf (Zw.tP n K (1002 + s)))) 100000 100000 Zw.p0 ((Zw.dA n w0.length w1.length w2.length).st 8 [[ch (1002 + s)]]) 1) 8 d' rl ([ch 1000, ch (1002 + s + 4)] ++ (Zw.chR 1002 q ++ ([ch 1001] ++ Zw.chR (1002 + q) (s - q)))) = some Zw.p0 →
        NdGood Tryz.prog Tryz.f4 8 Tryz.H0 W Zw.p0 d' ([.slice a1 m1 c1', .int .i64 ((i + 1 : Nat) : Int)] ++ Zw.iv ws') → NdGood Tryz.prog Tryz.f4 8 Tryz.H0 W Zw.p0 (Zw.dA n w0.length w1.length w2.length) ([.slice a1 m1 c1', .int .i64 (i : Int)] ++ Zw.iv ws) := fun d' ws' rl q hq he hr' hn' => by
      subst he
      refine Zw.nx (Zw.tP n K (1002 + s)) _ [p] (fun sy => Zw.k0 Tryz.m4 sy) hold hid hrow hr' hn' hlen hone (by rw [hm]; exact put q hq) (by simp only [List.all_append, Zw.iv_one]; rfl)
    rcases (show K = 0 ∨ K = 1 ∨ K = 2 by omega) with rfl | rfl | rfl
    · have hx := next (w0 ++ [(i : Int)]) w1 w2 (by simp only [List.length_append, List.length_cons, List.length_nil]; simp only [Zw.cK] at full; omega) l1 l2 e1 e2
      simp only [List.length_append, List.length_cons, List.length_nil] at hx
      exact fin _ _ _ w0.length (by omega) (by rw [← hws]; simp) hr hx
    · have hx := next w0 (w1 ++ [(i : Int)]) w2 l0 (by simp only [List.length_append, List.length_cons, List.length_nil]; simp only [Zw.cK] at full; omega) l2 (fun h => by omega) e2
      simp only [List.length_append, List.length_cons, List.length_nil] at hx
      exact fin _ _ _ (w0.length + w1.length) (by omega) ((Zw.mid (a := w0 ++ w1) (b := w2) (by rw [← hws]; simp) (by simp)).trans (by simp)) hr hx
    · have hx := next w0 w1 (w2 ++ [(i : Int)]) l0 l1 (by simp only [List.length_append, List.length_cons, List.length_nil]; simp only [Zw.cK] at full; omega) e1 (fun h => by omega)
      simp only [List.length_append, List.length_cons, List.length_nil] at hx
      exact fin _ _ _ (w0.length + w1.length + w2.length) (by omega) ((Zw.mid (a := w0 ++ (w1 ++ w2)) (b := []) (by rw [← hws]; simp) (by simp only [List.length_append]; omega)).trans (by simp)) hr hx

theorem Zw.n0 {W : World} {n0 : Int} {a1 : Option Addr} {m1 c1' : Nat} {f1q0 : Nat → Int} (r0 : R64 n0) (h1 : SlcOk W a1 m1 c1' 1 (fun i => [.int .i64 (f1q0 i)])) (b1 : (m1 : Int) < 9223372036854775808) (r1q0 : ∀ i, R64 (f1q0 i)) : NdGood Tryz.prog Tryz.f4 8 Tryz.H0 W Zw.pS Zw.d0 [(.int .i64 n0), (.slice a1 m1 c1')] := by
  have ⟨rl0, rh0⟩ := r0
  obtain ⟨t1, ⟨y1, f1, z1, u1, v1⟩, g1, o1⟩ := ex_rem n0 (3 : Int) (by omega) (by omega)
  obtain ⟨t2, f2, g2, o2⟩ := ex_add t1 (3 : Int)
  obtain ⟨t3, ⟨y3, f3, z3, u3, v3⟩, g3, o3⟩ := ex_rem t2 (3 : Int) (by omega) (by omega)
  have go : ∀ n : Nat, 1 ≤ n ∧ n ≤ 3 → t3 = ((n - 1 : Nat) : Int) → Zw.LS n = some Zw.p0 → NdGood Tryz.prog Tryz.f4 8 Tryz.H0 W Zw.pS Zw.d0 [(.int .i64 n0), (.slice a1 m1 c1')] := fun n hn ht hr => by
    have hold : AllHold (nodeMu 8 [] ([Value.int .i64 n0, .slice a1 m1 c1'] ++ [.int .i64 t1, .int .i64 t2])) (Zw.tS (n - 1)) :=
      ⟨hold_op (.atom _ _ rfl) (.int _ _) (o1 .i64) (.atom _ _ rfl), hold_op (.atom _ _ rfl) (.int _ _) o2 (.atom _ _ rfl), hold_op (.atom _ _ rfl) (.int _ _) (by have := o3 .i64; rw [ht] at this; exact this) (.int _ _), trivial⟩
    exact Zw.nx (Zw.tS (n - 1)) [.int .i64 t1, .int .i64 t2] [] (fun sy => Zw.kS Tryz.m4 sy) hold Zw.iS rowsHold_nil hr (Zw.nA r0 h1 b1 r1q0 (c1' := c1') hn 21 0 (by omega) (by omega) [] [] [] (by simp) (by simp) (by simp) (fun _ => rfl) (fun _ => rfl)) rfl rfl rfl rfl
  rcases (show t3 = 0 ∨ t3 = 1 ∨ t3 = 2 by omega) with h | h | h
  · exact go 1 (by omega) (by rw [h]; rfl) Zw.rS1
  · exact go 2 (by omega) (by rw [h]; rfl) Zw.rS2
  · exact go 3 (by omega) (by rw [h]; rfl) Zw.rS3
end Go.Proofs
