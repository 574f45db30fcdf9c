/- The law: dictionaries of any fields and values; hence from its start, for every input. No conditions. -/
import Derived.Test.YtcappdnmmmhgkaaGreatDoorVSeatTableDictR1
import Derived.Test.YtcappdnmmmhgkaaGreatDoorVSeatTableDictR2
import Derived.Test.YtcappdnmmmhgkaaGreatDoorVSeatTableDictR3
set_option linter.all false
namespace Go.Proofs
open Go Go.Vsx Go.RowKit
set_option maxRecDepth 1000000
set_option maxHeartbeats 4000000
set_option linter.unusedVariables false
theorem Zw.nx {W : World} {pt pt' : Pt} {d d' : Nd} {vals : List Value} {roc : List (List Value)} {j hk : Nat} {rl : List (Nat × Nat)} {A : List Value} {vals' : List Value} (t : List SE) (ex : List Value) (rows : List Pl)
    (hok : ∀ sy, okPt (Tryz.Es Tryz.m4 sy) 8 pt = true) (hold : AllHold (nodeMu 8 rows (vals ++ ex)) t)
    (hid : d.sub 8 roc (idl 8 d.objs) (idA hk) (d.st 8 []) = true) (hrow : RowsHold W (nodeMu 8 rows (vals ++ ex)) rows roc)
    (hrun : leafNext (fK (Tryz.Es Tryz.m4 (syOf t)) 100000 100000 pt (d.st 8 roc) j) 8 d' rl A = some pt')
    (h : NdGood Tryz.prog Tryz.f3 8 Tryz.H0 W pt' d' vals') (hlen : hk = vals.length) (hone : (vals ++ ex).all (·.oneCell') = true) (hA : evL (nodeMu 8 rows (vals ++ ex)) A = some vals') (hone' : vals'.all (·.oneCell') = true) : NdGood Tryz.prog Tryz.f3 8 Tryz.H0 W pt d vals :=
  NdGood.next (E := Tryz.Es Tryz.m4 (syOf t)) (extras := ex) (rows := rows) (vals' := vals') (by omega) (Tryz.right Tryz.m4 (syOf t) _ W Tryz.mOk4 (symOk_of rfl hold)) (hok _) hid hlen hone hrow hrun hA hone' h
theorem Zw.fx {W : World} {pt : Pt} {d : Nd} {vals : List Value} {roc : List (List Value)} {j hk : Nat} (t : List SE) (ex : List Value) (rows : List Pl)
    (hok : ∀ sy, okPt (Tryz.Es Tryz.m4 sy) 8 pt = true) (hold : AllHold (nodeMu 8 rows (vals ++ ex)) t)
    (hid : d.sub 8 roc (idl 8 d.objs) (idA hk) (d.st 8 []) = true) (hlen : hk = vals.length) (hone : (vals ++ ex).all (·.oneCell') = true) (hrow : RowsHold W (nodeMu 8 rows (vals ++ ex)) rows roc)
    (hrun : leafFin (Tryz.Es Tryz.m4 (syOf t)) Tryz.f3 (fK (Tryz.Es Tryz.m4 (syOf t)) 100000 100000 pt (d.st 8 roc) j) = true) : NdGood Tryz.prog Tryz.f3 8 Tryz.H0 W pt d vals :=
  NdGood.fin (E := Tryz.Es Tryz.m4 (syOf t)) (extras := ex) (rows := rows) (by omega) (Tryz.right Tryz.m4 (syOf t) _ W Tryz.mOk4 (symOk_of rfl hold)) (hok _) hid hlen hone hrow hrun
def Zw.ok (k c : Nat) : Prop := (k = 0 ∧ c ≤ 1) ∨ (1 ≤ k ∧ k ≤ c ∧ c ≤ 8)
theorem Zw.qC {k c : Nat} (h : Zw.ok k c) (x : Nat) (hx : x < 6) : Zw.cf k c x = true := by
  rcases h with ⟨h1, h2⟩ | ⟨h1, h2, h3⟩
  · subst h1
    rcases (show c = 0 ∨ c = 1 by omega) with rfl | rfl
    · exact Zw.rep Zw.cf0_0 x hx
    · exact Zw.rep Zw.cf0_1 x hx
  · rcases (show k = 1 ∨ k = 2 ∨ k = 3 ∨ k = 4 ∨ k = 5 ∨ k = 6 ∨ k = 7 ∨ k = 8 by omega) with rfl | rfl | rfl | rfl | rfl | rfl | rfl | rfl
    · rcases (show c = 1 ∨ c = 2 ∨ c = 3 ∨ c = 4 ∨ c = 5 ∨ c = 6 ∨ c = 7 ∨ c = 8 by omega) with rfl | rfl | rfl | rfl | rfl | rfl | rfl | rfl
      · exact Zw.rep Zw.cf1_1 x hx
      · exact Zw.rep Zw.cf1_2 x hx
      · exact Zw.rep Zw.cf1_3 x hx
      · exact Zw.rep Zw.cf1_4 x hx
      · exact Zw.rep Zw.cf1_5 x hx
      · exact Zw.rep Zw.cf1_6 x hx
      · exact Zw.rep Zw.cf1_7 x hx
      · exact Zw.rep Zw.cf1_8 x hx
    · rcases (show c = 2 ∨ c = 3 ∨ c = 4 ∨ c = 5 ∨ c = 6 ∨ c = 7 ∨ c = 8 by omega) with rfl | rfl | rfl | rfl | rfl | rfl | rfl
      · exact Zw.rep Zw.cf2_2 x hx
      · exact Zw.rep Zw.cf2_3 x hx
      · exact Zw.rep Zw.cf2_4 x hx
      · exact Zw.rep Zw.cf2_5 x hx
      · exact Zw.rep Zw.cf2_6 x hx
      · exact Zw.rep Zw.cf2_7 x hx
      · exact Zw.rep Zw.cf2_8 x hx
    · rcases (show c = 3 ∨ c = 4 ∨ c = 5 ∨ c = 6 ∨ c = 7 ∨ c = 8 by omega) with rfl | rfl | rfl | rfl | rfl | rfl
      · exact Zw.rep Zw.cf3_3 x hx
      · exact Zw.rep Zw.cf3_4 x hx
      · exact Zw.rep Zw.cf3_5 x hx
      · exact Zw.rep Zw.cf3_6 x hx
      · exact Zw.rep Zw.cf3_7 x hx
      · exact Zw.rep Zw.cf3_8 x hx
    · rcases (show c = 4 ∨ c = 5 ∨ c = 6 ∨ c = 7 ∨ c = 8 by omega) with rfl | rfl | rfl | rfl | rfl
      · exact Zw.rep Zw.cf4_4 x hx
      · exact Zw.rep Zw.cf4_5 x hx
      · exact Zw.rep Zw.cf4_6 x hx
      · exact Zw.rep Zw.cf4_7 x hx
      · exact Zw.rep Zw.cf4_8 x hx
    · rcases (show c = 5 ∨ c = 6 ∨ c = 7 ∨ c = 8 by omega) with rfl | rfl | rfl | rfl
      · exact Zw.rep Zw.cf5_5 x hx
      · exact Zw.rep Zw.cf5_6 x hx
      · exact Zw.rep Zw.cf5_7 x hx
      · exact Zw.rep Zw.cf5_8 x hx
    · rcases (show c = 6 ∨ c = 7 ∨ c = 8 by omega) with rfl | rfl | rfl
      · exact Zw.rep Zw.cf6_6 x hx
      · exact Zw.rep Zw.cf6_7 x hx
      · exact Zw.rep Zw.cf6_8 x hx
    · rcases (show c = 7 ∨ c = 8 by omega) with rfl | rfl
      · exact Zw.rep Zw.cf7_7 x hx
      · exact Zw.rep Zw.cf7_8 x hx
    · obtain rfl : c = 8 := by omega
      exact Zw.rep Zw.cf8_8 x hx
theorem Zw.qPP {k c : Nat} (h : Zw.ok k c) (x : Nat) (hx : x < k) : Zw.LPP k c x = some Zw.p0 := by
  rcases h with ⟨h1, h2⟩ | ⟨h1, h2, h3⟩
  · subst h1
    exact absurd hx (Nat.not_lt_zero _)
  · rcases (show k = 1 ∨ k = 2 ∨ k = 3 ∨ k = 4 ∨ k = 5 ∨ k = 6 ∨ k = 7 ∨ k = 8 by omega) with rfl | rfl | rfl | rfl | rfl | rfl | rfl | rfl
    · rcases (show c = 1 ∨ c = 2 ∨ c = 3 ∨ c = 4 ∨ c = 5 ∨ c = 6 ∨ c = 7 ∨ c = 8 by omega) with rfl | rfl | rfl | rfl | rfl | rfl | rfl | rfl
      · exact Zw.rep Zw.rLPP1_1 x hx
      · exact Zw.rep Zw.rLPP1_2 x hx
      · exact Zw.rep Zw.rLPP1_3 x hx
      · exact Zw.rep Zw.rLPP1_4 x hx
      · exact Zw.rep Zw.rLPP1_5 x hx
      · exact Zw.rep Zw.rLPP1_6 x hx
      · exact Zw.rep Zw.rLPP1_7 x hx
      · exact Zw.rep Zw.rLPP1_8 x hx
    · rcases (show c = 2 ∨ c = 3 ∨ c = 4 ∨ c = 5 ∨ c = 6 ∨ c = 7 ∨ c = 8 by omega) with rfl | rfl | rfl | rfl | rfl | rfl | rfl
      · exact Zw.rep Zw.rLPP2_2 x hx
      · exact Zw.rep Zw.rLPP2_3 x hx
      · exact Zw.rep Zw.rLPP2_4 x hx
      · exact Zw.rep Zw.rLPP2_5 x hx
      · exact Zw.rep Zw.rLPP2_6 x hx
      · exact Zw.rep Zw.rLPP2_7 x hx
      · exact Zw.rep Zw.rLPP2_8 x hx
    · rcases (show c = 3 ∨ c = 4 ∨ c = 5 ∨ c = 6 ∨ c = 7 ∨ c = 8 by omega) with rfl | rfl | rfl | rfl | rfl | rfl
      · exact Zw.rep Zw.rLPP3_3 x hx
      · exact Zw.rep Zw.rLPP3_4 x hx
      · exact Zw.rep Zw.rLPP3_5 x hx
      · exact Zw.rep Zw.rLPP3_6 x hx
      · exact Zw.rep Zw.rLPP3_7 x hx
      · exact Zw.rep Zw.rLPP3_8 x hx
    · rcases (show c = 4 ∨ c = 5 ∨ c = 6 ∨ c = 7 ∨ c = 8 by omega) with rfl | rfl | rfl | rfl | rfl
      · exact Zw.rep Zw.rLPP4_4 x hx
      · exact Zw.rep Zw.rLPP4_5 x hx
      · exact Zw.rep Zw.rLPP4_6 x hx
      · exact Zw.rep Zw.rLPP4_7 x hx
      · exact Zw.rep Zw.rLPP4_8 x hx
    · rcases (show c = 5 ∨ c = 6 ∨ c = 7 ∨ c = 8 by omega) with rfl | rfl | rfl | rfl
      · exact Zw.rep Zw.rLPP5_5 x hx
      · exact Zw.rep Zw.rLPP5_6 x hx
      · exact Zw.rep Zw.rLPP5_7 x hx
      · exact Zw.rep Zw.rLPP5_8 x hx
    · rcases (show c = 6 ∨ c = 7 ∨ c = 8 by omega) with rfl | rfl | rfl
      · exact Zw.rep Zw.rLPP6_6 x hx
      · exact Zw.rep Zw.rLPP6_7 x hx
      · exact Zw.rep Zw.rLPP6_8 x hx
    · rcases (show c = 7 ∨ c = 8 by omega) with rfl | rfl
      · exact Zw.rep Zw.rLPP7_7 x hx
      · exact Zw.rep Zw.rLPP7_8 x hx
    · obtain rfl : c = 8 := by omega
      exact Zw.rep Zw.rLPP8_8 x hx
theorem Zw.qCP {k c : Nat} (h : Zw.ok k c) (x : Nat) (hx : x < k) : Zw.LCP k c x = some Zw.p0 := by
  rcases h with ⟨h1, h2⟩ | ⟨h1, h2, h3⟩
  · subst h1
    exact absurd hx (Nat.not_lt_zero _)
  · rcases (show k = 1 ∨ k = 2 ∨ k = 3 ∨ k = 4 ∨ k = 5 ∨ k = 6 ∨ k = 7 ∨ k = 8 by omega) with rfl | rfl | rfl | rfl | rfl | rfl | rfl | rfl
    · rcases (show c = 1 ∨ c = 2 ∨ c = 3 ∨ c = 4 ∨ c = 5 ∨ c = 6 ∨ c = 7 ∨ c = 8 by omega) with rfl | rfl | rfl | rfl | rfl | rfl | rfl | rfl
      · exact Zw.rep Zw.rLCP1_1 x hx
      · exact Zw.rep Zw.rLCP1_2 x hx
      · exact Zw.rep Zw.rLCP1_3 x hx
      · exact Zw.rep Zw.rLCP1_4 x hx
      · exact Zw.rep Zw.rLCP1_5 x hx
      · exact Zw.rep Zw.rLCP1_6 x hx
      · exact Zw.rep Zw.rLCP1_7 x hx
      · exact Zw.rep Zw.rLCP1_8 x hx
    · rcases (show c = 2 ∨ c = 3 ∨ c = 4 ∨ c = 5 ∨ c = 6 ∨ c = 7 ∨ c = 8 by omega) with rfl | rfl | rfl | rfl | rfl | rfl | rfl
      · exact Zw.rep Zw.rLCP2_2 x hx
      · exact Zw.rep Zw.rLCP2_3 x hx
      · exact Zw.rep Zw.rLCP2_4 x hx
      · exact Zw.rep Zw.rLCP2_5 x hx
      · exact Zw.rep Zw.rLCP2_6 x hx
      · exact Zw.rep Zw.rLCP2_7 x hx
      · exact Zw.rep Zw.rLCP2_8 x hx
    · rcases (show c = 3 ∨ c = 4 ∨ c = 5 ∨ c = 6 ∨ c = 7 ∨ c = 8 by omega) with rfl | rfl | rfl | rfl | rfl | rfl
      · exact Zw.rep Zw.rLCP3_3 x hx
      · exact Zw.rep Zw.rLCP3_4 x hx
      · exact Zw.rep Zw.rLCP3_5 x hx
      · exact Zw.rep Zw.rLCP3_6 x hx
      · exact Zw.rep Zw.rLCP3_7 x hx
      · exact Zw.rep Zw.rLCP3_8 x hx
    · rcases (show c = 4 ∨ c = 5 ∨ c = 6 ∨ c = 7 ∨ c = 8 by omega) with rfl | rfl | rfl | rfl | rfl
      · exact Zw.rep Zw.rLCP4_4 x hx
      · exact Zw.rep Zw.rLCP4_5 x hx
      · exact Zw.rep Zw.rLCP4_6 x hx
      · exact Zw.rep Zw.rLCP4_7 x hx
      · exact Zw.rep Zw.rLCP4_8 x hx
    · rcases (show c = 5 ∨ c = 6 ∨ c = 7 ∨ c = 8 by omega) with rfl | rfl | rfl | rfl
      · exact Zw.rep Zw.rLCP5_5 x hx
      · exact Zw.rep Zw.rLCP5_6 x hx
      · exact Zw.rep Zw.rLCP5_7 x hx
      · exact Zw.rep Zw.rLCP5_8 x hx
    · rcases (show c = 6 ∨ c = 7 ∨ c = 8 by omega) with rfl | rfl | rfl
      · exact Zw.rep Zw.rLCP6_6 x hx
      · exact Zw.rep Zw.rLCP6_7 x hx
      · exact Zw.rep Zw.rLCP6_8 x hx
    · rcases (show c = 7 ∨ c = 8 by omega) with rfl | rfl
      · exact Zw.rep Zw.rLCP7_7 x hx
      · exact Zw.rep Zw.rLCP7_8 x hx
    · obtain rfl : c = 8 := by omega
      exact Zw.rep Zw.rLCP8_8 x hx
theorem Zw.qCA {k c : Nat} (h : Zw.ok k c) (x : Nat) (h8 : k < 8) (hx : x < k + 1) : Zw.LCA k c x = some Zw.p0 := by
  rcases h with ⟨h1, h2⟩ | ⟨h1, h2, h3⟩
  · subst h1
    rcases (show c = 0 ∨ c = 1 by omega) with rfl | rfl
    · exact Zw.rep Zw.rLCA0_0 x hx
    · exact Zw.rep Zw.rLCA0_1 x hx
  · rcases (show k = 1 ∨ k = 2 ∨ k = 3 ∨ k = 4 ∨ k = 5 ∨ k = 6 ∨ k = 7 by omega) with rfl | rfl | rfl | rfl | rfl | rfl | rfl
    · rcases (show c = 1 ∨ c = 2 ∨ c = 3 ∨ c = 4 ∨ c = 5 ∨ c = 6 ∨ c = 7 ∨ c = 8 by omega) with rfl | rfl | rfl | rfl | rfl | rfl | rfl | rfl
      · exact Zw.rep Zw.rLCA1_1 x hx
      · exact Zw.rep Zw.rLCA1_2 x hx
      · exact Zw.rep Zw.rLCA1_3 x hx
      · exact Zw.rep Zw.rLCA1_4 x hx
      · exact Zw.rep Zw.rLCA1_5 x hx
      · exact Zw.rep Zw.rLCA1_6 x hx
      · exact Zw.rep Zw.rLCA1_7 x hx
      · exact Zw.rep Zw.rLCA1_8 x hx
    · rcases (show c = 2 ∨ c = 3 ∨ c = 4 ∨ c = 5 ∨ c = 6 ∨ c = 7 ∨ c = 8 by omega) with rfl | rfl | rfl | rfl | rfl | rfl | rfl
      · exact Zw.rep Zw.rLCA2_2 x hx
      · exact Zw.rep Zw.rLCA2_3 x hx
      · exact Zw.rep Zw.rLCA2_4 x hx
      · exact Zw.rep Zw.rLCA2_5 x hx
      · exact Zw.rep Zw.rLCA2_6 x hx
      · exact Zw.rep Zw.rLCA2_7 x hx
      · exact Zw.rep Zw.rLCA2_8 x hx
    · rcases (show c = 3 ∨ c = 4 ∨ c = 5 ∨ c = 6 ∨ c = 7 ∨ c = 8 by omega) with rfl | rfl | rfl | rfl | rfl | rfl
      · exact Zw.rep Zw.rLCA3_3 x hx
      · exact Zw.rep Zw.rLCA3_4 x hx
      · exact Zw.rep Zw.rLCA3_5 x hx
      · exact Zw.rep Zw.rLCA3_6 x hx
      · exact Zw.rep Zw.rLCA3_7 x hx
      · exact Zw.rep Zw.rLCA3_8 x hx
    · rcases (show c = 4 ∨ c = 5 ∨ c = 6 ∨ c = 7 ∨ c = 8 by omega) with rfl | rfl | rfl | rfl | rfl
      · exact Zw.rep Zw.rLCA4_4 x hx
      · exact Zw.rep Zw.rLCA4_5 x hx
      · exact Zw.rep Zw.rLCA4_6 x hx
      · exact Zw.rep Zw.rLCA4_7 x hx
      · exact Zw.rep Zw.rLCA4_8 x hx
    · rcases (show c = 5 ∨ c = 6 ∨ c = 7 ∨ c = 8 by omega) with rfl | rfl | rfl | rfl
      · exact Zw.rep Zw.rLCA5_5 x hx
      · exact Zw.rep Zw.rLCA5_6 x hx
      · exact Zw.rep Zw.rLCA5_7 x hx
      · exact Zw.rep Zw.rLCA5_8 x hx
    · rcases (show c = 6 ∨ c = 7 ∨ c = 8 by omega) with rfl | rfl | rfl
      · exact Zw.rep Zw.rLCA6_6 x hx
      · exact Zw.rep Zw.rLCA6_7 x hx
      · exact Zw.rep Zw.rLCA6_8 x hx
    · rcases (show c = 7 ∨ c = 8 by omega) with rfl | rfl
      · exact Zw.rep Zw.rLCA7_7 x hx
      · exact Zw.rep Zw.rLCA7_8 x hx
theorem Zw.qPA {k c : Nat} (h : Zw.ok k c) (x : Nat) (h8 : k < 8) (hx : x < k + 1) : Zw.LPA k c x = some Zw.p0 := by
  rcases h with ⟨h1, h2⟩ | ⟨h1, h2, h3⟩
  · subst h1
    rcases (show c = 0 ∨ c = 1 by omega) with rfl | rfl
    · exact Zw.rep Zw.rLPA0_0 x hx
    · exact Zw.rep Zw.rLPA0_1 x hx
  · rcases (show k = 1 ∨ k = 2 ∨ k = 3 ∨ k = 4 ∨ k = 5 ∨ k = 6 ∨ k = 7 by omega) with rfl | rfl | rfl | rfl | rfl | rfl | rfl
    · rcases (show c = 1 ∨ c = 2 ∨ c = 3 ∨ c = 4 ∨ c = 5 ∨ c = 6 ∨ c = 7 ∨ c = 8 by omega) with rfl | rfl | rfl | rfl | rfl | rfl | rfl | rfl
      · exact Zw.rep Zw.rLPA1_1 x hx
      · exact Zw.rep Zw.rLPA1_2 x hx
      · exact Zw.rep Zw.rLPA1_3 x hx
      · exact Zw.rep Zw.rLPA1_4 x hx
      · exact Zw.rep Zw.rLPA1_5 x hx
      · exact Zw.rep Zw.rLPA1_6 x hx
      · exact Zw.rep Zw.rLPA1_7 x hx
      · exact Zw.rep Zw.rLPA1_8 x hx
    · rcases (show c = 2 ∨ c = 3 ∨ c = 4 ∨ c = 5 ∨ c = 6 ∨ c = 7 ∨ c = 8 by omega) with rfl | rfl | rfl | rfl | rfl | rfl | rfl
      · exact Zw.rep Zw.rLPA2_2 x hx
      · exact Zw.rep Zw.rLPA2_3 x hx
      · exact Zw.rep Zw.rLPA2_4 x hx
      · exact Zw.rep Zw.rLPA2_5 x hx
      · exact Zw.rep Zw.rLPA2_6 x hx
      · exact Zw.rep Zw.rLPA2_7 x hx
      · exact Zw.rep Zw.rLPA2_8 x hx
    · rcases (show c = 3 ∨ c = 4 ∨ c = 5 ∨ c = 6 ∨ c = 7 ∨ c = 8 by omega) with rfl | rfl | rfl | rfl | rfl | rfl
      · exact Zw.rep Zw.rLPA3_3 x hx
      · exact Zw.rep Zw.rLPA3_4 x hx
      · exact Zw.rep Zw.rLPA3_5 x hx
      · exact Zw.rep Zw.rLPA3_6 x hx
      · exact Zw.rep Zw.rLPA3_7 x hx
      · exact Zw.rep Zw.rLPA3_8 x hx
    · rcases (show c = 4 ∨ c = 5 ∨ c = 6 ∨ c = 7 ∨ c = 8 by omega) with rfl | rfl | rfl | rfl | rfl
      · exact Zw.rep Zw.rLPA4_4 x hx
      · exact Zw.rep Zw.rLPA4_5 x hx
      · exact Zw.rep Zw.rLPA4_6 x hx
      · exact Zw.rep Zw.rLPA4_7 x hx
      · exact Zw.rep Zw.rLPA4_8 x hx
    · rcases (show c = 5 ∨ c = 6 ∨ c = 7 ∨ c = 8 by omega) with rfl | rfl | rfl | rfl
      · exact Zw.rep Zw.rLPA5_5 x hx
      · exact Zw.rep Zw.rLPA5_6 x hx
      · exact Zw.rep Zw.rLPA5_7 x hx
      · exact Zw.rep Zw.rLPA5_8 x hx
    · rcases (show c = 6 ∨ c = 7 ∨ c = 8 by omega) with rfl | rfl | rfl
      · exact Zw.rep Zw.rLPA6_6 x hx
      · exact Zw.rep Zw.rLPA6_7 x hx
      · exact Zw.rep Zw.rLPA6_8 x hx
    · rcases (show c = 7 ∨ c = 8 by omega) with rfl | rfl
      · exact Zw.rep Zw.rLPA7_7 x hx
      · exact Zw.rep Zw.rLPA7_8 x hx

theorem Zw.ah_app {m : Mu} : ∀ {a b : List SE}, AllHold m a → AllHold m b → AllHold m (a ++ b)
  | [], _, _, h => h
  | _ :: _, _, h1, h2 => ⟨h1.1, Zw.ah_app h1.2 h2⟩
theorem Zw.ah_cat {m : Mu} {f : Nat → List SE} : ∀ n, (∀ i, i < n → AllHold m (f i)) → AllHold m (Zw.cat f n)
  | 0, _ => trivial
  | n + 1, h => Zw.ah_app (Zw.ah_cat n fun i hi => h i (by omega)) (h n (by omega))
theorem Zw.ev_app {m : Mu} {vb : List Value} : ∀ {a va b : List Value}, evL m a = some va → evL m b = some vb → evL m (a ++ b) = some (va ++ vb)
  | [], va, b, h1, h2 => by cases h1; exact h2
  | u :: a, va, b, h1, h2 => by
    simp only [evL] at h1
    cases hu : evM m u with
    | none => rw [hu] at h1; cases h1
    | some x =>
      rw [hu] at h1
      cases hr : evL m a with
      | none => rw [hr] at h1; cases h1
      | some r =>
        rw [hr] at h1; cases h1
        show evL m (u :: (a ++ b)) = _
        simp only [evL, hu, Zw.ev_app hr h2]
        rfl
theorem Zw.at_ {ng : Nat} {rows : List Pl} {vals : List Value} {v k : Nat} (h : v = 1000 + k) : (nodeMu ng rows vals).at_ v = vals[k]? := by
  subst h
  show atomsOf vals (1000 + k) = _
  unfold atomsOf
  rw [if_pos (by omega)]
  congr 1; omega
theorem Zw.atX {ng : Nat} {rows : List Pl} {vals ex : List Value} {v t : Nat} (h : v = 1000 + vals.length + t) : (nodeMu ng rows (vals ++ ex)).at_ v = ex[t]? := by
  rw [Zw.at_ (k := vals.length + t) (by omega), List.getElem?_append_right (by omega)]
  congr 1; omega
theorem Zw.atC {ng : Nat} {rows : List Pl} {p w ex : List Value} {v i : Nat} (hv : v = 1000 + p.length + i) (hi : i < w.length) : (nodeMu ng rows ((p ++ w) ++ ex)).at_ v = w[i]? := by
  rw [Zw.at_ (k := p.length + i) (by omega), List.getElem?_append_left (by simp only [List.length_append]; omega), List.getElem?_append_right (by omega)]
  congr 1; omega
/-- The fields and the values of a dictionary, as the node's atoms stand for them. -/
def Zw.pv (F V : Nat → Int) : Nat → List Value
  | 0 => []
  | n + 1 => Zw.pv F V n ++ [.int .i64 (F n), .int .i64 (V n)]
theorem Zw.pv_len (F V : Nat → Int) : ∀ n, (Zw.pv F V n).length = 2 * n
  | 0 => rfl
  | n + 1 => by
    show (Zw.pv F V n ++ [Value.int .i64 (F n), .int .i64 (V n)]).length = _
    rw [List.length_append, Zw.pv_len F V n]; rfl
theorem Zw.pv_one (F V : Nat → Int) : ∀ n, (Zw.pv F V n).all (·.oneCell') = true
  | 0 => rfl
  | n + 1 => by
    show (Zw.pv F V n ++ [Value.int .i64 (F n), .int .i64 (V n)]).all (·.oneCell') = true
    rw [List.all_append, Zw.pv_one F V n]; rfl
theorem Zw.pv_get (F V : Nat → Int) : ∀ n j, j < n → (Zw.pv F V n)[2 * j]? = some (.int .i64 (F j)) ∧ (Zw.pv F V n)[2 * j + 1]? = some (.int .i64 (V j))
  | 0, _, h => absurd h (Nat.not_lt_zero _)
  | n + 1, j, h => by
    have hl := Zw.pv_len F V n
    show (Zw.pv F V n ++ [Value.int .i64 (F n), .int .i64 (V n)])[2 * j]? = _ ∧ (Zw.pv F V n ++ [Value.int .i64 (F n), .int .i64 (V n)])[2 * j + 1]? = _
    rcases Nat.lt_or_ge j n with h1 | h1
    · rw [List.getElem?_append_left (by omega), List.getElem?_append_left (by omega)]
      exact Zw.pv_get F V n j h1
    · obtain rfl : j = n := by omega
      rw [List.getElem?_append_right (by omega), List.getElem?_append_right (by omega), hl, show 2 * j - 2 * j = 0 by omega, show 2 * j + 1 - 2 * j = 1 by omega]
      exact ⟨rfl, rfl⟩
theorem Zw.ev_pa {m : Mu} {fa va : Nat → Nat} {F V : Nat → Int} : ∀ n, (∀ j, j < n → m.at_ (fa j) = some (.int .i64 (F j)) ∧ m.at_ (va j) = some (.int .i64 (V j))) → evL m (Zw.pa fa va n) = some (Zw.pv F V n)
  | 0, _ => rfl
  | n + 1, h => by
    obtain ⟨h1, h2⟩ := h n (by omega)
    refine Zw.ev_app (Zw.ev_pa n fun j hj => h j (by omega)) ?_
    simp only [evL, evM, h1, h2]

/-- The fields rise, and each is one of eight. -/
def Zw.rise (F : Nat → Int) (k : Nat) : Prop := ∀ j, j < k → 0 ≤ F j ∧ F j < 8 ∧ ∀ i, i < j → F i < F j
def Zw.del (F : Nat → Int) (p j : Nat) : Int := if j < p then F j else F (j + 1)
def Zw.ins (F : Nat → Int) (x : Int) (q j : Nat) : Int := if j < q then F j else if j = q then x else F (j - 1)
def Zw.upd (V : Nat → Int) (p : Nat) (x : Int) (j : Nat) : Int := if j = p then x else V j
theorem Zw.rise_ge {F : Nat → Int} {k : Nat} (h : Zw.rise F k) : ∀ j, j < k → (j : Int) ≤ F j
  | 0, hj => (h 0 hj).1
  | j + 1, hj => by
    have h1 := Zw.rise_ge h j (by omega)
    have h2 := (h (j + 1) hj).2.2 j (by omega)
    omega
theorem Zw.rise_8 {F : Nat → Int} {k : Nat} (h : Zw.rise F k) : k ≤ 8 := by
  rcases Nat.lt_or_ge 8 k with h1 | h1
  · have := Zw.rise_ge h 8 h1
    have := (h 8 h1).2.1
    omega
  · exact h1
theorem Zw.rise_del {F : Nat → Int} {k p : Nat} (h : Zw.rise F (k + 1)) : Zw.rise (Zw.del F p) k := fun j hj => by
  unfold Zw.del
  split
  · obtain ⟨h1, h2, h3⟩ := h j (by omega)
    refine ⟨h1, h2, fun i hi => ?_⟩
    rw [if_pos (by omega)]; exact h3 i hi
  · obtain ⟨h1, h2, h3⟩ := h (j + 1) (by omega)
    refine ⟨h1, h2, fun i hi => ?_⟩
    split
    · exact h3 i (by omega)
    · exact h3 (i + 1) (by omega)
theorem Zw.rise_ins {F : Nat → Int} {k q : Nat} {x : Int} (h : Zw.rise F k) (hx : 0 ≤ x ∧ x < 8) (hq : q ≤ k) (h1 : ∀ i, i < k → (i < q → F i < x) ∧ (q ≤ i → x < F i)) : Zw.rise (Zw.ins F x q) (k + 1) := fun j hj => by
  unfold Zw.ins
  by_cases c1 : j < q
  · rw [if_pos c1]
    obtain ⟨u1, u2, u3⟩ := h j (by omega)
    refine ⟨u1, u2, fun i hi => ?_⟩
    rw [if_pos (by omega)]; exact u3 i hi
  · rw [if_neg c1]
    by_cases c2 : j = q
    · rw [if_pos c2]
      refine ⟨hx.1, hx.2, fun i hi => ?_⟩
      rw [if_pos (by omega)]; exact (h1 i (by omega)).1 (by omega)
    · rw [if_neg c2]
      obtain ⟨u1, u2, u3⟩ := h (j - 1) (by omega)
      refine ⟨u1, u2, fun i hi => ?_⟩
      by_cases c3 : i < q
      · rw [if_pos c3]; exact u3 i (by omega)
      · rw [if_neg c3]
        by_cases c4 : i = q
        · rw [if_pos c4]; exact (h1 (j - 1) (by omega)).2 (by omega)
        · rw [if_neg c4]; exact u3 (i - 1) (by omega)
theorem Zw.find (F : Nat → Int) (x : Int) : ∀ k, Zw.rise F k → (∃ p, p < k ∧ F p = x) ∨ (∃ q, q ≤ k ∧ ∀ i, i < k → (i < q → F i < x) ∧ (q ≤ i → x < F i))
  | 0, _ => .inr ⟨0, Nat.le_refl _, fun i hi => absurd hi (Nat.not_lt_zero _)⟩
  | k + 1, h => by
    obtain ⟨hk1, hk2, hk3⟩ := h k (by omega)
    rcases Zw.find F x k (fun j hj => h j (by omega)) with ⟨p, h1, h2⟩ | ⟨q, h1, h2⟩
    · exact .inl ⟨p, by omega, h2⟩
    · rcases Nat.lt_or_ge q k with h3 | h3
      · refine .inr ⟨q, by omega, fun i hi => ?_⟩
        rcases Nat.lt_or_ge i k with h4 | h4
        · exact h2 i h4
        · obtain rfl : i = k := by omega
          have := (h2 q h3).2 (Nat.le_refl _)
          have := hk3 q h3
          exact ⟨fun h5 => by omega, fun _ => by omega⟩
      · obtain rfl : q = k := by omega
        rcases Int.lt_trichotomy (F q) x with h4 | h4 | h4
        · refine .inr ⟨q + 1, Nat.le_refl _, fun i hi => ⟨fun _ => ?_, fun h5 => by omega⟩⟩
          rcases Nat.lt_or_ge i q with h6 | h6
          · exact (h2 i h6).1 h6
          · obtain rfl : i = q := by omega
            exact h4
        · exact .inl ⟨q, by omega, h4⟩
        · refine .inr ⟨q, by omega, fun i hi => ?_⟩
          rcases Nat.lt_or_ge i q with h6 | h6
          · exact h2 i h6
          · obtain rfl : i = q := by omega
            exact ⟨fun h7 => by omega, fun _ => h4⟩

theorem Zw.blt_t {a b : Nat} (h : a < b) : Nat.blt a b = true := Nat.ble_eq_true_of_le h
theorem Zw.blt_f {a b : Nat} (h : b ≤ a) : Nat.blt a b = false := by
  cases hb : Nat.blt a b with
  | false => rfl
  | true => have := Nat.le_of_ble_eq_true hb; omega
theorem Zw.beq_t {a b : Nat} (h : a = b) : Nat.beq a b = true := h ▸ Nat.beq_refl a
theorem Zw.beq_f {a b : Nat} (h : a ≠ b) : Nat.beq a b = false := by
  cases hb : Nat.beq a b with
  | false => rfl
  | true => exact absurd (Nat.eq_of_beq_eq_true hb) h
theorem Zw.T_here {k p : Nat} (h : p < k) : Zw.T k p = Zw.tK ++ (Zw.tF k ++ (Zw.nv k ++ Zw.tR (Zw.bb k) (Zw.fA p))) := by
  unfold Zw.T; rw [Zw.blt_t h]; rfl
theorem Zw.T_not (k q : Nat) : Zw.T k (k + q) = Zw.tK ++ (Zw.tF k ++ (Zw.nv k ++ (Zw.tR (Zw.bb k) (Zw.bb k + 5) ++ Zw.tN k q (Zw.bb k + 5)))) := by
  unfold Zw.T; rw [Zw.blt_f (by omega), show k + q - k = q by omega]; rfl

theorem Zw.hC {m : Mu} {op : BinOp} {x : Nat} {c v : Int} {b : Bool} (h : m.at_ x = some (.int .i64 v)) (o : intOpA op .i64 v c = some (.bool b)) : SymHolds m (.bin op) (ch x) (.int .i64 c) (.bool b) := hold_bool (.atom _ _ h) (.int _ _) o
theorem Zw.hCC {m : Mu} {op : BinOp} {x y : Nat} {v w : Int} {b : Bool} (h : m.at_ x = some (.int .i64 v)) (h' : m.at_ y = some (.int .i64 w)) (o : intOpA op .i64 v w = some (.bool b)) : SymHolds m (.bin op) (ch x) (ch y) (.bool b) := hold_bool (.atom _ _ h) (.atom _ _ h') o
theorem Zw.fB_hold {m : Mu} {x : Nat} {v : Int} (h : m.at_ x = some (.int .i64 v)) (h0 : 0 ≤ v) (h8 : v < 8) : AllHold m (Zw.fB x) := ⟨Zw.hC h (op_lss_f h0), Zw.hC h (op_geq_f h8), trivial⟩
theorem Zw.ff_hold {m : Mu} {F : Nat → Int} {k : Nat} (hr : Zw.rise F k) (h : ∀ j, j < k → m.at_ (Zw.fA j) = some (.int .i64 (F j))) {i j : Nat} (hi : i < k) (hj : j < k) : AllHold m (Zw.ff i j) := by
  unfold Zw.ff
  rcases Nat.lt_trichotomy i j with c | c | c
  · rw [Zw.blt_t c]
    have := (hr j hj).2.2 i c
    exact ⟨Zw.hCC (h i hi) (h j hj) (op_lss_t this), Zw.hCC (h i hi) (h j hj) (op_eql_f (by omega)), trivial⟩
  · subst c
    rw [Zw.blt_f (Nat.le_refl _), Zw.beq_t rfl]
    exact ⟨Zw.hCC (h i hi) (h i hi) (op_lss_f (Int.le_refl _)), Zw.hCC (h i hi) (h i hi) (op_eql_t rfl), trivial⟩
  · rw [Zw.blt_f (by omega), Zw.beq_f (by omega)]
    have := (hr i hi).2.2 j c
    exact ⟨Zw.hCC (h i hi) (h j hj) (op_lss_f (by omega)), Zw.hCC (h i hi) (h j hj) (op_eql_f (by omega)), trivial⟩
theorem Zw.tF_hold {m : Mu} {F : Nat → Int} {k : Nat} (hr : Zw.rise F k) (h : ∀ j, j < k → m.at_ (Zw.fA j) = some (.int .i64 (F j))) : AllHold m (Zw.tF k) :=
  Zw.ah_cat k fun i hi => Zw.ah_app (Zw.fB_hold (h i hi) (hr i hi).1 (hr i hi).2.1) (Zw.ah_cat k fun j hj => Zw.ff_hold hr h hi hj)
theorem Zw.nv_hold {m : Mu} {V : Nat → Int} {k : Nat} (h : ∀ j, j < k → m.at_ (Zw.fA j + 1) = some (.int .i64 (V j))) : AllHold m (Zw.nv k) :=
  Zw.ah_cat k fun i hi => ⟨Zw.hCC (h i hi) (h i hi) (op_neq_f rfl), trivial⟩
theorem Zw.self_hold {m : Mu} {x : Nat} {v : Int} (h : m.at_ x = some (.int .i64 v)) : AllHold m (Zw.self x) :=
  ⟨Zw.hCC h h (op_eql_t rfl), Zw.hCC h h (op_neq_f rfl), Zw.hCC h h (op_lss_f (Int.le_refl _)), Zw.hCC h h (op_gtr_f (Int.le_refl _)), trivial⟩
theorem Zw.tK_hold {m : Mu} {K G : Int} (hK : m.at_ 1003 = some (.int .i64 K)) (hG : m.at_ 1004 = some (.int .i64 G)) (h0 : 0 ≤ K) (h8 : K < 8) (hg : G = K % 4) : AllHold m Zw.tK := by
  obtain ⟨d, ⟨_, e1, _, _, _⟩, _, o⟩ := ex_rem K (4 : Int) (by omega) (by omega)
  obtain rfl : d = G := by rw [e1 h0, hg]
  refine Zw.ah_app ?_ (Zw.ah_app (Zw.self_hold hK) (Zw.self_hold hG))
  exact ⟨Zw.hC hK (op_lss_f h0), Zw.hC hK (op_geq_f h8), Zw.hC hK (op_geq_t h0), Zw.hC hK (op_lss_t h8), Zw.hC hK (op_lss_t (by omega)),
    hold_op (.int _ _) (.atom _ _ hK) (op_add (c := K) (by omega) (by omega) (by omega)) (.atom _ _ hK), hold_op (.atom _ _ hK) (.int _ _) (o .i64) (.atom _ _ hG), Zw.hC hG (op_geq_t (by omega)), Zw.hC hG (op_lss_t (by omega)), trivial⟩
theorem Zw.tN_hold {m : Mu} {F : Nat → Int} {k q x : Nat} {f : Int} (h : ∀ j, j < k → m.at_ (Zw.fA j) = some (.int .i64 (F j))) (hx : m.at_ x = some (.int .i64 f)) (h0 : 0 ≤ f) (h8 : f < 8) (hq : ∀ i, i < k → (i < q → F i < f) ∧ (q ≤ i → f < F i)) : AllHold m (Zw.tN k q x) := by
  refine Zw.ah_app (Zw.fB_hold hx h0 h8) ⟨Zw.hCC hx hx (op_eql_t rfl), Zw.hCC hx hx (op_lss_f (Int.le_refl _)), Zw.ah_cat k fun i hi => ?_⟩
  rcases Nat.lt_or_ge i q with c | c
  · have := (hq i hi).1 c
    rw [Zw.blt_t c]
    exact ⟨Zw.hCC (h i hi) hx (op_lss_t this), Zw.hCC hx (h i hi) (op_lss_f (by omega)), Zw.hCC (h i hi) hx (op_eql_f (by omega)), Zw.hCC hx (h i hi) (op_eql_f (by omega)), trivial⟩
  · have := (hq i hi).2 c
    rw [Zw.blt_f c]
    exact ⟨Zw.hCC (h i hi) hx (op_lss_f (by omega)), Zw.hCC hx (h i hi) (op_lss_t this), Zw.hCC (h i hi) hx (op_eql_f (by omega)), Zw.hCC hx (h i hi) (op_eql_f (by omega)), trivial⟩

/-- What stands ahead of a dictionary's fields among a node's atoms. -/
def Zw.hd (a0 a1 : Option Addr) (m0 c0 m1 c1 i : Nat) (K G : Int) : List Value := [.slice a0 m0 c0, .slice a1 m1 c1, .int .i64 (i : Int), .int .i64 K, .int .i64 G]

theorem Zw.nE {W : World} {a0 a1 : Option Addr} {m0 c0 m1 c1 i k c : Nat} {K G : Int} {F V : Nat → Int} (h : Zw.ok k c) (e : Nat) (he : (e = 0 ∧ (m0 : Int) ≤ (i : Int)) ∨ (e = 1 ∧ (i : Int) < (m0 : Int) ∧ (m1 : Int) ≤ (i : Int)) ∨ (e = 2 ∧ (i : Int) < (m0 : Int) ∧ (i : Int) < (m1 : Int) ∧ 40 ≤ i)) :
    NdGood Tryz.prog Tryz.f3 8 Tryz.H0 W Zw.p0 (Zw.dN k c) (Zw.hd a0 a1 m0 c0 m1 c1 i K G ++ Zw.pv F V k) := by
  have hl := Zw.pv_len F V k
  have hlen : 5 + 2 * k = (Zw.hd a0 a1 m0 c0 m1 c1 i K G ++ Zw.pv F V k).length := by simp only [List.length_append, Zw.hd, List.length_cons, List.length_nil]; omega
  generalize hm : nodeMu 8 [] ((Zw.hd a0 a1 m0 c0 m1 c1 i K G ++ Zw.pv F V k) ++ [.int .i64 (m0 : Int), .int .i64 (m1 : Int)]) = m
  have y0 : m.at_ 1000 = some (.slice a0 m0 c0) := by rw [← hm]; rfl
  have y1 : m.at_ 1001 = some (.slice a1 m1 c1) := by rw [← hm]; rfl
  have y2 : m.at_ 1002 = some (.int .i64 (i : Int)) := by rw [← hm]; rfl
  have x0 : m.at_ (Zw.bb k) = some (.int .i64 (m0 : Int)) := by rw [← hm, Zw.atX (t := 0) (by rw [← hlen]; unfold Zw.bb; omega)]; rfl
  have x1 : m.at_ (Zw.bb k + 1) = some (.int .i64 (m1 : Int)) := by rw [← hm, Zw.atX (t := 1) (by rw [← hlen]; unfold Zw.bb; omega)]; rfl
  have hold : AllHold m (Zw.tE k e) := by
    rcases he with ⟨rfl, h1⟩ | ⟨rfl, h1, h2⟩ | ⟨rfl, h1, h2, h3⟩
    · exact ⟨hold_len (.atom _ _ y0) (.atom _ _ x0), Zw.hCC y2 x0 (op_lss_f h1), trivial⟩
    · exact ⟨hold_len (.atom _ _ y0) (.atom _ _ x0), hold_len (.atom _ _ y1) (.atom _ _ x1), Zw.hCC y2 x0 (op_lss_t h1), Zw.hCC y2 x1 (op_lss_f h2), trivial⟩
    · exact ⟨hold_len (.atom _ _ y0) (.atom _ _ x0), hold_len (.atom _ _ y1) (.atom _ _ x1), Zw.hCC y2 x0 (op_lss_t h1), Zw.hCC y2 x1 (op_lss_t h2), Zw.hC y2 (op_lss_f (by omega)), trivial⟩
  rw [← hm] at hold
  have hf : Zw.fE k c e = true := by
    rcases he with ⟨rfl, _⟩ | ⟨rfl, _⟩ | ⟨rfl, _⟩
    · exact Zw.qC h 3 (by omega)
    · exact Zw.qC h 4 (by omega)
    · exact Zw.qC h 5 (by omega)
  refine Zw.fx (Zw.tE k e) [.int .i64 (m0 : Int), .int .i64 (m1 : Int)] [] (fun sy => Zw.k0 Tryz.m4 sy) hold (Zw.qC h 2 (by omega)) hlen ?_ rowsHold_nil hf
  simp only [List.all_append, Zw.pv_one]; rfl

theorem Zw.nA {W : World} {a0 : Option Addr} {m0 c0 : Nat} {f0q0 : Nat → Int} {a1 : Option Addr} {m1 c1 : Nat} {f1q0 : Nat → Bool} {K G : Int} (h0 : SlcOk W a0 m0 c0 1 (fun i => [.int .i64 (f0q0 i)])) (b0 : (m0 : Int) < 9223372036854775808) (r0q0 : ∀ i, R64 (f0q0 i)) (h1 : SlcOk W a1 m1 c1 1 (fun i => [.bool (f1q0 i)])) (b1 : (m1 : Int) < 9223372036854775808)
    (hK0 : 0 ≤ K) (hK8 : K < 8) (hKG : G = K % 4) : ∀ (n i : Nat), i ≤ 40 → 40 - i < n → ∀ (k c : Nat) (F V : Nat → Int), Zw.ok k c → Zw.rise F k →
    NdGood Tryz.prog Tryz.f3 8 Tryz.H0 W Zw.p0 (Zw.dN k c) (Zw.hd a0 a1 m0 c0 m1 c1 i K G ++ Zw.pv F V k)
  | 0, _, _, h => absurd h (Nat.not_lt_zero _)
  | n + 1, i, hi, hn => by
    intro k c F V hk hr
    by_cases q1 : (i : Int) < (m0 : Int)
    case neg => exact Zw.nE hk 0 (.inl ⟨rfl, Int.not_lt.1 q1⟩)
    case pos =>
    by_cases q2 : (i : Int) < (m1 : Int)
    case neg => exact Zw.nE hk 1 (.inr (.inl ⟨rfl, q1, Int.not_lt.1 q2⟩))
    case pos =>
    rcases Nat.lt_or_ge i 40 with q3 | q3
    case inr => exact Zw.nE hk 2 (.inr (.inr ⟨rfl, q1, q2, q3⟩))
    case inl =>
    have hl := Zw.pv_len F V k
    have hlen : 5 + 2 * k = (Zw.hd a0 a1 m0 c0 m1 c1 i K G ++ Zw.pv F V k).length := by simp only [List.length_append, Zw.hd, List.length_cons, List.length_nil]; omega
    obtain ⟨p0, v0⟩ := h0.elem (show i < m0 by omega)
    obtain ⟨p1, v1⟩ := h1.elem (show i < m1 by omega)
    obtain ⟨d, e, g, o⟩ := ex_add (i : Int) (1 : Int)
    obtain rfl : d = ((i + 1 : Nat) : Int) := by omega
    obtain ⟨t1, ⟨_, f1, z1, u1, w1⟩, g1, o1⟩ := ex_rem (f0q0 i) (8 : Int) (by omega) (by omega)
    obtain ⟨t2, f2, g2, o2⟩ := ex_add t1 (8 : Int)
    obtain ⟨t3, ⟨_, f3, z3, u3, w3⟩, g3, o3⟩ := ex_rem t2 (8 : Int) (by omega) (by omega)
    have k2 : t2 = t1 + 8 := by omega
    have k0 : 0 ≤ t2 := by omega
    have k3 : 0 ≤ t3 := by rw [f3 k0]; exact Int.emod_nonneg _ (by omega)
    generalize hm : nodeMu 8 [p0, p1] ((Zw.hd a0 a1 m0 c0 m1 c1 i K G ++ Zw.pv F V k) ++ [.int .i64 (m0 : Int), .int .i64 (m1 : Int), .int .i64 (f0q0 i), .int .i64 t1, .int .i64 t2, .int .i64 t3, .int .i64 ((i + 1 : Nat) : Int)]) = m
    have y0 : m.at_ 1000 = some (.slice a0 m0 c0) := by rw [← hm]; rfl
    have y1 : m.at_ 1001 = some (.slice a1 m1 c1) := by rw [← hm]; rfl
    have y2 : m.at_ 1002 = some (.int .i64 (i : Int)) := by rw [← hm]; rfl
    have y3 : m.at_ 1003 = some (.int .i64 K) := by rw [← hm]; rfl
    have y4 : m.at_ 1004 = some (.int .i64 G) := by rw [← hm]; rfl
    have x0 : m.at_ (Zw.bb k) = some (.int .i64 (m0 : Int)) := by rw [← hm, Zw.atX (t := 0) (by rw [← hlen]; unfold Zw.bb; omega)]; rfl
    have x1 : m.at_ (Zw.bb k + 1) = some (.int .i64 (m1 : Int)) := by rw [← hm, Zw.atX (t := 1) (by rw [← hlen]; unfold Zw.bb; omega)]; rfl
    have x2 : m.at_ (Zw.bb k + 2) = some (.int .i64 (f0q0 i)) := by rw [← hm, Zw.atX (t := 2) (by rw [← hlen]; unfold Zw.bb; omega)]; rfl
    have x3 : m.at_ (Zw.bb k + 3) = some (.int .i64 t1) := by rw [← hm, Zw.atX (t := 3) (by rw [← hlen]; unfold Zw.bb; omega)]; rfl
    have x4 : m.at_ (Zw.bb k + 4) = some (.int .i64 t2) := by rw [← hm, Zw.atX (t := 4) (by rw [← hlen]; unfold Zw.bb; omega)]; rfl
    have x5 : m.at_ (Zw.bb k + 5) = some (.int .i64 t3) := by rw [← hm, Zw.atX (t := 5) (by rw [← hlen]; unfold Zw.bb; omega)]; rfl
    have x6 : m.at_ (Zw.bb k + 6) = some (.int .i64 ((i + 1 : Nat) : Int)) := by rw [← hm, Zw.atX (t := 6) (by rw [← hlen]; unfold Zw.bb; omega)]; rfl
    have hp0 : m.pl 8 = some p0 := by rw [← hm]; rfl
    have hp1 : m.pl 9 = some p1 := by rw [← hm]; rfl
    have xF : ∀ j, j < k → m.at_ (Zw.fA j) = some (.int .i64 (F j)) := fun j hj => by
      rw [← hm, Zw.atC (i := 2 * j) (by unfold Zw.fA; simp only [Zw.hd, List.length_cons, List.length_nil]) (by omega)]; exact (Zw.pv_get F V k j hj).1
    have xV : ∀ j, j < k → m.at_ (Zw.fA j + 1) = some (.int .i64 (V j)) := fun j hj => by
      rw [← hm, Zw.atC (i := 2 * j + 1) (by unfold Zw.fA; simp only [Zw.hd, List.length_cons, List.length_nil]; omega) (by omega)]; exact (Zw.pv_get F V k j hj).2
    have hR : ∀ x, m.at_ x = some (.int .i64 t3) → AllHold m (Zw.tR (Zw.bb k) x) := fun x hx =>
      ⟨hold_len (.atom _ _ y0) (.atom _ _ x0), hold_len (.atom _ _ y1) (.atom _ _ x1), Zw.hCC y2 x0 (op_lss_t q1), Zw.hCC y2 x1 (op_lss_t q2), Zw.hC y2 (op_lss_t (by omega)),
        hold_idx v0 (show i < m0 by omega) (.atom _ _ y0) (.atom _ _ y2) rfl hp0, hold_idx v1 (show i < m1 by omega) (.atom _ _ y1) (.atom _ _ y2) rfl hp1,
        hold_op (.atom _ _ x2) (.int _ _) (o1 .i64) (.atom _ _ x3), hold_op (.atom _ _ x3) (.int _ _) o2 (.atom _ _ x4), hold_op (.atom _ _ x4) (.int _ _) (o3 .i64) (.atom _ _ hx), hold_op (.atom _ _ y2) (.int _ _) o (.atom _ _ x6), trivial⟩
    have hP : ∀ p, p < k → F p = t3 → AllHold m (Zw.T k p) := fun p hp hf => by
      rw [Zw.T_here hp]
      exact Zw.ah_app (Zw.tK_hold y3 y4 hK0 hK8 hKG) (Zw.ah_app (Zw.tF_hold hr xF) (Zw.ah_app (Zw.nv_hold xV) (hR _ (by rw [xF p hp, hf]))))
    have hN : ∀ q, (∀ i, i < k → (i < q → F i < t3) ∧ (q ≤ i → t3 < F i)) → AllHold m (Zw.T k (k + q)) := fun q hq => by
      rw [Zw.T_not]
      exact Zw.ah_app (Zw.tK_hold y3 y4 hK0 hK8 hKG) (Zw.ah_app (Zw.tF_hold hr xF) (Zw.ah_app (Zw.nv_hold xV) (Zw.ah_app (hR _ x5) (Zw.tN_hold xF x5 k3 w3 hq))))
    have two : evL m (Zw.A5 k) = some (Zw.hd a0 a1 m0 c0 m1 c1 (i + 1) K G) := by simp only [Zw.A5, Zw.hd, evL, evM, y0, y1, y3, y4, x6]
    have hone : ((Zw.hd a0 a1 m0 c0 m1 c1 i K G ++ Zw.pv F V k) ++ [Value.int .i64 (m0 : Int), .int .i64 (m1 : Int), .int .i64 (f0q0 i), .int .i64 t1, .int .i64 t2, .int .i64 t3, .int .i64 ((i + 1 : Nat) : Int)]).all (·.oneCell') = true := by
      simp only [List.all_append, Zw.pv_one]; rfl
    have one : ∀ (F V : Nat → Int) (k : Nat), (Zw.hd a0 a1 m0 c0 m1 c1 (i + 1) K G ++ Zw.pv F V k).all (·.oneCell') = true := fun F V k => by
      simp only [List.all_append, Zw.pv_one]; rfl
    have hrow : ∀ b, f1q0 i = b → RowsHold W m [p0, p1] [[ch (Zw.bb k + 2)], [.bool b]] := fun b hb => by
      subst hb
      exact rowsHold_cons (Elem.row v0 (VL.cons (.atom _ _ x2) VL.nil)) (rowsHold_cons (Elem.row v1 (VL.cons (.bool _) VL.nil)) rowsHold_nil)
    have next := Zw.nA h0 b0 r0q0 h1 b1 hK0 hK8 hKG n (i + 1) q3 (by omega)
    have go : ∀ (t : List SE) (b : Bool), AllHold m t → f1q0 i = b → ∀ {k' c' : Nat} {F' V' : Nat → Int} {rl : List (Nat × Nat)} {P : List Value}, leafNext (Zw.run t k c b) 8 (Zw.dN k' c') rl (Zw.A5 k ++ P) = some Zw.p0 → evL m P = some (Zw.pv F' V' k') → Zw.ok k' c' → Zw.rise F' k' →
        NdGood Tryz.prog Tryz.f3 8 Tryz.H0 W Zw.p0 (Zw.dN k c) (Zw.hd a0 a1 m0 c0 m1 c1 i K G ++ Zw.pv F V k) := fun t b hold hb k' c' F' V' rl P hrun hev hok' hr' => by
      have hid : (Zw.dN k c).sub 8 [[ch (Zw.bb k + 2)], [.bool b]] (idl 8 (Zw.dN k c).objs) (idA (5 + 2 * k)) ((Zw.dN k c).st 8 []) = true := by
        cases b
        · exact Zw.qC hk 0 (by omega)
        · exact Zw.qC hk 1 (by omega)
      have hrow' := hrow b hb
      have hev' := Zw.ev_app two hev
      rw [← hm] at hold hrow' hev'
      exact Zw.nx t _ [p0, p1] (fun sy => Zw.k0 Tryz.m4 sy) hold hid hrow' hrun (next _ _ _ _ hok' hr') hlen hone hev' (one _ _ _)
    rcases Zw.find F t3 k hr with ⟨p, hp, hf⟩ | ⟨q, hq, hf⟩
    · cases hb : f1q0 i with
      | false =>
        refine go (Zw.T k p) false (hP p hp hf) hb (F' := F) (V' := Zw.upd V p (f0q0 i)) (Zw.qPP hk p hp) (Zw.ev_pa k fun j hj => ⟨xF j hj, ?_⟩) hk hr
        unfold Zw.putV Zw.upd
        by_cases c1 : j = p
        · rw [Zw.beq_t c1, if_pos c1]; exact x2
        · rw [Zw.beq_f c1, if_neg c1]; exact xV j hj
      | true =>
        obtain ⟨k, rfl⟩ : ∃ k', k = k' + 1 := ⟨k - 1, by omega⟩
        refine go (Zw.T (k + 1) p) true (hP p hp hf) hb (k' := k) (F' := Zw.del F p) (V' := Zw.del V p) (Zw.qCP hk p hp) (Zw.ev_pa k fun j hj => ?_) ?_ (Zw.rise_del hr)
        · unfold Zw.delA Zw.del
          by_cases c1 : j < p
          · rw [Zw.blt_t c1, if_pos c1, if_pos c1]; exact ⟨xF j (by omega), xV j (by omega)⟩
          · rw [Zw.blt_f (by omega), if_neg c1, if_neg c1]; exact ⟨xF (j + 1) (by omega), xV (j + 1) (by omega)⟩
        · unfold Zw.cC
          rcases hk with ⟨hk1, hk2⟩ | ⟨hk1, hk2, hk3⟩
          · omega
          · by_cases c1 : k + 1 = 1
            · rw [Zw.beq_t c1]; exact .inl ⟨by omega, Nat.le_refl _⟩
            · rw [Zw.beq_f c1]; exact .inr ⟨by omega, by show k ≤ c; omega, hk3⟩
    · have hri := Zw.rise_ins hr ⟨k3, w3⟩ hq hf
      have h8 := Zw.rise_8 hri
      cases hb : f1q0 i with
      | true => exact go (Zw.T k (k + q)) true (hN q hf) hb (Zw.qCA hk q (by omega) (by omega)) (Zw.ev_pa k fun j hj => ⟨xF j hj, xV j hj⟩) hk hr
      | false =>
        refine go (Zw.T k (k + q)) false (hN q hf) hb (F' := Zw.ins F t3 q) (V' := Zw.ins V (f0q0 i) q) (Zw.qPA hk q (by omega) (by omega)) (Zw.ev_pa (k + 1) fun j hj => ?_) ?_ hri
        · unfold Zw.insA Zw.ins
          by_cases c1 : j < q
          · rw [Zw.blt_t c1, if_pos c1, if_pos c1]; exact ⟨xF j (by omega), xV j (by omega)⟩
          · rw [Zw.blt_f (by omega), if_neg c1, if_neg c1]
            by_cases c2 : j = q
            · rw [Zw.beq_t c2, if_pos c2, if_pos c2]; exact ⟨x5, x2⟩
            · rw [Zw.beq_f c2, if_neg c2, if_neg c2]; exact ⟨xF (j - 1) (by omega), xV (j - 1) (by omega)⟩
        · unfold Zw.cP
          by_cases c1 : k = 0
          · rw [Zw.beq_t c1]; exact .inr ⟨by omega, by subst c1; exact Nat.le_refl _, by show (1 : Nat) ≤ 8; omega⟩
          · rw [Zw.beq_f c1]
            rcases hk with ⟨hk1, hk2⟩ | ⟨hk1, hk2, hk3⟩
            · omega
            · by_cases c2 : q = k
              · rw [Zw.beq_t c2]
                rcases Nat.lt_or_ge k c with c3 | c3
                · rw [Zw.blt_t c3]; exact .inr ⟨by omega, c3, hk3⟩
                · rw [Zw.blt_f c3]; exact .inr ⟨by omega, Nat.le_refl _, by show k + 1 ≤ 8; omega⟩
              · rw [Zw.beq_f c2]; exact .inr ⟨by omega, Nat.le_refl _, by show k + 1 ≤ 8; omega⟩

theorem Zw.n0 {W : World} {a0 : Option Addr} {m0 c0 : Nat} {f0q0 : Nat → Int} {a1 : Option Addr} {m1 c1 : Nat} {f1q0 : Nat → Bool} {n2 : Int} (h0 : SlcOk W a0 m0 c0 1 (fun i => [.int .i64 (f0q0 i)])) (b0 : (m0 : Int) < 9223372036854775808) (r0q0 : ∀ i, R64 (f0q0 i)) (h1 : SlcOk W a1 m1 c1 1 (fun i => [.bool (f1q0 i)])) (b1 : (m1 : Int) < 9223372036854775808) (r2 : R64 n2) :
    NdGood Tryz.prog Tryz.f3 8 Tryz.H0 W Zw.pS Zw.d0 [(.slice a0 m0 c0), (.slice a1 m1 c1), (.int .i64 n2)] := by
  have ⟨rl2, rh2⟩ := r2
  obtain ⟨t1, ⟨_, f1, z1, u1, w1⟩, g1, o1⟩ := ex_rem n2 (8 : Int) (by omega) (by omega)
  obtain ⟨t2, f2, g2, o2⟩ := ex_add t1 (8 : Int)
  obtain ⟨t3, ⟨_, f3, z3, u3, w3⟩, g3, o3⟩ := ex_rem t2 (8 : Int) (by omega) (by omega)
  have k2 : t2 = t1 + 8 := by omega
  have k0 : 0 ≤ t2 := by omega
  have k3 : 0 ≤ t3 := by rw [f3 k0]; exact Int.emod_nonneg _ (by omega)
  have hold : AllHold (nodeMu 8 [] ([Value.slice a0 m0 c0, .slice a1 m1 c1, .int .i64 n2] ++ [.int .i64 t1, .int .i64 t2, .int .i64 t3, .int .i64 (t3 % 4)])) Zw.tS :=
    ⟨hold_op (.atom _ _ rfl) (.int _ _) (o1 .i64) (.atom _ _ rfl), hold_op (.atom _ _ rfl) (.int _ _) o2 (.atom _ _ rfl), hold_op (.atom _ _ rfl) (.int _ _) (o3 .i64) (.atom _ _ rfl), trivial⟩
  exact Zw.nx Zw.tS [.int .i64 t1, .int .i64 t2, .int .i64 t3, .int .i64 (t3 % 4)] [] (fun sy => Zw.kS Tryz.m4 sy) hold Zw.iS rowsHold_nil Zw.rS
    (Zw.nA h0 b0 r0q0 h1 b1 k3 w3 rfl 41 0 (by omega) (by omega) 0 0 (fun _ => 0) (fun _ => 0) (.inl ⟨rfl, by omega⟩) (fun j hj => absurd hj (Nat.not_lt_zero _))) rfl rfl rfl rfl
end Go.Proofs
