/- The law: families of nodes over the number of records; hence from its start, for every input. No conditions. -/
import Derived.Test.YtcmfeakcdikjmaaGreatDoorVSeatSourceAllR1
import Derived.Test.YtcmfeakcdikjmaaGreatDoorVSeatSourceAllR2
import Derived.Test.YtcmfeakcdikjmaaGreatDoorVSeatSourceAllR3
import Derived.Test.YtcmfeakcdikjmaaGreatDoorVSeatSourceAllR4
set_option linter.all false
namespace Go.Proofs
open Go Go.Vsx Go.RowKit
set_option maxRecDepth 1000000
set_option maxHeartbeats 4000000
set_option linter.unusedVariables false
theorem Zw.nx {W : World} {pt pt' : Pt} {d d' : Nd} {vals : List Value} {roc : List (List Value)} {j hk : Nat} {rl : List (Nat × Nat)} {A : List Value} {vals' : List Value} (t : List SE) (ex : List Value) (rows : List Pl)
    (hok : ∀ sy, okPt (Tryz.Es Tryz.m4 sy) 8 pt = true) (hold : AllHold (nodeMu 8 rows (vals ++ ex)) t)
    (hid : d.sub 8 roc (idl 8 d.objs) (idA hk) (d.st 8 []) = true) (hrow : RowsHold W (nodeMu 8 rows (vals ++ ex)) rows roc)
    (hrun : leafNext (fK (Tryz.Es Tryz.m4 (syOf t)) 100000 100000 pt (d.st 8 roc) j) 8 d' rl A = some pt')
    (h : NdGood Tryz.prog Tryz.f3 8 Tryz.H0 W pt' d' vals') (hlen : hk = vals.length) (hone : (vals ++ ex).all (·.oneCell') = true) (hA : evL (nodeMu 8 rows (vals ++ ex)) A = some vals') (hone' : vals'.all (·.oneCell') = true) : NdGood Tryz.prog Tryz.f3 8 Tryz.H0 W pt d vals :=
  NdGood.next (E := Tryz.Es Tryz.m4 (syOf t)) (extras := ex) (rows := rows) (vals' := vals') (by omega) (Tryz.right Tryz.m4 (syOf t) _ W Tryz.mOk4 (symOk_of rfl hold)) (hok _) hid hlen hone hrow hrun hA hone' h
theorem Zw.fx {W : World} {pt : Pt} {d : Nd} {vals : List Value} {roc : List (List Value)} {j hk : Nat} (t : List SE) (ex : List Value) (rows : List Pl)
    (hok : ∀ sy, okPt (Tryz.Es Tryz.m4 sy) 8 pt = true) (hold : AllHold (nodeMu 8 rows (vals ++ ex)) t)
    (hid : d.sub 8 roc (idl 8 d.objs) (idA hk) (d.st 8 []) = true) (hlen : hk = vals.length) (hone : (vals ++ ex).all (·.oneCell') = true) (hrow : RowsHold W (nodeMu 8 rows (vals ++ ex)) rows roc)
    (hrun : leafFin (Tryz.Es Tryz.m4 (syOf t)) Tryz.f3 (fK (Tryz.Es Tryz.m4 (syOf t)) 100000 100000 pt (d.st 8 roc) j) = true) : NdGood Tryz.prog Tryz.f3 8 Tryz.H0 W pt d vals :=
  NdGood.fin (E := Tryz.Es Tryz.m4 (syOf t)) (extras := ex) (rows := rows) (by omega) (Tryz.right Tryz.m4 (syOf t) _ W Tryz.mOk4 (symOk_of rfl hold)) (hok _) hid hlen hone hrow hrun

theorem Zw.rG {L : Nat} {n : Bool} (hL : L < 61) (hn : n = true → L = 0) : Zw.LG L n = some Zw.p2 := by
  cases n with
  | true => obtain rfl := hn rfl; exact Zw.rG_t
  | false =>
    rcases (show L = 0 ∨ L = 1 ∨ L = 2 ∨ L = 3 ∨ L = 4 ∨ L = 5 ∨ L = 6 ∨ L = 7 ∨ L = 8 ∨ L = 9 ∨ L = 10 ∨ L = 11 ∨ L = 12 ∨ L = 13 ∨ L = 14 ∨ L = 15 ∨ L = 16 ∨ L = 17 ∨ L = 18 ∨ L = 19 ∨ L = 20 ∨ L = 21 ∨ L = 22 ∨ L = 23 ∨ L = 24 ∨ L = 25 ∨ L = 26 ∨ L = 27 ∨ L = 28 ∨ L = 29 ∨ L = 30 ∨ L = 31 ∨ L = 32 ∨ L = 33 ∨ L = 34 ∨ L = 35 ∨ L = 36 ∨ L = 37 ∨ L = 38 ∨ L = 39 ∨ L = 40 ∨ L = 41 ∨ L = 42 ∨ L = 43 ∨ L = 44 ∨ L = 45 ∨ L = 46 ∨ L = 47 ∨ L = 48 ∨ L = 49 ∨ L = 50 ∨ L = 51 ∨ L = 52 ∨ L = 53 ∨ L = 54 ∨ L = 55 ∨ L = 56 ∨ L = 57 ∨ L = 58 ∨ L = 59 ∨ L = 60 by omega) with h9 | h9 | h9 | h9 | h9 | h9 | h9 | h9 | h9 | h9 | h9 | h9 | h9 | h9 | h9 | h9 | h9 | h9 | h9 | h9 | h9 | h9 | h9 | h9 | h9 | h9 | h9 | h9 | h9 | h9 | h9 | h9 | h9 | h9 | h9 | h9 | h9 | h9 | h9 | h9 | h9 | h9 | h9 | h9 | h9 | h9 | h9 | h9 | h9 | h9 | h9 | h9 | h9 | h9 | h9 | h9 | h9 | h9 | h9 | h9 | h9
    · subst h9; exact Zw.rG_0
    · subst h9; exact Zw.rG_1
    · subst h9; exact Zw.rG_2
    · subst h9; exact Zw.rG_3
    · subst h9; exact Zw.rG_4
    · subst h9; exact Zw.rG_5
    · subst h9; exact Zw.rG_6
    · subst h9; exact Zw.rG_7
    · subst h9; exact Zw.rG_8
    · subst h9; exact Zw.rG_9
    · subst h9; exact Zw.rG_10
    · subst h9; exact Zw.rG_11
    · subst h9; exact Zw.rG_12
    · subst h9; exact Zw.rG_13
    · subst h9; exact Zw.rG_14
    · subst h9; exact Zw.rG_15
    · subst h9; exact Zw.rG_16
    · subst h9; exact Zw.rG_17
    · subst h9; exact Zw.rG_18
    · subst h9; exact Zw.rG_19
    · subst h9; exact Zw.rG_20
    · subst h9; exact Zw.rG_21
    · subst h9; exact Zw.rG_22
    · subst h9; exact Zw.rG_23
    · subst h9; exact Zw.rG_24
    · subst h9; exact Zw.rG_25
    · subst h9; exact Zw.rG_26
    · subst h9; exact Zw.rG_27
    · subst h9; exact Zw.rG_28
    · subst h9; exact Zw.rG_29
    · subst h9; exact Zw.rG_30
    · subst h9; exact Zw.rG_31
    · subst h9; exact Zw.rG_32
    · subst h9; exact Zw.rG_33
    · subst h9; exact Zw.rG_34
    · subst h9; exact Zw.rG_35
    · subst h9; exact Zw.rG_36
    · subst h9; exact Zw.rG_37
    · subst h9; exact Zw.rG_38
    · subst h9; exact Zw.rG_39
    · subst h9; exact Zw.rG_40
    · subst h9; exact Zw.rG_41
    · subst h9; exact Zw.rG_42
    · subst h9; exact Zw.rG_43
    · subst h9; exact Zw.rG_44
    · subst h9; exact Zw.rG_45
    · subst h9; exact Zw.rG_46
    · subst h9; exact Zw.rG_47
    · subst h9; exact Zw.rG_48
    · subst h9; exact Zw.rG_49
    · subst h9; exact Zw.rG_50
    · subst h9; exact Zw.rG_51
    · subst h9; exact Zw.rG_52
    · subst h9; exact Zw.rG_53
    · subst h9; exact Zw.rG_54
    · subst h9; exact Zw.rG_55
    · subst h9; exact Zw.rG_56
    · subst h9; exact Zw.rG_57
    · subst h9; exact Zw.rG_58
    · subst h9; exact Zw.rG_59
    · subst h9; exact Zw.rG_60
theorem Zw.rB {j k : Nat} (hj : j < 60) (hk : k < 4) : Zw.LB j k = some Zw.p0 := by
  obtain ⟨a, b, rfl, ha, hb⟩ : ∃ a b, j = 15 * a + b ∧ a < 4 ∧ b < 15 := ⟨j / 15, j % 15, by omega, by omega, by omega⟩
  rcases (show k = 0 ∨ k = 1 ∨ k = 2 ∨ k = 3 by omega) with rfl | rfl | rfl | rfl <;> rcases (show a = 0 ∨ a = 1 ∨ a = 2 ∨ a = 3 by omega) with rfl | rfl | rfl | rfl
  · exact Zw.rep Zw.rB_0_0 b hb
  · exact Zw.rep Zw.rB_0_1 b hb
  · exact Zw.rep Zw.rB_0_2 b hb
  · exact Zw.rep Zw.rB_0_3 b hb
  · exact Zw.rep Zw.rB_1_0 b hb
  · exact Zw.rep Zw.rB_1_1 b hb
  · exact Zw.rep Zw.rB_1_2 b hb
  · exact Zw.rep Zw.rB_1_3 b hb
  · exact Zw.rep Zw.rB_2_0 b hb
  · exact Zw.rep Zw.rB_2_1 b hb
  · exact Zw.rep Zw.rB_2_2 b hb
  · exact Zw.rep Zw.rB_2_3 b hb
  · exact Zw.rep Zw.rB_3_0 b hb
  · exact Zw.rep Zw.rB_3_1 b hb
  · exact Zw.rep Zw.rB_3_2 b hb
  · exact Zw.rep Zw.rB_3_3 b hb
theorem Zw.rM {m : Bool} {k : Nat} (hk : k < 5) : Zw.LM m k = some Zw.p0 := by
  cases m
  · exact Zw.rep Zw.rMfalse k hk
  · exact Zw.rep Zw.rMtrue k hk
theorem Zw.rP {L K : Nat} (hL : L < 61) (hK : K < L) : Zw.LP L K = some Zw.p2 := by
  rcases (show L = 0 ∨ L = 1 ∨ L = 2 ∨ L = 3 ∨ L = 4 ∨ L = 5 ∨ L = 6 ∨ L = 7 ∨ L = 8 ∨ L = 9 ∨ L = 10 ∨ L = 11 ∨ L = 12 ∨ L = 13 ∨ L = 14 ∨ L = 15 ∨ L = 16 ∨ L = 17 ∨ L = 18 ∨ L = 19 ∨ L = 20 ∨ L = 21 ∨ L = 22 ∨ L = 23 ∨ L = 24 ∨ L = 25 ∨ L = 26 ∨ L = 27 ∨ L = 28 ∨ L = 29 ∨ L = 30 ∨ L = 31 ∨ L = 32 ∨ L = 33 ∨ L = 34 ∨ L = 35 ∨ L = 36 ∨ L = 37 ∨ L = 38 ∨ L = 39 ∨ L = 40 ∨ L = 41 ∨ L = 42 ∨ L = 43 ∨ L = 44 ∨ L = 45 ∨ L = 46 ∨ L = 47 ∨ L = 48 ∨ L = 49 ∨ L = 50 ∨ L = 51 ∨ L = 52 ∨ L = 53 ∨ L = 54 ∨ L = 55 ∨ L = 56 ∨ L = 57 ∨ L = 58 ∨ L = 59 ∨ L = 60 by omega) with h9 | h9 | h9 | h9 | h9 | h9 | h9 | h9 | h9 | h9 | h9 | h9 | h9 | h9 | h9 | h9 | h9 | h9 | h9 | h9 | h9 | h9 | h9 | h9 | h9 | h9 | h9 | h9 | h9 | h9 | h9 | h9 | h9 | h9 | h9 | h9 | h9 | h9 | h9 | h9 | h9 | h9 | h9 | h9 | h9 | h9 | h9 | h9 | h9 | h9 | h9 | h9 | h9 | h9 | h9 | h9 | h9 | h9 | h9 | h9 | h9
  · subst h9; omega
  · subst h9; exact Zw.rep Zw.rP_1 K hK
  · subst h9; exact Zw.rep Zw.rP_2 K hK
  · subst h9; exact Zw.rep Zw.rP_3 K hK
  · subst h9; exact Zw.rep Zw.rP_4 K hK
  · subst h9; exact Zw.rep Zw.rP_5 K hK
  · subst h9; exact Zw.rep Zw.rP_6 K hK
  · subst h9; exact Zw.rep Zw.rP_7 K hK
  · subst h9; exact Zw.rep Zw.rP_8 K hK
  · subst h9; exact Zw.rep Zw.rP_9 K hK
  · subst h9; exact Zw.rep Zw.rP_10 K hK
  · subst h9; exact Zw.rep Zw.rP_11 K hK
  · subst h9; exact Zw.rep Zw.rP_12 K hK
  · subst h9; exact Zw.rep Zw.rP_13 K hK
  · subst h9; exact Zw.rep Zw.rP_14 K hK
  · subst h9; exact Zw.rep Zw.rP_15 K hK
  · subst h9; exact Zw.rep Zw.rP_16 K hK
  · subst h9; exact Zw.rep Zw.rP_17 K hK
  · subst h9; exact Zw.rep Zw.rP_18 K hK
  · subst h9; exact Zw.rep Zw.rP_19 K hK
  · subst h9; exact Zw.rep Zw.rP_20 K hK
  · subst h9; exact Zw.rep Zw.rP_21 K hK
  · subst h9; exact Zw.rep Zw.rP_22 K hK
  · subst h9; exact Zw.rep Zw.rP_23 K hK
  · subst h9; exact Zw.rep Zw.rP_24 K hK
  · subst h9; exact Zw.rep Zw.rP_25 K hK
  · subst h9; exact Zw.rep Zw.rP_26 K hK
  · subst h9; exact Zw.rep Zw.rP_27 K hK
  · subst h9; exact Zw.rep Zw.rP_28 K hK
  · subst h9; exact Zw.rep Zw.rP_29 K hK
  · subst h9; exact Zw.rep Zw.rP_30 K hK
  · subst h9; exact Zw.rep Zw.rP_31 K hK
  · subst h9; exact Zw.rep Zw.rP_32 K hK
  · subst h9; exact Zw.rep Zw.rP_33 K hK
  · subst h9; exact Zw.rep Zw.rP_34 K hK
  · subst h9; exact Zw.rep Zw.rP_35 K hK
  · subst h9; exact Zw.rep Zw.rP_36 K hK
  · subst h9; exact Zw.rep Zw.rP_37 K hK
  · subst h9; exact Zw.rep Zw.rP_38 K hK
  · subst h9; exact Zw.rep Zw.rP_39 K hK
  · subst h9; exact Zw.rep Zw.rP_40 K hK
  · subst h9; exact Zw.rep Zw.rP_41 K hK
  · subst h9; exact Zw.rep Zw.rP_42 K hK
  · subst h9; exact Zw.rep Zw.rP_43 K hK
  · subst h9; exact Zw.rep Zw.rP_44 K hK
  · subst h9; exact Zw.rep Zw.rP_45 K hK
  · subst h9; exact Zw.rep Zw.rP_46 K hK
  · subst h9; exact Zw.rep Zw.rP_47 K hK
  · subst h9; exact Zw.rep Zw.rP_48 K hK
  · subst h9; exact Zw.rep Zw.rP_49 K hK
  · subst h9; exact Zw.rep Zw.rP_50 K hK
  · subst h9; exact Zw.rep Zw.rP_51 K hK
  · subst h9; exact Zw.rep Zw.rP_52 K hK
  · subst h9; exact Zw.rep Zw.rP_53 K hK
  · subst h9; exact Zw.rep Zw.rP_54 K hK
  · subst h9; exact Zw.rep Zw.rP_55 K hK
  · subst h9; exact Zw.rep Zw.rP_56 K hK
  · subst h9; exact Zw.rep Zw.rP_57 K hK
  · subst h9; exact Zw.rep Zw.rP_58 K hK
  · subst h9; exact Zw.rep Zw.rP_59 K hK
  · subst h9; exact Zw.rep Zw.rP_60 K hK
theorem Zw.iP {L K : Nat} (hL : L < 61) (hK : K < L) : Zw.hN L false (Zw.roP L K) = true := by
  rcases (show L = 0 ∨ L = 1 ∨ L = 2 ∨ L = 3 ∨ L = 4 ∨ L = 5 ∨ L = 6 ∨ L = 7 ∨ L = 8 ∨ L = 9 ∨ L = 10 ∨ L = 11 ∨ L = 12 ∨ L = 13 ∨ L = 14 ∨ L = 15 ∨ L = 16 ∨ L = 17 ∨ L = 18 ∨ L = 19 ∨ L = 20 ∨ L = 21 ∨ L = 22 ∨ L = 23 ∨ L = 24 ∨ L = 25 ∨ L = 26 ∨ L = 27 ∨ L = 28 ∨ L = 29 ∨ L = 30 ∨ L = 31 ∨ L = 32 ∨ L = 33 ∨ L = 34 ∨ L = 35 ∨ L = 36 ∨ L = 37 ∨ L = 38 ∨ L = 39 ∨ L = 40 ∨ L = 41 ∨ L = 42 ∨ L = 43 ∨ L = 44 ∨ L = 45 ∨ L = 46 ∨ L = 47 ∨ L = 48 ∨ L = 49 ∨ L = 50 ∨ L = 51 ∨ L = 52 ∨ L = 53 ∨ L = 54 ∨ L = 55 ∨ L = 56 ∨ L = 57 ∨ L = 58 ∨ L = 59 ∨ L = 60 by omega) with h9 | h9 | h9 | h9 | h9 | h9 | h9 | h9 | h9 | h9 | h9 | h9 | h9 | h9 | h9 | h9 | h9 | h9 | h9 | h9 | h9 | h9 | h9 | h9 | h9 | h9 | h9 | h9 | h9 | h9 | h9 | h9 | h9 | h9 | h9 | h9 | h9 | h9 | h9 | h9 | h9 | h9 | h9 | h9 | h9 | h9 | h9 | h9 | h9 | h9 | h9 | h9 | h9 | h9 | h9 | h9 | h9 | h9 | h9 | h9 | h9
  · subst h9; omega
  · subst h9; exact Zw.al_get Zw.iP_1 K hK
  · subst h9; exact Zw.al_get Zw.iP_2 K hK
  · subst h9; exact Zw.al_get Zw.iP_3 K hK
  · subst h9; exact Zw.al_get Zw.iP_4 K hK
  · subst h9; exact Zw.al_get Zw.iP_5 K hK
  · subst h9; exact Zw.al_get Zw.iP_6 K hK
  · subst h9; exact Zw.al_get Zw.iP_7 K hK
  · subst h9; exact Zw.al_get Zw.iP_8 K hK
  · subst h9; exact Zw.al_get Zw.iP_9 K hK
  · subst h9; exact Zw.al_get Zw.iP_10 K hK
  · subst h9; exact Zw.al_get Zw.iP_11 K hK
  · subst h9; exact Zw.al_get Zw.iP_12 K hK
  · subst h9; exact Zw.al_get Zw.iP_13 K hK
  · subst h9; exact Zw.al_get Zw.iP_14 K hK
  · subst h9; exact Zw.al_get Zw.iP_15 K hK
  · subst h9; exact Zw.al_get Zw.iP_16 K hK
  · subst h9; exact Zw.al_get Zw.iP_17 K hK
  · subst h9; exact Zw.al_get Zw.iP_18 K hK
  · subst h9; exact Zw.al_get Zw.iP_19 K hK
  · subst h9; exact Zw.al_get Zw.iP_20 K hK
  · subst h9; exact Zw.al_get Zw.iP_21 K hK
  · subst h9; exact Zw.al_get Zw.iP_22 K hK
  · subst h9; exact Zw.al_get Zw.iP_23 K hK
  · subst h9; exact Zw.al_get Zw.iP_24 K hK
  · subst h9; exact Zw.al_get Zw.iP_25 K hK
  · subst h9; exact Zw.al_get Zw.iP_26 K hK
  · subst h9; exact Zw.al_get Zw.iP_27 K hK
  · subst h9; exact Zw.al_get Zw.iP_28 K hK
  · subst h9; exact Zw.al_get Zw.iP_29 K hK
  · subst h9; exact Zw.al_get Zw.iP_30 K hK
  · subst h9; exact Zw.al_get Zw.iP_31 K hK
  · subst h9; exact Zw.al_get Zw.iP_32 K hK
  · subst h9; exact Zw.al_get Zw.iP_33 K hK
  · subst h9; exact Zw.al_get Zw.iP_34 K hK
  · subst h9; exact Zw.al_get Zw.iP_35 K hK
  · subst h9; exact Zw.al_get Zw.iP_36 K hK
  · subst h9; exact Zw.al_get Zw.iP_37 K hK
  · subst h9; exact Zw.al_get Zw.iP_38 K hK
  · subst h9; exact Zw.al_get Zw.iP_39 K hK
  · subst h9; exact Zw.al_get Zw.iP_40 K hK
  · subst h9; exact Zw.al_get Zw.iP_41 K hK
  · subst h9; exact Zw.al_get Zw.iP_42 K hK
  · subst h9; exact Zw.al_get Zw.iP_43 K hK
  · subst h9; exact Zw.al_get Zw.iP_44 K hK
  · subst h9; exact Zw.al_get Zw.iP_45 K hK
  · subst h9; exact Zw.al_get Zw.iP_46 K hK
  · subst h9; exact Zw.al_get Zw.iP_47 K hK
  · subst h9; exact Zw.al_get Zw.iP_48 K hK
  · subst h9; exact Zw.al_get Zw.iP_49 K hK
  · subst h9; exact Zw.al_get Zw.iP_50 K hK
  · subst h9; exact Zw.al_get Zw.iP_51 K hK
  · subst h9; exact Zw.al_get Zw.iP_52 K hK
  · subst h9; exact Zw.al_get Zw.iP_53 K hK
  · subst h9; exact Zw.al_get Zw.iP_54 K hK
  · subst h9; exact Zw.al_get Zw.iP_55 K hK
  · subst h9; exact Zw.al_get Zw.iP_56 K hK
  · subst h9; exact Zw.al_get Zw.iP_57 K hK
  · subst h9; exact Zw.al_get Zw.iP_58 K hK
  · subst h9; exact Zw.al_get Zw.iP_59 K hK
  · subst h9; exact Zw.al_get Zw.iP_60 K hK
theorem Zw.rQ {L q : Nat} {n : Bool} (hL : L < 61) (hn : n = true → L = 0) (hq : q < 4) : Zw.LQ q L n = some Zw.p2 := by
  cases n with
  | true =>
    obtain rfl := hn rfl
    rcases (show q = 0 ∨ q = 1 ∨ q = 2 ∨ q = 3 by omega) with rfl | rfl | rfl | rfl
    · exact Zw.rQt_0
    · exact Zw.rQt_1
    · exact Zw.rQt_2
    · exact Zw.rQt_3
  | false =>
    rcases (show q = 0 ∨ q = 1 ∨ q = 2 ∨ q = 3 by omega) with rfl | rfl | rfl | rfl
    · exact Zw.rep Zw.rQ_0 L hL
    · exact Zw.rep Zw.rQ_1 L hL
    · exact Zw.rep Zw.rQ_2 L hL
    · exact Zw.rep Zw.rQ_3 L hL
theorem Zw.iQ' {L : Nat} {n : Bool} (hL : L < 61) (hn : n = true → L = 0) : Zw.hN L n (Zw.roQ L) = true := by
  cases n with
  | true => obtain rfl := hn rfl; exact Zw.iQt
  | false => exact Zw.al_get Zw.iQ L hL
theorem Zw.iX' {L : Nat} {n : Bool} (hL : L < 61) (hn : n = true → L = 0) : Zw.hN L n [] = true := by
  cases n with
  | true => obtain rfl := hn rfl; exact Zw.iXt
  | false => exact Zw.al_get Zw.iX L hL
theorem Zw.rX {L : Nat} {n : Bool} (hL : L < 61) (hn : n = true → L = 0) (e : Bool) : Zw.fX L n e = true := by
  cases n with
  | true =>
    obtain rfl := hn rfl
    cases e
    · exact Zw.rXtfalse
    · exact Zw.rXttrue
  | false =>
    cases e
    · exact Zw.al_get Zw.rXfalse L hL
    · exact Zw.al_get Zw.rXtrue L hL
theorem Zw.iM {m : Bool} : Zw.hM m [[ch 1004, ch 1005, ch 1006]] = true := by
  cases m
  · exact Zw.iM2
  · exact Zw.iM1
/-- The records' cells. -/
def Zw.rc (kk tt vv : Nat → Int) : Nat → List Value
  | 0 => []
  | n + 1 => Zw.rc kk tt vv n ++ [.int .i64 (kk n), .int .i64 (tt n), .int .i64 (vv n)]
theorem Zw.rc_len (kk tt vv : Nat → Int) : ∀ n, (Zw.rc kk tt vv n).length = 3 * n
  | 0 => rfl
  | n + 1 => by simp only [Zw.rc, List.length_append, Zw.rc_len kk tt vv n, List.length_cons, List.length_nil]; omega
theorem Zw.rc_get (kk tt vv : Nat → Int) : ∀ n j, j < n → (Zw.rc kk tt vv n)[3 * j]? = some (.int .i64 (kk j)) ∧ (Zw.rc kk tt vv n)[3 * j + 1]? = some (.int .i64 (tt j)) ∧ (Zw.rc kk tt vv n)[3 * j + 2]? = some (.int .i64 (vv j))
  | 0, j, h => absurd h (Nat.not_lt_zero _)
  | n + 1, j, h => by
    have hl := Zw.rc_len kk tt vv n
    rcases Nat.lt_or_ge j n with h2 | h2
    · obtain ⟨g1, g2, g3⟩ := Zw.rc_get kk tt vv n j h2
      simp only [Zw.rc]
      rw [List.getElem?_append_left (by omega), List.getElem?_append_left (by omega), List.getElem?_append_left (by omega)]
      exact ⟨g1, g2, g3⟩
    · obtain rfl : j = n := by omega
      simp only [Zw.rc]
      rw [List.getElem?_append_right (by omega), List.getElem?_append_right (by omega), List.getElem?_append_right (by omega), hl]
      have e0 : 3 * j - 3 * j = 0 := by omega
      have e1 : 3 * j + 1 - 3 * j = 1 := by omega
      have e2 : 3 * j + 2 - 3 * j = 2 := by omega
      rw [e0, e1, e2]
      exact ⟨rfl, rfl, rfl⟩
theorem Zw.rc_one (kk tt vv : Nat → Int) : ∀ n, (Zw.rc kk tt vv n).all (·.oneCell') = true
  | 0 => rfl
  | n + 1 => by simp only [Zw.rc, List.all_append, Zw.rc_one kk tt vv n]; rfl
theorem Zw.at_ {ng : Nat} {rows : List Pl} {vals : List Value} {v k : Nat} (h : v = 1000 + k) : (nodeMu ng rows vals).at_ v = vals[k]? := by
  subst h
  show atomsOf vals (1000 + k) = _
  unfold atomsOf
  rw [if_pos (by omega)]
  congr 1; omega
theorem Zw.atX {ng : Nat} {rows : List Pl} {vals ex : List Value} {v t : Nat} (h : v = 1000 + vals.length + t) : (nodeMu ng rows (vals ++ ex)).at_ v = ex[t]? := by
  rw [Zw.at_ (k := vals.length + t) (by omega), List.getElem?_append_right (by omega)]
  congr 1; omega
theorem Zw.atC {ng : Nat} {rows : List Pl} {p ex : List Value} {kk tt vv : Nat → Int} {L v i : Nat} (hv : v = 1000 + p.length + i) (hi : i < 3 * L) : (nodeMu ng rows ((p ++ Zw.rc kk tt vv L) ++ ex)).at_ v = (Zw.rc kk tt vv L)[i]? := by
  have hl := Zw.rc_len kk tt vv L
  rw [Zw.at_ (k := p.length + i) (by omega), List.getElem?_append_left (by simp only [List.length_append]; omega), List.getElem?_append_right (by omega)]
  congr 1; omega
theorem Zw.ev_app {m : Mu} {vb : List Value} : ∀ {a va b : List Value}, evL m a = some va → evL m b = some vb → evL m (a ++ b) = some (va ++ vb)
  | [], va, b, h1, h2 => by cases h1; exact h2
  | u :: a, va, b, h1, h2 => by
    simp only [evL] at h1
    cases hu : evM m u with
    | none => rw [hu] at h1; cases h1
    | some x =>
      rw [hu] at h1
      cases hr : evL m a with
      | none => rw [hr] at h1; cases h1
      | some r =>
        rw [hr] at h1; cases h1
        show evL m (u :: (a ++ b)) = _
        simp only [evL, hu, Zw.ev_app hr h2]
        rfl
theorem Zw.ev_chR {m : Mu} : ∀ (l : List Value) (s : Nat), (∀ i x, l[i]? = some x → m.at_ (s + i) = some x) → evL m (Zw.chR s l.length) = some l
  | [], s, _ => rfl
  | x :: l, s, h => by
    have h0 := h 0 x rfl
    have ih := Zw.ev_chR l (s + 1) fun i y hy => by have := h (i + 1) y hy; rw [show s + 1 + i = s + (i + 1) by omega]; exact this
    have he : Zw.chR s (x :: l).length = ch s :: Zw.chR (s + 1) l.length := by
      unfold Zw.chR
      simp only [List.length_cons, List.range'_succ, List.map_cons]
    rw [he]
    simp only [evL, evM]
    rw [show m.at_ s = some x from h0, ih]
theorem Zw.ah_app {m : Mu} {b : List SE} : ∀ {a : List SE}, AllHold m a → AllHold m b → AllHold m (a ++ b)
  | [], _, h2 => h2
  | _ :: _, h1, h2 => ⟨h1.1, Zw.ah_app h1.2 h2⟩
theorem Zw.hG {m : Mu} {a : Nat} {x c : Int} (h : m.at_ a = some (.int .i64 x)) (q : c ≤ x) : SymHolds m (.bin .geq) (ch a) (.int .i64 c) (.bool true) := hold_bool (.atom _ _ h) (.int _ _) (op_geq_t q)
theorem Zw.hGf {m : Mu} {a : Nat} {x c : Int} (h : m.at_ a = some (.int .i64 x)) (q : x < c) : SymHolds m (.bin .geq) (ch a) (.int .i64 c) (.bool false) := hold_bool (.atom _ _ h) (.int _ _) (op_geq_f q)
theorem Zw.hL {m : Mu} {a : Nat} {x c : Int} (h : m.at_ a = some (.int .i64 x)) (q : x < c) : SymHolds m (.bin .lss) (ch a) (.int .i64 c) (.bool true) := hold_bool (.atom _ _ h) (.int _ _) (op_lss_t q)
theorem Zw.hLf {m : Mu} {a : Nat} {x c : Int} (h : m.at_ a = some (.int .i64 x)) (q : c ≤ x) : SymHolds m (.bin .lss) (ch a) (.int .i64 c) (.bool false) := hold_bool (.atom _ _ h) (.int _ _) (op_lss_f q)
theorem Zw.hE {m : Mu} {a : Nat} {x : Int} (h : m.at_ a = some (.int .i64 x)) : SymHolds m (.bin .eql) (ch a) (ch a) (.bool true) := hold_bool (.atom _ _ h) (.atom _ _ h) (op_eql_t rfl)

theorem Zw.atE {ng : Nat} {rows : List Pl} {a b w : List Value} {v i : Nat} (hv : v = 1000 + a.length + b.length + i) : (nodeMu ng rows (a ++ (b ++ w))).at_ v = w[i]? := by
  rw [Zw.at_ (k := a.length + (b.length + i)) (by omega), List.getElem?_append_right (by omega), List.getElem?_append_right (by omega)]
  congr 1; omega
theorem Zw.least {p : Nat → Prop} : ∀ n, (∀ j, j < n → p j) ∨ ∃ j, j < n ∧ ¬ p j ∧ ∀ i, i < j → p i
  | 0 => .inl fun j h => absurd h (Nat.not_lt_zero _)
  | n + 1 => by
    rcases Zw.least n with h | ⟨j, h1, h2, h3⟩
    · by_cases hp : p n
      · exact .inl fun j hj => by
          rcases Nat.lt_or_ge j n with h4 | h4
          · exact h j h4
          · obtain rfl : j = n := by omega
            exact hp
      · exact .inr ⟨n, by omega, hp, h⟩
    · exact .inr ⟨j, by omega, h2, h3⟩
/-- A record that may be. -/
def Zw.ok (kk tt : Nat → Int) (j : Nat) : Prop := 0 ≤ kk j ∧ kk j < 8 ∧ 0 ≤ tt j ∧ tt j < 4
theorem Zw.okHold {m : Mu} {b : Nat} {kk tt : Nat → Int} {j : Nat} (x0 : m.at_ b = some (.int .i64 (kk j))) (x1 : m.at_ (b + 1) = some (.int .i64 (tt j))) (h : Zw.ok kk tt j) : AllHold m (Zw.rj 4 b) :=
  ⟨Zw.hG x0 h.1, Zw.hL x0 h.2.1, Zw.hG x1 h.2.2.1, Zw.hL x1 h.2.2.2, trivial⟩
theorem Zw.badHold {m : Mu} {b : Nat} {kk tt : Nat → Int} {j : Nat} (x0 : m.at_ b = some (.int .i64 (kk j))) (x1 : m.at_ (b + 1) = some (.int .i64 (tt j))) (h : ¬ Zw.ok kk tt j) : ∃ k, k < 4 ∧ AllHold m (Zw.rj k b) := by
  by_cases q3 : (0 : Int) ≤ kk j
  case neg => exact ⟨0, by omega, Zw.hGf x0 (Int.not_le.1 q3), trivial⟩
  by_cases q4 : kk j < (8 : Int)
  case neg => exact ⟨1, by omega, Zw.hG x0 q3, Zw.hLf x0 (Int.not_lt.1 q4), trivial⟩
  by_cases q5 : (0 : Int) ≤ tt j
  case neg => exact ⟨2, by omega, Zw.hG x0 q3, Zw.hL x0 q4, Zw.hGf x1 (Int.not_le.1 q5), trivial⟩
  by_cases q6 : tt j < (4 : Int)
  case neg => exact ⟨3, by omega, Zw.hG x0 q3, Zw.hL x0 q4, Zw.hG x1 q5, Zw.hLf x1 (Int.not_lt.1 q6), trivial⟩
  exact absurd ⟨q3, q4, q5, q6⟩ h

/-! the records that may not be: their loop -/
theorem Zw.nM {W : World} {a0 : Option Addr} {m0 c0 : Nat} {f0q0 : Nat → Int} {f0q1 : Nat → Int} {f0q2 : Nat → Int} {a1 : Option Addr} {m1 c1 : Nat} {f1q0 : Nat → Int} {f1q1 : Nat → Int} (h0 : SlcOk W a0 m0 c0 3 (fun i => [.int .i64 (f0q0 i), .int .i64 (f0q1 i), .int .i64 (f0q2 i)])) (b0 : (m0 : Int) < 9223372036854775808) (r0q0 : ∀ i, R64 (f0q0 i)) (r0q1 : ∀ i, R64 (f0q1 i)) (r0q2 : ∀ i, R64 (f0q2 i)) (h1 : SlcOk W a1 m1 c1 2 (fun i => [.int .i64 (f1q0 i), .int .i64 (f1q1 i)])) (b1 : (m1 : Int) < 9223372036854775808) (r1q0 : ∀ i, R64 (f1q0 i)) (r1q1 : ∀ i, R64 (f1q1 i)) {l : Nat} (hl : l ≤ m0) : ∀ (k : Nat) (m : Bool) (i : Nat), i ≤ l → l - i < k → (m = true → ∃ j, i ≤ j ∧ j < l ∧ ¬ Zw.ok f0q0 f0q1 j) →
    NdGood Tryz.prog Tryz.f3 8 Tryz.H0 W Zw.p0 (Zw.dM m) [.slice a0 l c0, .slice a1 m1 c1, .int .i64 (l : Int), .int .i64 (i : Int)]
  | 0, _, _, _, h, _ => absurd h (Nat.not_lt_zero _)
  | k + 1, m, i, hi, hk, hw => by
    by_cases q1 : i < l
    case neg =>
      have hm : m = false := by
        cases m with
        | false => rfl
        | true => obtain ⟨j, h2, h3, _⟩ := hw rfl; exact absurd h3 (by omega)
      subst hm
      exact Zw.fx [⟨.bin .lss, ch 1003, ch 1002, .bool false⟩] [] [] (fun sy => Zw.k0 Tryz.m4 sy) ⟨hold_bool (.atom _ _ rfl) (.atom _ _ rfl) (op_lss_f (show (l : Int) ≤ (i : Int) by omega)), trivial⟩ Zw.iM3 rfl rfl rowsHold_nil Zw.rMx
    case pos =>
    obtain ⟨p, v⟩ := h0.elem (show i < m0 by omega)
    obtain ⟨d, e, g, o⟩ := ex_add (i : Int) (1 : Int)
    obtain rfl : d = ((i + 1 : Nat) : Int) := by omega
    generalize hm : nodeMu 8 [p] ([.slice a0 l c0, .slice a1 m1 c1, .int .i64 (l : Int), .int .i64 (i : Int)] ++ [.int .i64 (f0q0 i), .int .i64 (f0q1 i), .int .i64 (f0q2 i), .int .i64 ((i + 1 : Nat) : Int)]) = mu
    have y0 : mu.at_ 1000 = some (.slice a0 l c0) := by rw [← hm]; rfl
    have y1 : mu.at_ 1001 = some (.slice a1 m1 c1) := by rw [← hm]; rfl
    have y2 : mu.at_ 1002 = some (.int .i64 (l : Int)) := by rw [← hm]; rfl
    have y3 : mu.at_ 1003 = some (.int .i64 (i : Int)) := by rw [← hm]; rfl
    have x0 : mu.at_ 1004 = some (.int .i64 (f0q0 i)) := by rw [← hm]; rfl
    have x1 : mu.at_ (1004 + 1) = some (.int .i64 (f0q1 i)) := by rw [← hm]; rfl
    have x2 : mu.at_ 1006 = some (.int .i64 (f0q2 i)) := by rw [← hm]; rfl
    have x3 : mu.at_ 1007 = some (.int .i64 ((i + 1 : Nat) : Int)) := by rw [← hm]; rfl
    have hp : mu.pl 8 = some p := by rw [← hm]; rfl
    have hrow : RowsHold W mu [p] [[ch 1004, ch 1005, ch 1006]] := rowsHold_cons (Elem.row v (VL.cons (.atom _ _ x0) (VL.cons (.atom _ _ x1) (VL.cons (.atom _ _ x2) VL.nil)))) rowsHold_nil
    have go : ∀ q, q < 5 → AllHold mu (Zw.rj q 1004) → (Zw.kM q m = true → ∃ j, i + 1 ≤ j ∧ j < l ∧ ¬ Zw.ok f0q0 f0q1 j) → NdGood Tryz.prog Tryz.f3 8 Tryz.H0 W Zw.p0 (Zw.dM m) [.slice a0 l c0, .slice a1 m1 c1, .int .i64 (l : Int), .int .i64 (i : Int)] := fun q hq hj hw' => by
      have hold : AllHold mu (Zw.tM q) := ⟨hold_bool (.atom _ _ y3) (.atom _ _ y2) (op_lss_t (show (i : Int) < (l : Int) by omega)), hold_idx v q1 (.atom _ _ y0) (.atom _ _ y3) rfl hp, hold_op (.atom _ _ y3) (.int _ _) o (.atom _ _ x3), hj⟩
      rw [← hm] at hold hrow
      refine Zw.nx (Zw.tM q) _ [p] (fun sy => Zw.k0 Tryz.m4 sy) hold Zw.iM hrow (Zw.rM (m := m) hq) (Zw.nM h0 b0 r0q0 r0q1 r0q2 h1 b1 r1q0 r1q1 hl k (Zw.kM q m) (i + 1) q1 (by omega) hw') rfl rfl ?_ rfl
      rw [hm]
      simp only [evL, evM, y0, y1, y2, x3]
    by_cases hok : Zw.ok f0q0 f0q1 i
    · refine go 4 (by omega) (Zw.okHold x0 x1 hok) fun ht => ?_
      obtain ⟨j, h2, h3, h4⟩ := hw ht
      refine ⟨j, ?_, h3, h4⟩
      rcases Nat.lt_or_ge i j with h5 | h5
      · exact h5
      · obtain rfl : j = i := by omega
        exact absurd hok h4
    · obtain ⟨q, hq, hj⟩ := Zw.badHold x0 x1 hok
      refine go q (by omega) hj fun ht => ?_
      rcases (show q = 0 ∨ q = 1 ∨ q = 2 ∨ q = 3 by omega) with rfl | rfl | rfl | rfl <;> cases ht

/-! the source's loop -/
theorem Zw.nX {W : World} {a0 : Option Addr} {m0 c0 : Nat} {f0q0 : Nat → Int} {f0q1 : Nat → Int} {f0q2 : Nat → Int} {a1 : Option Addr} {m1 c1 : Nat} {f1q0 : Nat → Int} {f1q1 : Nat → Int} (h0 : SlcOk W a0 m0 c0 3 (fun i => [.int .i64 (f0q0 i), .int .i64 (f0q1 i), .int .i64 (f0q2 i)])) (b0 : (m0 : Int) < 9223372036854775808) (r0q0 : ∀ i, R64 (f0q0 i)) (r0q1 : ∀ i, R64 (f0q1 i)) (r0q2 : ∀ i, R64 (f0q2 i)) (h1 : SlcOk W a1 m1 c1 2 (fun i => [.int .i64 (f1q0 i), .int .i64 (f1q1 i)])) (b1 : (m1 : Int) < 9223372036854775808) (r1q0 : ∀ i, R64 (f1q0 i)) (r1q1 : ∀ i, R64 (f1q1 i)) {L : Nat} {n : Bool} (hL : L < 61) (hn : n = true → L = 0) {i t : Nat} (q : Bool) (hq : (q = false ∧ (m1 : Int) ≤ (i : Int)) ∨ (q = true ∧ (i : Int) < (m1 : Int) ∧ 60 ≤ i)) :
    NdGood Tryz.prog Tryz.f3 8 Tryz.H0 W Zw.p2 (Zw.dN L n) ([.slice a0 L c0, .slice a1 m1 c1, .int .i64 (i : Int), .int .i64 (t : Int)] ++ Zw.rc f0q0 f0q1 f0q2 L) := by
  have hl := Zw.rc_len f0q0 f0q1 f0q2 L
  have hlen : 4 + 3 * L = ([Value.slice a0 L c0, .slice a1 m1 c1, .int .i64 (i : Int), .int .i64 (t : Int)] ++ Zw.rc f0q0 f0q1 f0q2 L).length := by simp only [List.length_append, List.length_cons, List.length_nil]; omega
  generalize hm : nodeMu 8 [] (([Value.slice a0 L c0, .slice a1 m1 c1, .int .i64 (i : Int), .int .i64 (t : Int)] ++ Zw.rc f0q0 f0q1 f0q2 L) ++ [.int .i64 (m1 : Int)]) = m
  have y1 : m.at_ 1001 = some (.slice a1 m1 c1) := by rw [← hm]; rfl
  have y2 : m.at_ 1002 = some (.int .i64 (i : Int)) := by rw [← hm]; rfl
  have x0 : m.at_ (1004 + 3 * L) = some (.int .i64 (m1 : Int)) := by rw [← hm, Zw.atX (t := 0) (by rw [← hlen]; omega)]; rfl
  have hold : AllHold m (Zw.tX L q) := by
    rcases hq with ⟨rfl, h2⟩ | ⟨rfl, h2, h3⟩
    · exact ⟨hold_len (.atom _ _ y1) (.atom _ _ x0), hold_bool (.atom _ _ y2) (.atom _ _ x0) (op_lss_f h2), trivial⟩
    · exact ⟨hold_len (.atom _ _ y1) (.atom _ _ x0), hold_bool (.atom _ _ y2) (.atom _ _ x0) (op_lss_t h2), Zw.hLf y2 (by omega), trivial⟩
  rw [← hm] at hold
  exact Zw.fx (Zw.tX L q) [.int .i64 (m1 : Int)] [] (fun sy => Zw.k2 Tryz.m4 sy) hold (Zw.iX' hL hn) hlen (by simp only [List.all_append, Zw.rc_one]; rfl) rowsHold_nil (Zw.rX hL hn q)

theorem Zw.nN {W : World} {a0 : Option Addr} {m0 c0 : Nat} {f0q0 : Nat → Int} {f0q1 : Nat → Int} {f0q2 : Nat → Int} {a1 : Option Addr} {m1 c1 : Nat} {f1q0 : Nat → Int} {f1q1 : Nat → Int} (h0 : SlcOk W a0 m0 c0 3 (fun i => [.int .i64 (f0q0 i), .int .i64 (f0q1 i), .int .i64 (f0q2 i)])) (b0 : (m0 : Int) < 9223372036854775808) (r0q0 : ∀ i, R64 (f0q0 i)) (r0q1 : ∀ i, R64 (f0q1 i)) (r0q2 : ∀ i, R64 (f0q2 i)) (h1 : SlcOk W a1 m1 c1 2 (fun i => [.int .i64 (f1q0 i), .int .i64 (f1q1 i)])) (b1 : (m1 : Int) < 9223372036854775808) (r1q0 : ∀ i, R64 (f1q0 i)) (r1q1 : ∀ i, R64 (f1q1 i)) {L : Nat} {n : Bool} (hL : L < 61) (hn : n = true → L = 0) (hm0 : L ≤ m0) : ∀ (k i t : Nat), i ≤ 60 → 60 - i < k → t ≤ L →
    NdGood Tryz.prog Tryz.f3 8 Tryz.H0 W Zw.p2 (Zw.dN L n) ([.slice a0 L c0, .slice a1 m1 c1, .int .i64 (i : Int), .int .i64 (t : Int)] ++ Zw.rc f0q0 f0q1 f0q2 L)
  | 0, _, _, _, h, _ => absurd h (Nat.not_lt_zero _)
  | k + 1, i, t, hi, hk, ht => by
    by_cases q1 : (i : Int) < (m1 : Int)
    case neg => exact Zw.nX h0 b0 r0q0 r0q1 r0q2 h1 b1 r1q0 r1q1 hL hn false (.inl ⟨rfl, Int.not_lt.1 q1⟩)
    case pos =>
    rcases Nat.lt_or_ge i 60 with h60 | h60
    case inr => exact Zw.nX h0 b0 r0q0 r0q1 r0q2 h1 b1 r1q0 r1q1 hL hn true (.inr ⟨rfl, q1, h60⟩)
    case inl =>
    have hl := Zw.rc_len f0q0 f0q1 f0q2 L
    have hlen : 4 + 3 * L = ([Value.slice a0 L c0, .slice a1 m1 c1, .int .i64 (i : Int), .int .i64 (t : Int)] ++ Zw.rc f0q0 f0q1 f0q2 L).length := by simp only [List.length_append, List.length_cons, List.length_nil]; omega
    have lt : i < m1 := by omega
    obtain ⟨p8, v8⟩ := h1.elem lt
    obtain ⟨d1, e1, g1, o1⟩ := ex_add (i : Int) (1 : Int)
    obtain rfl : d1 = ((i + 1 : Nat) : Int) := by omega
    obtain ⟨d2, e2, g2, o2⟩ := ex_add (t : Int) (1 : Int)
    obtain rfl : d2 = ((t + 1 : Nat) : Int) := by omega
    obtain ⟨d3, e3, g3, o3⟩ := ex_sub ((t + 1 : Nat) : Int) (1 : Int)
    obtain rfl : d3 = (t : Int) := by omega
    have next := Zw.nN h0 b0 r0q0 r0q1 r0q2 h1 b1 r1q0 r1q1 hL hn hm0 k (i + 1)
    have hone : (([Value.slice a0 L c0, .slice a1 m1 c1, .int .i64 (i : Int), .int .i64 (t : Int)] ++ Zw.rc f0q0 f0q1 f0q2 L) ++ [Value.int .i64 (f1q0 i), .int .i64 (f1q1 i), .int .i64 (m1 : Int), .int .i64 ((i + 1 : Nat) : Int), .int .i64 ((t + 1 : Nat) : Int), .int .i64 (t : Int)]).all (·.oneCell') = true := by
      simp only [List.all_append, Zw.rc_one]; rfl
    have facts : ∀ (rs : List Pl) (m : Mu), nodeMu 8 (p8 :: rs) (([Value.slice a0 L c0, .slice a1 m1 c1, .int .i64 (i : Int), .int .i64 (t : Int)] ++ Zw.rc f0q0 f0q1 f0q2 L) ++ [Value.int .i64 (f1q0 i), .int .i64 (f1q1 i), .int .i64 (m1 : Int), .int .i64 ((i + 1 : Nat) : Int), .int .i64 ((t + 1 : Nat) : Int), .int .i64 (t : Int)]) = m →
        m.at_ 1000 = some (.slice a0 L c0) ∧ m.at_ 1001 = some (.slice a1 m1 c1) ∧ m.at_ 1002 = some (.int .i64 (i : Int)) ∧ m.at_ 1003 = some (.int .i64 (t : Int)) ∧
        m.at_ (1004 + 3 * L) = some (.int .i64 (f1q0 i)) ∧ m.at_ (1004 + 3 * L + 1) = some (.int .i64 (f1q1 i)) ∧ m.at_ (1004 + 3 * L + 3) = some (.int .i64 ((i + 1 : Nat) : Int)) ∧ m.at_ (1004 + 3 * L + 4) = some (.int .i64 ((t + 1 : Nat) : Int)) ∧ m.at_ (1004 + 3 * L + 5) = some (.int .i64 (t : Int)) ∧
        (∀ j x, (Zw.rc f0q0 f0q1 f0q2 L)[j]? = some x → m.at_ (1004 + j) = some x) ∧ AllHold m (Zw.cN L (1004 + 3 * L)) ∧ RowHold W m p8 [ch (1004 + 3 * L), ch (1004 + 3 * L + 1)] := fun rs m hm => by
      have y0 : m.at_ 1000 = some (.slice a0 L c0) := by rw [← hm]; rfl
      have y1 : m.at_ 1001 = some (.slice a1 m1 c1) := by rw [← hm]; rfl
      have y2 : m.at_ 1002 = some (.int .i64 (i : Int)) := by rw [← hm]; rfl
      have y3 : m.at_ 1003 = some (.int .i64 (t : Int)) := by rw [← hm]; rfl
      have x0 : m.at_ (1004 + 3 * L) = some (.int .i64 (f1q0 i)) := by rw [← hm, Zw.atX (t := 0) (by rw [← hlen]; omega)]; rfl
      have x1 : m.at_ (1004 + 3 * L + 1) = some (.int .i64 (f1q1 i)) := by rw [← hm, Zw.atX (t := 1) (by rw [← hlen]; omega)]; rfl
      have x2 : m.at_ (1004 + 3 * L + 2) = some (.int .i64 (m1 : Int)) := by rw [← hm, Zw.atX (t := 2) (by rw [← hlen]; omega)]; rfl
      have x3 : m.at_ (1004 + 3 * L + 3) = some (.int .i64 ((i + 1 : Nat) : Int)) := by rw [← hm, Zw.atX (t := 3) (by rw [← hlen]; omega)]; rfl
      have x4 : m.at_ (1004 + 3 * L + 4) = some (.int .i64 ((t + 1 : Nat) : Int)) := by rw [← hm, Zw.atX (t := 4) (by rw [← hlen]; omega)]; rfl
      have x5 : m.at_ (1004 + 3 * L + 5) = some (.int .i64 (t : Int)) := by rw [← hm, Zw.atX (t := 5) (by rw [← hlen]; omega)]; rfl
      have hp : m.pl 8 = some p8 := by rw [← hm]; rfl
      refine ⟨y0, y1, y2, y3, x0, x1, x3, x4, x5, fun j x hx => ?_, ?_, Elem.row v8 (VL.cons (.atom _ _ x0) (VL.cons (.atom _ _ x1) VL.nil))⟩
      · have hj : j < 3 * L := by have := (List.getElem?_eq_some_iff.1 hx).1; omega
        rw [← hm, Zw.atC (i := j) (by simp only [List.length_cons, List.length_nil]) hj]; exact hx
      · exact ⟨hold_len (.atom _ _ y1) (.atom _ _ x2), hold_bool (.atom _ _ y2) (.atom _ _ x2) (op_lss_t q1), Zw.hL y2 (by omega), hold_idx v8 lt (.atom _ _ y1) (.atom _ _ y2) rfl hp, hold_len (.atom _ _ y0) (.int _ _), hold_op (.atom _ _ y2) (.int _ _) o1 (.atom _ _ x3), trivial⟩
    have evs : ∀ (m : Mu) (t' u : Nat), m.at_ 1000 = some (.slice a0 L c0) → m.at_ 1001 = some (.slice a1 m1 c1) → m.at_ (1004 + 3 * L + 3) = some (.int .i64 ((i + 1 : Nat) : Int)) → m.at_ u = some (.int .i64 (t' : Int)) → (∀ j x, (Zw.rc f0q0 f0q1 f0q2 L)[j]? = some x → m.at_ (1004 + j) = some x) →
        evL m ([ch 1000, ch 1001, ch (1004 + 3 * L + 3), ch u] ++ Zw.chR 1004 (3 * L)) = some ([.slice a0 L c0, .slice a1 m1 c1, .int .i64 ((i + 1 : Nat) : Int), .int .i64 (t' : Int)] ++ Zw.rc f0q0 f0q1 f0q2 L) := fun m t' u y0 y1 x3 hu cell => by
      refine Zw.ev_app (va := [.slice a0 L c0, .slice a1 m1 c1, .int .i64 ((i + 1 : Nat) : Int), .int .i64 (t' : Int)]) (by simp only [evL, evM, y0, y1, x3, hu]) ?_
      have := Zw.ev_chR (m := m) (Zw.rc f0q0 f0q1 f0q2 L) 1004 cell
      rw [hl] at this
      exact this
    have sayQ : ∀ (q t' : Nat), q < 4 → t' ≤ L → (∀ m : Mu, m.at_ 1003 = some (.int .i64 (t : Int)) → m.at_ (1004 + 3 * L) = some (.int .i64 (f1q0 i)) → m.at_ (1004 + 3 * L + 1) = some (.int .i64 (f1q1 i)) → AllHold m (Zw.cN L (1004 + 3 * L)) → AllHold m (Zw.tQ L q) ∧ ∃ u, Zw.atQ L q = ch u ∧ m.at_ u = some (.int .i64 (t' : Int))) →
        NdGood Tryz.prog Tryz.f3 8 Tryz.H0 W Zw.p2 (Zw.dN L n) ([.slice a0 L c0, .slice a1 m1 c1, .int .i64 (i : Int), .int .i64 (t : Int)] ++ Zw.rc f0q0 f0q1 f0q2 L) := fun q t' hq ht' hf => by
      obtain ⟨m, hm⟩ : ∃ m, nodeMu 8 (p8 :: []) (([Value.slice a0 L c0, .slice a1 m1 c1, .int .i64 (i : Int), .int .i64 (t : Int)] ++ Zw.rc f0q0 f0q1 f0q2 L) ++ [Value.int .i64 (f1q0 i), .int .i64 (f1q1 i), .int .i64 (m1 : Int), .int .i64 ((i + 1 : Nat) : Int), .int .i64 ((t + 1 : Nat) : Int), .int .i64 (t : Int)]) = m := ⟨_, rfl⟩
      obtain ⟨y0, y1, y2, y3, x0, x1, x3, x4, x5, cell, hc, hr8⟩ := facts [] m hm
      obtain ⟨hold, u, hu, au⟩ := hf m y3 x0 x1 hc
      have hr := Zw.rQ (q := q) hL hn hq
      unfold Zw.LQ at hr
      rw [hu] at hr
      have hrow : RowsHold W m [p8] (Zw.roQ L) := rowsHold_cons hr8 rowsHold_nil
      rw [← hm] at hold hrow
      exact Zw.nx (Zw.tQ L q) _ [p8] (fun sy => Zw.k2 Tryz.m4 sy) hold (Zw.iQ' hL hn) hrow hr (next t' h60 (by omega) ht') hlen hone (by rw [hm]; exact evs m t' u y0 y1 x3 au cell) (by simp only [List.all_append, Zw.rc_one]; rfl)
    by_cases q2 : f1q0 i = 0
    · -- the next record
      rcases Nat.lt_or_ge t L with h2 | h2
      · have hn' : n = false := by
          cases n with
          | false => rfl
          | true => exact absurd (hn rfl) (by omega)
        subst hn'
        obtain ⟨p9, v9⟩ := h0.elem (show t < m0 by omega)
        obtain ⟨m, hm⟩ : ∃ m, nodeMu 8 (p8 :: [p9]) (([Value.slice a0 L c0, .slice a1 m1 c1, .int .i64 (i : Int), .int .i64 (t : Int)] ++ Zw.rc f0q0 f0q1 f0q2 L) ++ [Value.int .i64 (f1q0 i), .int .i64 (f1q1 i), .int .i64 (m1 : Int), .int .i64 ((i + 1 : Nat) : Int), .int .i64 ((t + 1 : Nat) : Int), .int .i64 (t : Int)]) = m := ⟨_, rfl⟩
        obtain ⟨y0, y1, y2, y3, x0, x1, x3, x4, x5, cell, hc, hr8⟩ := facts [p9] m hm
        obtain ⟨k0, k1, k2⟩ := Zw.rc_get f0q0 f0q1 f0q2 L t h2
        have w0 : m.at_ (1004 + 3 * t) = some (.int .i64 (f0q0 t)) := cell _ _ k0
        have w1 : m.at_ (1004 + 3 * t + 1) = some (.int .i64 (f0q1 t)) := cell _ _ k1
        have w2 : m.at_ (1004 + 3 * t + 2) = some (.int .i64 (f0q2 t)) := cell _ _ k2
        have hp9 : m.pl 9 = some p9 := by rw [← hm]; rfl
        have hold : AllHold m (Zw.tP L t) := by
          refine Zw.ah_app (a := Zw.cN L (1004 + 3 * L)) hc ?_
          exact ⟨hold_bool (.atom _ _ x0) (.int _ _) (op_eql_t q2), Zw.hGf y3 (show (t : Int) < Int.ofNat L by simp only [Int.ofNat_eq_natCast]; omega), hold_op (.atom _ _ y3) (.int _ _) o2 (.atom _ _ x4), hold_op (.atom _ _ x4) (.int _ _) o3 (.atom _ _ x5),
            hold_fix (.atom _ _ x5) rfl, Zw.hL y3 (show (t : Int) < Int.ofNat L by simp only [Int.ofNat_eq_natCast]; omega), hold_idx v9 h2 (.atom _ _ y0) (.atom _ _ y3) rfl hp9, Zw.hE w0, Zw.hE w1, Zw.hE w2, hold_bool (.atom _ _ x4) (.atom _ _ x4) (op_neq_f rfl), trivial⟩
        have hrow : RowsHold W m (p8 :: [p9]) (Zw.roP L t) := rowsHold_cons hr8 (rowsHold_cons (Elem.row v9 (VL.cons (.atom _ _ w0) (VL.cons (.atom _ _ w1) (VL.cons (.atom _ _ w2) VL.nil)))) rowsHold_nil)
        rw [← hm] at hold hrow
        exact Zw.nx (Zw.tP L t) _ (p8 :: [p9]) (fun sy => Zw.k2 Tryz.m4 sy) hold (Zw.iP hL h2) hrow (Zw.rP hL h2) (next (t + 1) h60 (by omega) h2) hlen hone (by rw [hm]; exact evs m (t + 1) _ y0 y1 x3 x4 cell) (by simp only [List.all_append, Zw.rc_one]; rfl)
      · obtain rfl : t = L := by omega
        refine sayQ 0 t (by omega) ht fun m y3 x0 x1 hc => ⟨Zw.ah_app (a := Zw.cN t (1004 + 3 * t)) hc ⟨hold_bool (.atom _ _ x0) (.int _ _) (op_eql_t q2), Zw.hG y3 (by simp only [Int.ofNat_eq_natCast]; omega), Zw.hLf y3 (by simp only [Int.ofNat_eq_natCast]; omega), hold_bool (.atom _ _ y3) (.atom _ _ y3) (op_neq_f rfl), trivial⟩, 1003, rfl, y3⟩
    · by_cases q3 : (0 : Int) ≤ f1q1 i
      · by_cases q4 : f1q1 i ≤ (L : Int)
        · obtain ⟨t', h5⟩ : ∃ t' : Nat, f1q1 i = (t' : Int) := ⟨(f1q1 i).toNat, by omega⟩
          refine sayQ 1 t' (by omega) (by omega) fun m y3 x0 x1 hc => ⟨Zw.ah_app (a := Zw.cN L (1004 + 3 * L)) hc ⟨hold_bool (.atom _ _ x0) (.int _ _) (op_eql_f q2), Zw.hG x1 q3, hold_bool (.atom _ _ x1) (.int _ _) (op_leq_t (by simp only [Int.ofNat_eq_natCast]; omega)), Zw.hLf x1 q3, hold_bool (.atom _ _ x1) (.int _ _) (op_gtr_f (by simp only [Int.ofNat_eq_natCast]; omega)), hold_bool (.atom _ _ x1) (.atom _ _ x1) (op_neq_f rfl), trivial⟩, _, rfl, by rw [← h5]; exact x1⟩
        · refine sayQ 3 t (by omega) ht fun m y3 x0 x1 hc => ⟨Zw.ah_app (a := Zw.cN L (1004 + 3 * L)) hc ⟨hold_bool (.atom _ _ x0) (.int _ _) (op_eql_f q2), Zw.hG x1 q3, hold_bool (.atom _ _ x1) (.int _ _) (op_leq_f (by simp only [Int.ofNat_eq_natCast]; omega)), Zw.hLf x1 q3, hold_bool (.atom _ _ x1) (.int _ _) (op_gtr_t (by simp only [Int.ofNat_eq_natCast]; omega)), hold_bool (.atom _ _ y3) (.atom _ _ y3) (op_neq_f rfl), trivial⟩, 1003, rfl, y3⟩
      · refine sayQ 2 t (by omega) ht fun m y3 x0 x1 hc => ⟨Zw.ah_app (a := Zw.cN L (1004 + 3 * L)) hc ⟨hold_bool (.atom _ _ x0) (.int _ _) (op_eql_f q2), Zw.hGf x1 (Int.not_le.1 q3), Zw.hL x1 (Int.not_le.1 q3), hold_bool (.atom _ _ y3) (.atom _ _ y3) (op_neq_f rfl), trivial⟩, 1003, rfl, y3⟩

/-! the start -/
theorem Zw.rc_F (kk tt vv : Nat → Int) {n j r : Nat} (hj : j < n) (hr : r < 3) : (Zw.rc kk tt vv n)[3 * j + r]? = [Value.int .i64 (kk j), .int .i64 (tt j), .int .i64 (vv j)][r]? := by
  obtain ⟨h1, h2, h3⟩ := Zw.rc_get kk tt vv n j hj
  rcases (show r = 0 ∨ r = 1 ∨ r = 2 by omega) with rfl | rfl | rfl
  · exact h1
  · exact h2
  · exact h3
theorem Zw.ixHold {m : Mu} {p : Pl} {off l c : Nat} (hz : m.at_ 1002 = some (.slice (some ⟨p.blk, p.off, none⟩) l c)) (hp : m.pl 8 = some p) : ∀ n, n ≤ l → AllHold m (Zw.ixs (fun i => .int .i64 (Int.ofNat i)) n)
  | 0, _ => trivial
  | n + 1, h => by
    refine ⟨⟨p.blk, p.off, l, c, .i64, n, .atom _ _ hz, .int _ _, h, ?_⟩, Zw.ixHold (off := off) hz hp n (by omega)⟩
    rw [Nat.mul_comm n 3]
    exact .ptr 8 (3 * n) p hp
theorem Zw.goodHold {m : Mu} {kk tt vv : Nat → Int} {N : Nat} (cell : ∀ j x, (Zw.rc kk tt vv N)[j]? = some x → m.at_ (1005 + j) = some x) : ∀ n, n ≤ N → (∀ j, j < n → Zw.ok kk tt j) → AllHold m (Zw.good n)
  | 0, _, _ => trivial
  | n + 1, h, hk => by
    obtain ⟨k0, k1, k2⟩ := Zw.rc_get kk tt vv N n h
    exact Zw.ah_app (a := Zw.rj 4 (1005 + 3 * n)) (Zw.okHold (cell _ _ k0) (cell _ _ k1) (hk n (by omega))) (Zw.goodHold cell n (by omega) fun j hj => hk j (by omega))
theorem Zw.ltsHold {m : Mu} {l : Nat} (hl : m.at_ 1004 = some (.int .i64 (l : Int))) : ∀ n, n ≤ l → AllHold m (Zw.lts n)
  | 0, _ => trivial
  | n + 1, h => ⟨hold_bool (.int _ _) (.atom _ _ hl) (op_lss_t (by simp only [Int.ofNat_eq_natCast]; omega)), Zw.ltsHold hl n (by omega)⟩

theorem Zw.n0 {W : World} {a0 : Option Addr} {m0 c0 : Nat} {f0q0 : Nat → Int} {f0q1 : Nat → Int} {f0q2 : Nat → Int} {a1 : Option Addr} {m1 c1 : Nat} {f1q0 : Nat → Int} {f1q1 : Nat → Int} (h0 : SlcOk W a0 m0 c0 3 (fun i => [.int .i64 (f0q0 i), .int .i64 (f0q1 i), .int .i64 (f0q2 i)])) (b0 : (m0 : Int) < 9223372036854775808) (r0q0 : ∀ i, R64 (f0q0 i)) (r0q1 : ∀ i, R64 (f0q1 i)) (r0q2 : ∀ i, R64 (f0q2 i)) (h1 : SlcOk W a1 m1 c1 2 (fun i => [.int .i64 (f1q0 i), .int .i64 (f1q1 i)])) (b1 : (m1 : Int) < 9223372036854775808) (r1q0 : ∀ i, R64 (f1q0 i)) (r1q1 : ∀ i, R64 (f1q1 i)) : NdGood Tryz.prog Tryz.f3 8 Tryz.H0 W Zw.pS Zw.d0 [(.slice a0 m0 c0), (.slice a1 m1 c1)] := by
  obtain ⟨hc, hcell⟩ := h0
  have h0 : SlcOk W a0 m0 c0 3 (fun i => [.int .i64 (f0q0 i), .int .i64 (f0q1 i), .int .i64 (f0q2 i)]) := ⟨hc, hcell⟩
  have hadr : c0 = 0 ∨ ∃ blk off, a0 = some ⟨blk, off, none⟩ := by
    rcases hcell with h | ⟨blk, off, h, _⟩
    · exact .inl h
    · exact .inr ⟨blk, off, h⟩
  -- what is known behind the start: N records' cells, rows of them
  have facts : ∀ (l N : Nat), N ≤ m0 → l ≤ m0 → ∃ rows : List Pl, ∃ m, nodeMu 8 rows ([.slice a0 m0 c0, .slice a1 m1 c1] ++ ([.slice a0 l c0, .int .i64 (m0 : Int), .int .i64 (l : Int)] ++ Zw.rc f0q0 f0q1 f0q2 N)) = m ∧ RowsHold W m rows (Zw.roG N) ∧
      m.at_ 1000 = some (.slice a0 m0 c0) ∧ m.at_ 1001 = some (.slice a1 m1 c1) ∧ m.at_ 1002 = some (.slice a0 l c0) ∧ m.at_ 1003 = some (.int .i64 (m0 : Int)) ∧ m.at_ 1004 = some (.int .i64 (l : Int)) ∧
      (∀ j x, (Zw.rc f0q0 f0q1 f0q2 N)[j]? = some x → m.at_ (1005 + j) = some x) ∧ (N ≤ l → AllHold m (Zw.ixs (fun i => .int .i64 (Int.ofNat i)) N)) := fun l N hN hlm => by
    have cells : ∀ rows m, nodeMu 8 rows ([.slice a0 m0 c0, .slice a1 m1 c1] ++ ([.slice a0 l c0, .int .i64 (m0 : Int), .int .i64 (l : Int)] ++ Zw.rc f0q0 f0q1 f0q2 N)) = m → ∀ j x, (Zw.rc f0q0 f0q1 f0q2 N)[j]? = some x → m.at_ (1005 + j) = some x := fun rows m hm j x hx => by
      rw [← hm, Zw.atE (i := j) (by simp only [List.length_cons, List.length_nil])]; exact hx
    cases N with
    | zero => exact ⟨[], _, rfl, rowsHold_nil, rfl, rfl, rfl, rfl, rfl, cells [] _ rfl, fun _ => trivial⟩
    | succ N =>
      rcases hcell with h | ⟨blk, off, ha, cs, e, fr, w1, w2⟩
      · omega
      subst ha
      obtain ⟨m, hm⟩ : ∃ m, nodeMu 8 [⟨blk, off, 0⟩] ([.slice (some ⟨blk, off, none⟩) m0 c0, .slice a1 m1 c1] ++ ([.slice (some ⟨blk, off, none⟩) l c0, .int .i64 (m0 : Int), .int .i64 (l : Int)] ++ Zw.rc f0q0 f0q1 f0q2 (N + 1))) = m := ⟨_, rfl⟩
      have cell := cells _ m hm
      refine ⟨[⟨blk, off, 0⟩], m, hm, rowsHold_cons ⟨cs, e, fr, w1, fun i v hv => ?_⟩ rowsHold_nil, by rw [← hm]; rfl, by rw [← hm]; rfl, by rw [← hm]; rfl, by rw [← hm]; rfl, by rw [← hm]; rfl, cell, fun hl => Zw.ixHold (p := ⟨blk, off, 0⟩) (off := 0) (l := l) (c := c0) (by rw [← hm]; rfl) (by rw [← hm]; rfl) _ hl⟩
      have hlt : i < 3 * (N + 1) := by
        have := (List.getElem?_eq_some_iff.1 hv).1
        simpa [Zw.chR] using this
      have hve : v = ch (1005 + i) := by
        simp [Zw.chR, hlt] at hv
        exact hv.symm
      obtain ⟨j, r, rfl, hj, hr⟩ : ∃ j r, i = 3 * j + r ∧ j < N + 1 ∧ r < 3 := ⟨i / 3, i % 3, by omega, by omega, by omega⟩
      have hF := Zw.rc_F f0q0 f0q1 f0q2 hj hr
      obtain ⟨x, hx⟩ : ∃ x, [Value.int .i64 (f0q0 j), .int .i64 (f0q1 j), .int .i64 (f0q2 j)][r]? = some x := by
        rcases (show r = 0 ∨ r = 1 ∨ r = 2 by omega) with rfl | rfl | rfl <;> exact ⟨_, rfl⟩
      refine ⟨x, ?_, ?_⟩
      · have := w2 j (by omega) r x hx
        rw [Nat.mul_comm j 3, Nat.add_assoc] at this
        exact this
      · rw [hve]
        exact .atom _ _ (cell _ _ (hF.trans hx))
  have hslTo : ∀ (m : Mu) (l : Nat) (y r : Value), l ≤ m0 → m.at_ 1000 = some (.slice a0 m0 c0) → VR m y (.int .i64 (l : Int)) → VR m r (.slice a0 l c0) → SymHolds m .slTo (ch 1000) y r := fun m l y r hl y0 hy hr => ⟨a0, m0, c0, .i64, l, .atom _ _ y0, hy, by omega, hadr, hr⟩
  by_cases hm : m0 ≤ 60
  · have hmn : (if (65 : Int) < (m0 : Int) then (65 : Int) else (m0 : Int)) = (m0 : Int) := if_neg (by omega)
    rcases Zw.least (p := Zw.ok f0q0 f0q1) m0 with hall | ⟨j, hj, hbad, hlt⟩
    · -- all may be
      obtain ⟨rows, m, hmu, hrow, y0, y1, y2, y3, y4, cell, hix⟩ := facts m0 m0 (Nat.le_refl _) (Nat.le_refl _)
      have hn : a0.isNone = true → m0 = 0 := fun h => by
        rcases hadr with h2 | ⟨b, o, h2⟩
        · omega
        · rw [h2] at h; cases h
      have hold : AllHold m (Zw.tG m0 a0.isNone) := by
        refine ⟨hold_len (.atom _ _ y0) (.atom _ _ y3), ⟨.i64, _, _, .atom _ _ y3, .int _ _, ?_⟩, hslTo m m0 _ _ (Nat.le_refl _) y0 (.int _ _) (.atom _ _ y2), hold_len (.atom _ _ y2) (.int _ _), ⟨_, _, _, .atom _ _ y2, .bool _⟩, Zw.ah_app (a := Zw.ixs (fun i => .int .i64 (Int.ofNat i)) m0) (hix (Nat.le_refl _)) (Zw.goodHold cell m0 (Nat.le_refl _) hall)⟩
        rw [hmn]; exact .int _ _
      rw [← hmu] at hold hrow
      refine Zw.nx (Zw.tG m0 a0.isNone) _ rows (fun sy => Zw.kS Tryz.m4 sy) hold (Zw.al_get Zw.iS m0 (by omega)) hrow (Zw.rG (by omega) hn) (Zw.nN h0 b0 r0q0 r0q1 r0q2 h1 b1 r1q0 r1q1 (by omega) hn (Nat.le_refl _) 61 0 0 (by omega) (by omega) (by omega)) rfl (by simp only [List.all_append, Zw.rc_one]; rfl) ?_ (by simp only [List.all_append, Zw.rc_one]; rfl)
      rw [hmu]
      refine Zw.ev_app (va := [.slice a0 m0 c0, .slice a1 m1 c1, .int .i64 ((0 : Nat) : Int), .int .i64 ((0 : Nat) : Int)]) (by simp only [evL, evM, y1, y2]; rfl) ?_
      have := Zw.ev_chR (m := m) (Zw.rc f0q0 f0q1 f0q2 m0) 1005 cell
      rw [Zw.rc_len] at this
      exact this
    · -- one may not
      obtain ⟨rows, m, hmu, hrow, y0, y1, y2, y3, y4, cell, hix⟩ := facts m0 (j + 1) (by omega) (Nat.le_refl _)
      obtain ⟨k0, k1, k2⟩ := Zw.rc_get f0q0 f0q1 f0q2 (j + 1) j (by omega)
      obtain ⟨k, hk, hj4⟩ := Zw.badHold (cell _ _ k0) (cell _ _ k1) hbad
      have hold : AllHold m (Zw.tB j k) := by
        refine Zw.ah_app (a := Zw.tH true) ⟨hold_len (.atom _ _ y0) (.atom _ _ y3), ⟨.i64, _, _, .atom _ _ y3, .int _ _, ?_⟩, hslTo m m0 _ _ (Nat.le_refl _) y0 (.atom _ _ y4) (.atom _ _ y2), hold_len (.atom _ _ y2) (.atom _ _ y4), hold_bool (.atom _ _ y4) (.int _ _) (op_gtr_f (by omega)), hold_bool (.atom _ _ y4) (.int _ _) (op_leq_t (by omega)), trivial⟩ (Zw.ah_app (Zw.ltsHold y4 (j + 1) hj) (Zw.ah_app (hix hj) (Zw.ah_app (Zw.goodHold cell j (by omega) hlt) hj4)))
        rw [hmn]; exact .atom _ _ y4
      rw [← hmu] at hold hrow
      refine Zw.nx (Zw.tB j k) _ rows (fun sy => Zw.kS Tryz.m4 sy) hold (Zw.al_get Zw.iS (j + 1) (by omega)) hrow (Zw.rB (by omega) hk) (Zw.nM h0 b0 r0q0 r0q1 r0q2 h1 b1 r1q0 r1q1 (Nat.le_refl _) (m0 + 1) true 0 (by omega) (by omega) fun _ => ⟨j, by omega, hj, hbad⟩) rfl (by simp only [List.all_append, Zw.rc_one]; rfl) ?_ rfl
      rw [hmu]
      simp only [evL, evM, y1, y2, y4]
      rfl
  · -- too many
    obtain ⟨l, hl, hl2, hl3⟩ : ∃ l : Nat, (if (65 : Int) < (m0 : Int) then (65 : Int) else (m0 : Int)) = (l : Int) ∧ l ≤ m0 ∧ 60 < l := by
      by_cases h : 65 < m0
      · exact ⟨65, if_pos (by omega), by omega, by omega⟩
      · exact ⟨m0, if_neg (by omega), by omega, by omega⟩
    obtain ⟨rows, m, hmu, hrow, y0, y1, y2, y3, y4, cell, hix⟩ := facts l 0 (by omega) hl2
    have hold : AllHold m (Zw.tH false) := by
      refine ⟨hold_len (.atom _ _ y0) (.atom _ _ y3), ⟨.i64, _, _, .atom _ _ y3, .int _ _, ?_⟩, hslTo m l _ _ hl2 y0 (.atom _ _ y4) (.atom _ _ y2), hold_len (.atom _ _ y2) (.atom _ _ y4), hold_bool (.atom _ _ y4) (.int _ _) (op_gtr_t (by omega)), hold_bool (.atom _ _ y4) (.int _ _) (op_leq_f (by omega)), trivial⟩
      rw [hl]; exact .atom _ _ y4
    rw [← hmu] at hold hrow
    refine Zw.nx (Zw.tH false) _ rows (fun sy => Zw.kS Tryz.m4 sy) hold (Zw.al_get Zw.iS 0 (by omega)) hrow Zw.rC (Zw.nM h0 b0 r0q0 r0q1 r0q2 h1 b1 r1q0 r1q1 hl2 (l + 1) false 0 (by omega) (by omega) fun h => by cases h) rfl rfl ?_ rfl
    rw [hmu]
    simp only [evL, evM, y1, y2, y4]
    rfl
end Go.Proofs
