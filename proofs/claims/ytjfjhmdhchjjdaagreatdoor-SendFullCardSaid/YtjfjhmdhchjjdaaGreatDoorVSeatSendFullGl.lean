/- The law, node by node; hence from its start, for every input. No conditions. -/
import Derived.Test.YtjfjhmdhchjjdaaGreatDoorVSeatSendFullR1
import Derived.Test.YtjfjhmdhchjjdaaGreatDoorVSeatSendFullR2
import Derived.Test.YtjfjhmdhchjjdaaGreatDoorVSeatSendFullR3
import Derived.Test.YtjfjhmdhchjjdaaGreatDoorVSeatSendFullR4
import Derived.Test.YtjfjhmdhchjjdaaGreatDoorVSeatSendFullR5
set_option linter.all false
namespace Go.Proofs
open Go Go.Vsx Go.RowKit
set_option maxRecDepth 1000000
set_option maxHeartbeats 4000000
set_option linter.unusedVariables false
theorem Zw.r64a {x : Int} (h : R64 x) : -9223372036854775808 ≤ x ∧ x < 9223372036854775808 := h
theorem Zw.nx {W : World} {pt pt' : Pt} {d d' : Nd} {vals : List Value} {roc : List (List Value)} {j hk : Nat} {rl : List (Nat × Nat)} {A : List Value} (t : List SE) (ex : List Value) (rows : List Pl) (vals' : List Value)
    (hok : ∀ sy, okPt (Tryz.Es Tryz.m3 sy) 8 pt = true) (hold : AllHold (nodeMu 8 rows (vals ++ ex)) t)
    (hid : d.sub 8 roc (idl 8 d.objs) (idA hk) (d.st 8 []) = true) (hlen : hk = vals.length) (hone : (vals ++ ex).all (·.oneCell') = true) (hrow : RowsHold W (nodeMu 8 rows (vals ++ ex)) rows roc)
    (hrun : leafNext (fK (Tryz.Es Tryz.m3 (syOf t)) 100000 100000 pt (d.st 8 roc) j) 8 d' rl A = some pt') (hA : evL (nodeMu 8 rows (vals ++ ex)) A = some vals') (hone' : vals'.all (·.oneCell') = true)
    (h : NdGood Tryz.prog Tryz.f5 8 Tryz.H0 W pt' d' vals') : NdGood Tryz.prog Tryz.f5 8 Tryz.H0 W pt d vals :=
  NdGood.next (E := Tryz.Es Tryz.m3 (syOf t)) (extras := ex) (rows := rows) (vals' := vals') (by omega) (Tryz.right Tryz.m3 (syOf t) _ W Tryz.mOk3 (symOk_of rfl hold)) (hok _) hid hlen hone hrow hrun hA hone' h
theorem Zw.fx {W : World} {pt : Pt} {d : Nd} {vals : List Value} {roc : List (List Value)} {j hk : Nat} (t : List SE) (ex : List Value) (rows : List Pl)
    (hok : ∀ sy, okPt (Tryz.Es Tryz.m3 sy) 8 pt = true) (hold : AllHold (nodeMu 8 rows (vals ++ ex)) t)
    (hid : d.sub 8 roc (idl 8 d.objs) (idA hk) (d.st 8 []) = true) (hlen : hk = vals.length) (hone : (vals ++ ex).all (·.oneCell') = true) (hrow : RowsHold W (nodeMu 8 rows (vals ++ ex)) rows roc)
    (hrun : leafFin (Tryz.Es Tryz.m3 (syOf t)) Tryz.f5 (fK (Tryz.Es Tryz.m3 (syOf t)) 100000 100000 pt (d.st 8 roc) j) = true) : NdGood Tryz.prog Tryz.f5 8 Tryz.H0 W pt d vals :=
  NdGood.fin (E := Tryz.Es Tryz.m3 (syOf t)) (extras := ex) (rows := rows) (by omega) (Tryz.right Tryz.m3 (syOf t) _ W Tryz.mOk3 (symOk_of rfl hold)) (hok _) hid hlen hone hrow hrun

theorem Zw.gAll (x y : Int) (hx : 0 ≤ x) (hx1 : x < 50) (hy : 0 ≤ y) (hy1 : y < 50) : Zw.gr1 x y = true := by
  rcases (show x = 0 ∨ x = 1 ∨ x = 2 ∨ x = 3 ∨ x = 4 ∨ x = 5 ∨ x = 6 ∨ x = 7 ∨ x = 8 ∨ x = 9 ∨ x = 10 ∨ x = 11 ∨ x = 12 ∨ x = 13 ∨ x = 14 ∨ x = 15 ∨ x = 16 ∨ x = 17 ∨ x = 18 ∨ x = 19 ∨ x = 20 ∨ x = 21 ∨ x = 22 ∨ x = 23 ∨ x = 24 ∨ x = 25 ∨ x = 26 ∨ x = 27 ∨ x = 28 ∨ x = 29 ∨ x = 30 ∨ x = 31 ∨ x = 32 ∨ x = 33 ∨ x = 34 ∨ x = 35 ∨ x = 36 ∨ x = 37 ∨ x = 38 ∨ x = 39 ∨ x = 40 ∨ x = 41 ∨ x = 42 ∨ x = 43 ∨ x = 44 ∨ x = 45 ∨ x = 46 ∨ x = 47 ∨ x = 48 ∨ x = 49 by omega) with h | h | h | h | h | h | h | h | h | h | h | h | h | h | h | h | h | h | h | h | h | h | h | h | h | h | h | h | h | h | h | h | h | h | h | h | h | h | h | h | h | h | h | h | h | h | h | h | h | h
  · subst h; exact Zw.allR_mem Zw.r0 (Zw.mem_ys hy hy1)
  · subst h; exact Zw.allR_mem Zw.r1 (Zw.mem_ys hy hy1)
  · subst h; exact Zw.allR_mem Zw.r2 (Zw.mem_ys hy hy1)
  · subst h; exact Zw.allR_mem Zw.r3 (Zw.mem_ys hy hy1)
  · subst h; exact Zw.allR_mem Zw.r4 (Zw.mem_ys hy hy1)
  · subst h; exact Zw.allR_mem Zw.r5 (Zw.mem_ys hy hy1)
  · subst h; exact Zw.allR_mem Zw.r6 (Zw.mem_ys hy hy1)
  · subst h; exact Zw.allR_mem Zw.r7 (Zw.mem_ys hy hy1)
  · subst h; exact Zw.allR_mem Zw.r8 (Zw.mem_ys hy hy1)
  · subst h; exact Zw.allR_mem Zw.r9 (Zw.mem_ys hy hy1)
  · subst h; exact Zw.allR_mem Zw.r10 (Zw.mem_ys hy hy1)
  · subst h; exact Zw.allR_mem Zw.r11 (Zw.mem_ys hy hy1)
  · subst h; exact Zw.allR_mem Zw.r12 (Zw.mem_ys hy hy1)
  · subst h; exact Zw.allR_mem Zw.r13 (Zw.mem_ys hy hy1)
  · subst h; exact Zw.allR_mem Zw.r14 (Zw.mem_ys hy hy1)
  · subst h; exact Zw.allR_mem Zw.r15 (Zw.mem_ys hy hy1)
  · subst h; exact Zw.allR_mem Zw.r16 (Zw.mem_ys hy hy1)
  · subst h; exact Zw.allR_mem Zw.r17 (Zw.mem_ys hy hy1)
  · subst h; exact Zw.allR_mem Zw.r18 (Zw.mem_ys hy hy1)
  · subst h; exact Zw.allR_mem Zw.r19 (Zw.mem_ys hy hy1)
  · subst h; exact Zw.allR_mem Zw.r20 (Zw.mem_ys hy hy1)
  · subst h; exact Zw.allR_mem Zw.r21 (Zw.mem_ys hy hy1)
  · subst h; exact Zw.allR_mem Zw.r22 (Zw.mem_ys hy hy1)
  · subst h; exact Zw.allR_mem Zw.r23 (Zw.mem_ys hy hy1)
  · subst h; exact Zw.allR_mem Zw.r24 (Zw.mem_ys hy hy1)
  · subst h; exact Zw.allR_mem Zw.r25 (Zw.mem_ys hy hy1)
  · subst h; exact Zw.allR_mem Zw.r26 (Zw.mem_ys hy hy1)
  · subst h; exact Zw.allR_mem Zw.r27 (Zw.mem_ys hy hy1)
  · subst h; exact Zw.allR_mem Zw.r28 (Zw.mem_ys hy hy1)
  · subst h; exact Zw.allR_mem Zw.r29 (Zw.mem_ys hy hy1)
  · subst h; exact Zw.allR_mem Zw.r30 (Zw.mem_ys hy hy1)
  · subst h; exact Zw.allR_mem Zw.r31 (Zw.mem_ys hy hy1)
  · subst h; exact Zw.allR_mem Zw.r32 (Zw.mem_ys hy hy1)
  · subst h; exact Zw.allR_mem Zw.r33 (Zw.mem_ys hy hy1)
  · subst h; exact Zw.allR_mem Zw.r34 (Zw.mem_ys hy hy1)
  · subst h; exact Zw.allR_mem Zw.r35 (Zw.mem_ys hy hy1)
  · subst h; exact Zw.allR_mem Zw.r36 (Zw.mem_ys hy hy1)
  · subst h; exact Zw.allR_mem Zw.r37 (Zw.mem_ys hy hy1)
  · subst h; exact Zw.allR_mem Zw.r38 (Zw.mem_ys hy hy1)
  · subst h; exact Zw.allR_mem Zw.r39 (Zw.mem_ys hy hy1)
  · subst h; exact Zw.allR_mem Zw.r40 (Zw.mem_ys hy hy1)
  · subst h; exact Zw.allR_mem Zw.r41 (Zw.mem_ys hy hy1)
  · subst h; exact Zw.allR_mem Zw.r42 (Zw.mem_ys hy hy1)
  · subst h; exact Zw.allR_mem Zw.r43 (Zw.mem_ys hy hy1)
  · subst h; exact Zw.allR_mem Zw.r44 (Zw.mem_ys hy hy1)
  · subst h; exact Zw.allR_mem Zw.r45 (Zw.mem_ys hy hy1)
  · subst h; exact Zw.allR_mem Zw.r46 (Zw.mem_ys hy hy1)
  · subst h; exact Zw.allR_mem Zw.r47 (Zw.mem_ys hy hy1)
  · subst h; exact Zw.allR_mem Zw.r48 (Zw.mem_ys hy hy1)
  · subst h; exact Zw.allR_mem Zw.r49 (Zw.mem_ys hy hy1)
theorem Zw.n0 {W : World} {n0 : Int} {n1 : Int} (r0 : R64 n0) (r1 : R64 n1) : NdGood Tryz.prog Tryz.f5 8 Tryz.H0 W Zw.pS Zw.d0 [(.int .i64 n0), (.int .i64 n1)] := by
  have ⟨rl0, rh0⟩ := r0
  have ⟨rl1, rh1⟩ := r1
  obtain ⟨d1, ⟨y1, e1, z1, u1, w1⟩, g1, o1⟩ := ex_rem n0 (50 : Int) (by omega) (by omega)
  obtain ⟨d2, e2, g2, o2⟩ := ex_add d1 (50 : Int)
  obtain ⟨d3, ⟨y3, e3, z3, u3, w3⟩, g3, o3⟩ := ex_rem d2 (50 : Int) (by omega) (by omega)
  have vd3 : 0 ≤ d3 ∧ d3 < 50 := by omega
  obtain ⟨d4, ⟨y4, e4, z4, u4, w4⟩, g4, o4⟩ := ex_rem n1 (50 : Int) (by omega) (by omega)
  obtain ⟨d5, e5, g5, o5⟩ := ex_add d4 (50 : Int)
  obtain ⟨d6, ⟨y6, e6, z6, u6, w6⟩, g6, o6⟩ := ex_rem d5 (50 : Int) (by omega) (by omega)
  have vd6 : 0 ≤ d6 ∧ d6 < 50 := by omega
  exact Zw.fx (Zw.tg d3 d6) [(.int .i64 d1), (.int .i64 d2), (.int .i64 d4), (.int .i64 d5)] [] (Zw.kS _) ⟨hold_op (.atom _ _ rfl) (.int _ _) (o1 .i64) (.atom _ _ rfl), hold_op (.atom _ _ rfl) (.int _ _) o2 (.atom _ _ rfl), hold_op (.atom _ _ rfl) (.int _ _) (o3 .i64) (.int _ _), hold_op (.atom _ _ rfl) (.int _ _) (o4 .i64) (.atom _ _ rfl), hold_op (.atom _ _ rfl) (.int _ _) o5 (.atom _ _ rfl), hold_op (.atom _ _ rfl) (.int _ _) (o6 .i64) (.int _ _), trivial⟩ Zw.i0 rfl rfl rowsHold_nil (Zw.gAll d3 d6 vd3.1 vd3.2 vd6.1 vd6.2)
end Go.Proofs
