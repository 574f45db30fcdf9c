/- The law, node by node; hence from its start, for every input. No conditions. -/
import Derived.Test.YtjmfbhlanjhnfaaGreatDoorVSeatTableBadR1
import Derived.Test.YtjmfbhlanjhnfaaGreatDoorVSeatTableBadR2
import Derived.Test.YtjmfbhlanjhnfaaGreatDoorVSeatTableBadR3
import Derived.Test.YtjmfbhlanjhnfaaGreatDoorVSeatTableBadR4
set_option linter.all false
namespace Go.Proofs
open Go Go.Vsx Go.RowKit
set_option maxRecDepth 1000000
set_option maxHeartbeats 4000000
set_option linter.unusedVariables false
theorem Zw.r64a {x : Int} (h : R64 x) : -9223372036854775808 ≤ x ∧ x < 9223372036854775808 := h
theorem Zw.nx {W : World} {pt pt' : Pt} {d d' : Nd} {vals : List Value} {roc : List (List Value)} {j hk : Nat} {rl : List (Nat × Nat)} {A : List Value} (t : List SE) (ex : List Value) (rows : List Pl) (vals' : List Value)
    (hok : ∀ sy, okPt (Tryz.Es Tryz.m4 sy) 8 pt = true) (hold : AllHold (nodeMu 8 rows (vals ++ ex)) t)
    (hid : d.sub 8 roc (idl 8 d.objs) (idA hk) (d.st 8 []) = true) (hlen : hk = vals.length) (hone : (vals ++ ex).all (·.oneCell') = true) (hrow : RowsHold W (nodeMu 8 rows (vals ++ ex)) rows roc)
    (hrun : leafNext (fK (Tryz.Es Tryz.m4 (syOf t)) 100000 100000 pt (d.st 8 roc) j) 8 d' rl A = some pt') (hA : evL (nodeMu 8 rows (vals ++ ex)) A = some vals') (hone' : vals'.all (·.oneCell') = true)
    (h : NdGood Tryz.prog Tryz.f3 8 Tryz.H0 W pt' d' vals') : NdGood Tryz.prog Tryz.f3 8 Tryz.H0 W pt d vals :=
  NdGood.next (E := Tryz.Es Tryz.m4 (syOf t)) (extras := ex) (rows := rows) (vals' := vals') (by omega) (Tryz.right Tryz.m4 (syOf t) _ W Tryz.mOk4 (symOk_of rfl hold)) (hok _) hid hlen hone hrow hrun hA hone' h
theorem Zw.fx {W : World} {pt : Pt} {d : Nd} {vals : List Value} {roc : List (List Value)} {j hk : Nat} (t : List SE) (ex : List Value) (rows : List Pl)
    (hok : ∀ sy, okPt (Tryz.Es Tryz.m4 sy) 8 pt = true) (hold : AllHold (nodeMu 8 rows (vals ++ ex)) t)
    (hid : d.sub 8 roc (idl 8 d.objs) (idA hk) (d.st 8 []) = true) (hlen : hk = vals.length) (hone : (vals ++ ex).all (·.oneCell') = true) (hrow : RowsHold W (nodeMu 8 rows (vals ++ ex)) rows roc)
    (hrun : leafFin (Tryz.Es Tryz.m4 (syOf t)) Tryz.f3 (fK (Tryz.Es Tryz.m4 (syOf t)) 100000 100000 pt (d.st 8 roc) j) = true) : NdGood Tryz.prog Tryz.f3 8 Tryz.H0 W pt d vals :=
  NdGood.fin (E := Tryz.Es Tryz.m4 (syOf t)) (extras := ex) (rows := rows) (by omega) (Tryz.right Tryz.m4 (syOf t) _ W Tryz.mOk4 (symOk_of rfl hold)) (hok _) hid hlen hone hrow hrun

theorem Zw.n0 {W : World} {n0 : Int} {n1 : Int} (r0 : R64 n0) (r1 : R64 n1) : NdGood Tryz.prog Tryz.f3 8 Tryz.H0 W Zw.pS Zw.d0 [(.int .i64 n0), (.int .i64 n1)] := by
  have ⟨rl0, rh0⟩ := r0
  have ⟨rl1, rh1⟩ := r1
  obtain ⟨d1, ⟨y1, e1, z1, u1, w1⟩, g1, o1⟩ := ex_rem n0 (6 : Int) (by omega) (by omega)
  obtain ⟨d2, e2, g2, o2⟩ := ex_add d1 (6 : Int)
  obtain ⟨d3, ⟨y3, e3, z3, u3, w3⟩, g3, o3⟩ := ex_rem d2 (6 : Int) (by omega) (by omega)
  rcases (show d3 = 0 ∨ d3 = 1 ∨ d3 = 2 ∨ d3 = 3 ∨ d3 = 4 ∨ d3 = 5 by omega) with k3 | k3 | k3 | k3 | k3 | k3
  ·
    by_cases q4 : n1 < (1 : Int)
    ·
      exact Zw.fx Zw.t0 [(.int .i64 d1), (.int .i64 d2)] [] (Zw.kS _) ⟨hold_op (.atom _ _ rfl) (.int _ _) (o1 .i64) (.atom _ _ rfl), hold_op (.atom _ _ rfl) (.int _ _) o2 (.atom _ _ rfl), hold_op (.atom _ _ rfl) (.int _ _) (by have := (o3 .i64); rw [k3] at this; exact this) (.int _ _), hold_bool (.atom _ _ rfl) (.int _ _) (op_lss_t q4), trivial⟩ Zw.i0 rfl rfl rowsHold_nil Zw.r0
    ·
      by_cases q5 : (8 : Int) < n1
      ·
        exact Zw.fx Zw.t1 [(.int .i64 d1), (.int .i64 d2)] [] (Zw.kS _) ⟨hold_op (.atom _ _ rfl) (.int _ _) (o1 .i64) (.atom _ _ rfl), hold_op (.atom _ _ rfl) (.int _ _) o2 (.atom _ _ rfl), hold_op (.atom _ _ rfl) (.int _ _) (by have := (o3 .i64); rw [k3] at this; exact this) (.int _ _), hold_bool (.atom _ _ rfl) (.int _ _) (op_lss_f (Int.not_lt.1 q4)), hold_bool (.atom _ _ rfl) (.int _ _) (op_gtr_t q5), trivial⟩ Zw.i1 rfl rfl rowsHold_nil Zw.r1
      ·
        exact Zw.fx Zw.t2 [(.int .i64 d1), (.int .i64 d2)] [] (Zw.kS _) ⟨hold_op (.atom _ _ rfl) (.int _ _) (o1 .i64) (.atom _ _ rfl), hold_op (.atom _ _ rfl) (.int _ _) o2 (.atom _ _ rfl), hold_op (.atom _ _ rfl) (.int _ _) (by have := (o3 .i64); rw [k3] at this; exact this) (.int _ _), hold_bool (.atom _ _ rfl) (.int _ _) (op_lss_f (Int.not_lt.1 q4)), hold_bool (.atom _ _ rfl) (.int _ _) (op_gtr_f (Int.not_lt.1 q5)), trivial⟩ Zw.i2 rfl rfl rowsHold_nil Zw.r2
  ·
    by_cases q6 : n1 < (0 : Int)
    ·
      exact Zw.fx Zw.t3 [(.int .i64 d1), (.int .i64 d2)] [] (Zw.kS _) ⟨hold_op (.atom _ _ rfl) (.int _ _) (o1 .i64) (.atom _ _ rfl), hold_op (.atom _ _ rfl) (.int _ _) o2 (.atom _ _ rfl), hold_op (.atom _ _ rfl) (.int _ _) (by have := (o3 .i64); rw [k3] at this; exact this) (.int _ _), hold_bool (.atom _ _ rfl) (.int _ _) (op_lss_t q6), trivial⟩ Zw.i3 rfl rfl rowsHold_nil Zw.r3
    ·
      by_cases q7 : (2 : Int) ≤ n1
      ·
        exact Zw.fx Zw.t4 [(.int .i64 d1), (.int .i64 d2)] [] (Zw.kS _) ⟨hold_op (.atom _ _ rfl) (.int _ _) (o1 .i64) (.atom _ _ rfl), hold_op (.atom _ _ rfl) (.int _ _) o2 (.atom _ _ rfl), hold_op (.atom _ _ rfl) (.int _ _) (by have := (o3 .i64); rw [k3] at this; exact this) (.int _ _), hold_bool (.atom _ _ rfl) (.int _ _) (op_lss_f (Int.not_lt.1 q6)), hold_bool (.atom _ _ rfl) (.int _ _) (op_geq_t q7), hold_bool (.atom _ _ rfl) (.int _ _) (op_gtr_t (by first | omega | assumption)), trivial⟩ Zw.i4 rfl rfl rowsHold_nil Zw.r4
      ·
        exact Zw.fx Zw.t5 [(.int .i64 d1), (.int .i64 d2)] [] (Zw.kS _) ⟨hold_op (.atom _ _ rfl) (.int _ _) (o1 .i64) (.atom _ _ rfl), hold_op (.atom _ _ rfl) (.int _ _) o2 (.atom _ _ rfl), hold_op (.atom _ _ rfl) (.int _ _) (by have := (o3 .i64); rw [k3] at this; exact this) (.int _ _), hold_bool (.atom _ _ rfl) (.int _ _) (op_lss_f (Int.not_lt.1 q6)), hold_bool (.atom _ _ rfl) (.int _ _) (op_geq_f (Int.not_le.1 q7)), hold_bool (.atom _ _ rfl) (.int _ _) (op_gtr_f (by first | omega | assumption)), trivial⟩ Zw.i5 rfl rfl rowsHold_nil Zw.r5
  ·
    by_cases q8 : (0 : Int) ≤ n1
    ·
      by_cases q9 : n1 < (8 : Int)
      ·
        obtain ⟨d10, e10, g10, o10⟩ := ex_add (0 : Int) n1
        obtain ⟨d11, ⟨y11, e11, z11, u11, w11⟩, g11, o11⟩ := ex_rem d10 (4 : Int) (by omega) (by omega)
        rcases (show d11 = 0 ∨ d11 = 1 ∨ d11 = 2 ∨ d11 = 3 by omega) with q12 | q12 | q12 | q12
        ·
          rcases (show d10 = 0 ∨ d10 = 1 ∨ d10 = 2 ∨ d10 = 3 ∨ d10 = 4 by omega) with q13 | q13 | q13 | q13 | q13
          ·
            exact Zw.fx Zw.t6 [(.int .i64 d1), (.int .i64 d2), (.int .i64 d10), (.int .i64 d11)] [] (Zw.kS _) ⟨hold_op (.atom _ _ rfl) (.int _ _) (o1 .i64) (.atom _ _ rfl), hold_op (.atom _ _ rfl) (.int _ _) o2 (.atom _ _ rfl), hold_op (.atom _ _ rfl) (.int _ _) (by have := (o3 .i64); rw [k3] at this; exact this) (.int _ _), hold_bool (.atom _ _ rfl) (.int _ _) (op_geq_t q8), hold_bool (.atom _ _ rfl) (.int _ _) (op_lss_t q9), hold_bool (.atom _ _ rfl) (.int _ _) (op_lss_f (by first | omega | assumption)), hold_bool (.atom _ _ rfl) (.int _ _) (op_geq_f (by first | omega | assumption)), hold_op (.int _ _) (.atom _ _ rfl) o10 (.atom _ _ rfl), hold_op (.atom _ _ rfl) (.int _ _) (o11 .i64) (.atom _ _ rfl), hold_bool (.atom _ _ rfl) (.int _ _) (op_geq_t (by first | omega | assumption)), hold_bool (.atom _ _ rfl) (.int _ _) (op_lss_t (by first | omega | assumption)), hold_bool (.atom _ _ rfl) (.int _ _) (op_geq_t (by first | omega | assumption)), hold_bool (.atom _ _ rfl) (.int _ _) (op_lss_t (by first | omega | assumption)), hold_bool (.atom _ _ rfl) (.atom _ _ rfl) (op_neq_f rfl), hold_bool (.atom _ _ rfl) (.atom _ _ rfl) (op_lss_f (by first | omega | assumption)), hold_bool (.atom _ _ rfl) (.atom _ _ rfl) (op_eql_t rfl), hold_bool (.atom _ _ rfl) (.atom _ _ rfl) (op_eql_t rfl), hold_fix (.atom _ _ rfl) (by omega), hold_fix (.atom _ _ rfl) (by omega), trivial⟩ Zw.i6 rfl rfl rowsHold_nil Zw.r6
          ·
            exfalso; omega
          ·
            exfalso; omega
          ·
            exfalso; omega
          ·
            exact Zw.fx Zw.t7 [(.int .i64 d1), (.int .i64 d2), (.int .i64 d10), (.int .i64 d11)] [] (Zw.kS _) ⟨hold_op (.atom _ _ rfl) (.int _ _) (o1 .i64) (.atom _ _ rfl), hold_op (.atom _ _ rfl) (.int _ _) o2 (.atom _ _ rfl), hold_op (.atom _ _ rfl) (.int _ _) (by have := (o3 .i64); rw [k3] at this; exact this) (.int _ _), hold_bool (.atom _ _ rfl) (.int _ _) (op_geq_t q8), hold_bool (.atom _ _ rfl) (.int _ _) (op_lss_t q9), hold_bool (.atom _ _ rfl) (.int _ _) (op_lss_f (by first | omega | assumption)), hold_bool (.atom _ _ rfl) (.int _ _) (op_geq_f (by first | omega | assumption)), hold_op (.int _ _) (.atom _ _ rfl) o10 (.atom _ _ rfl), hold_op (.atom _ _ rfl) (.int _ _) (o11 .i64) (.atom _ _ rfl), hold_bool (.atom _ _ rfl) (.int _ _) (op_geq_t (by first | omega | assumption)), hold_bool (.atom _ _ rfl) (.int _ _) (op_lss_t (by first | omega | assumption)), hold_bool (.atom _ _ rfl) (.int _ _) (op_geq_t (by first | omega | assumption)), hold_bool (.atom _ _ rfl) (.int _ _) (op_lss_t (by first | omega | assumption)), hold_bool (.atom _ _ rfl) (.atom _ _ rfl) (op_neq_f rfl), hold_bool (.atom _ _ rfl) (.atom _ _ rfl) (op_lss_f (by first | omega | assumption)), hold_bool (.atom _ _ rfl) (.atom _ _ rfl) (op_eql_t rfl), hold_bool (.atom _ _ rfl) (.atom _ _ rfl) (op_eql_t rfl), hold_fix (.atom _ _ rfl) (by omega), hold_fix (.atom _ _ rfl) (by omega), trivial⟩ Zw.i7 rfl rfl rowsHold_nil Zw.r7
        ·
          rcases (show d10 = 1 ∨ d10 = 2 ∨ d10 = 3 ∨ d10 = 4 ∨ d10 = 5 by omega) with q14 | q14 | q14 | q14 | q14
          ·
            exact Zw.fx Zw.t8 [(.int .i64 d1), (.int .i64 d2), (.int .i64 d10), (.int .i64 d11)] [] (Zw.kS _) ⟨hold_op (.atom _ _ rfl) (.int _ _) (o1 .i64) (.atom _ _ rfl), hold_op (.atom _ _ rfl) (.int _ _) o2 (.atom _ _ rfl), hold_op (.atom _ _ rfl) (.int _ _) (by have := (o3 .i64); rw [k3] at this; exact this) (.int _ _), hold_bool (.atom _ _ rfl) (.int _ _) (op_geq_t q8), hold_bool (.atom _ _ rfl) (.int _ _) (op_lss_t q9), hold_bool (.atom _ _ rfl) (.int _ _) (op_lss_f (by first | omega | assumption)), hold_bool (.atom _ _ rfl) (.int _ _) (op_geq_f (by first | omega | assumption)), hold_op (.int _ _) (.atom _ _ rfl) o10 (.atom _ _ rfl), hold_op (.atom _ _ rfl) (.int _ _) (o11 .i64) (.atom _ _ rfl), hold_bool (.atom _ _ rfl) (.int _ _) (op_geq_t (by first | omega | assumption)), hold_bool (.atom _ _ rfl) (.int _ _) (op_lss_t (by first | omega | assumption)), hold_bool (.atom _ _ rfl) (.int _ _) (op_geq_t (by first | omega | assumption)), hold_bool (.atom _ _ rfl) (.int _ _) (op_lss_t (by first | omega | assumption)), hold_bool (.atom _ _ rfl) (.atom _ _ rfl) (op_neq_f rfl), hold_bool (.atom _ _ rfl) (.atom _ _ rfl) (op_lss_f (by first | omega | assumption)), hold_bool (.atom _ _ rfl) (.atom _ _ rfl) (op_eql_t rfl), hold_bool (.atom _ _ rfl) (.atom _ _ rfl) (op_eql_t rfl), hold_fix (.atom _ _ rfl) (by omega), hold_fix (.atom _ _ rfl) (by omega), trivial⟩ Zw.i8 rfl rfl rowsHold_nil Zw.r8
          ·
            exfalso; omega
          ·
            exfalso; omega
          ·
            exfalso; omega
          ·
            exact Zw.fx Zw.t9 [(.int .i64 d1), (.int .i64 d2), (.int .i64 d10), (.int .i64 d11)] [] (Zw.kS _) ⟨hold_op (.atom _ _ rfl) (.int _ _) (o1 .i64) (.atom _ _ rfl), hold_op (.atom _ _ rfl) (.int _ _) o2 (.atom _ _ rfl), hold_op (.atom _ _ rfl) (.int _ _) (by have := (o3 .i64); rw [k3] at this; exact this) (.int _ _), hold_bool (.atom _ _ rfl) (.int _ _) (op_geq_t q8), hold_bool (.atom _ _ rfl) (.int _ _) (op_lss_t q9), hold_bool (.atom _ _ rfl) (.int _ _) (op_lss_f (by first | omega | assumption)), hold_bool (.atom _ _ rfl) (.int _ _) (op_geq_f (by first | omega | assumption)), hold_op (.int _ _) (.atom _ _ rfl) o10 (.atom _ _ rfl), hold_op (.atom _ _ rfl) (.int _ _) (o11 .i64) (.atom _ _ rfl), hold_bool (.atom _ _ rfl) (.int _ _) (op_geq_t (by first | omega | assumption)), hold_bool (.atom _ _ rfl) (.int _ _) (op_lss_t (by first | omega | assumption)), hold_bool (.atom _ _ rfl) (.int _ _) (op_geq_t (by first | omega | assumption)), hold_bool (.atom _ _ rfl) (.int _ _) (op_lss_t (by first | omega | assumption)), hold_bool (.atom _ _ rfl) (.atom _ _ rfl) (op_neq_f rfl), hold_bool (.atom _ _ rfl) (.atom _ _ rfl) (op_lss_f (by first | omega | assumption)), hold_bool (.atom _ _ rfl) (.atom _ _ rfl) (op_eql_t rfl), hold_bool (.atom _ _ rfl) (.atom _ _ rfl) (op_eql_t rfl), hold_fix (.atom _ _ rfl) (by omega), hold_fix (.atom _ _ rfl) (by omega), trivial⟩ Zw.i9 rfl rfl rowsHold_nil Zw.r9
        ·
          rcases (show d10 = 2 ∨ d10 = 3 ∨ d10 = 4 ∨ d10 = 5 ∨ d10 = 6 by omega) with q15 | q15 | q15 | q15 | q15
          ·
            exact Zw.fx Zw.t10 [(.int .i64 d1), (.int .i64 d2), (.int .i64 d10), (.int .i64 d11)] [] (Zw.kS _) ⟨hold_op (.atom _ _ rfl) (.int _ _) (o1 .i64) (.atom _ _ rfl), hold_op (.atom _ _ rfl) (.int _ _) o2 (.atom _ _ rfl), hold_op (.atom _ _ rfl) (.int _ _) (by have := (o3 .i64); rw [k3] at this; exact this) (.int _ _), hold_bool (.atom _ _ rfl) (.int _ _) (op_geq_t q8), hold_bool (.atom _ _ rfl) (.int _ _) (op_lss_t q9), hold_bool (.atom _ _ rfl) (.int _ _) (op_lss_f (by first | omega | assumption)), hold_bool (.atom _ _ rfl) (.int _ _) (op_geq_f (by first | omega | assumption)), hold_op (.int _ _) (.atom _ _ rfl) o10 (.atom _ _ rfl), hold_op (.atom _ _ rfl) (.int _ _) (o11 .i64) (.atom _ _ rfl), hold_bool (.atom _ _ rfl) (.int _ _) (op_geq_t (by first | omega | assumption)), hold_bool (.atom _ _ rfl) (.int _ _) (op_lss_t (by first | omega | assumption)), hold_bool (.atom _ _ rfl) (.int _ _) (op_geq_t (by first | omega | assumption)), hold_bool (.atom _ _ rfl) (.int _ _) (op_lss_t (by first | omega | assumption)), hold_bool (.atom _ _ rfl) (.atom _ _ rfl) (op_neq_f rfl), hold_bool (.atom _ _ rfl) (.atom _ _ rfl) (op_lss_f (by first | omega | assumption)), hold_bool (.atom _ _ rfl) (.atom _ _ rfl) (op_eql_t rfl), hold_bool (.atom _ _ rfl) (.atom _ _ rfl) (op_eql_t rfl), hold_fix (.atom _ _ rfl) (by omega), hold_fix (.atom _ _ rfl) (by omega), trivial⟩ Zw.i10 rfl rfl rowsHold_nil Zw.r10
          ·
            exfalso; omega
          ·
            exfalso; omega
          ·
            exfalso; omega
          ·
            exact Zw.fx Zw.t11 [(.int .i64 d1), (.int .i64 d2), (.int .i64 d10), (.int .i64 d11)] [] (Zw.kS _) ⟨hold_op (.atom _ _ rfl) (.int _ _) (o1 .i64) (.atom _ _ rfl), hold_op (.atom _ _ rfl) (.int _ _) o2 (.atom _ _ rfl), hold_op (.atom _ _ rfl) (.int _ _) (by have := (o3 .i64); rw [k3] at this; exact this) (.int _ _), hold_bool (.atom _ _ rfl) (.int _ _) (op_geq_t q8), hold_bool (.atom _ _ rfl) (.int _ _) (op_lss_t q9), hold_bool (.atom _ _ rfl) (.int _ _) (op_lss_f (by first | omega | assumption)), hold_bool (.atom _ _ rfl) (.int _ _) (op_geq_f (by first | omega | assumption)), hold_op (.int _ _) (.atom _ _ rfl) o10 (.atom _ _ rfl), hold_op (.atom _ _ rfl) (.int _ _) (o11 .i64) (.atom _ _ rfl), hold_bool (.atom _ _ rfl) (.int _ _) (op_geq_t (by first | omega | assumption)), hold_bool (.atom _ _ rfl) (.int _ _) (op_lss_t (by first | omega | assumption)), hold_bool (.atom _ _ rfl) (.int _ _) (op_geq_t (by first | omega | assumption)), hold_bool (.atom _ _ rfl) (.int _ _) (op_lss_t (by first | omega | assumption)), hold_bool (.atom _ _ rfl) (.atom _ _ rfl) (op_neq_f rfl), hold_bool (.atom _ _ rfl) (.atom _ _ rfl) (op_lss_f (by first | omega | assumption)), hold_bool (.atom _ _ rfl) (.atom _ _ rfl) (op_eql_t rfl), hold_bool (.atom _ _ rfl) (.atom _ _ rfl) (op_eql_t rfl), hold_fix (.atom _ _ rfl) (by omega), hold_fix (.atom _ _ rfl) (by omega), trivial⟩ Zw.i11 rfl rfl rowsHold_nil Zw.r11
        ·
          rcases (show d10 = 3 ∨ d10 = 4 ∨ d10 = 5 ∨ d10 = 6 ∨ d10 = 7 by omega) with q16 | q16 | q16 | q16 | q16
          ·
            exact Zw.fx Zw.t12 [(.int .i64 d1), (.int .i64 d2), (.int .i64 d10), (.int .i64 d11)] [] (Zw.kS _) ⟨hold_op (.atom _ _ rfl) (.int _ _) (o1 .i64) (.atom _ _ rfl), hold_op (.atom _ _ rfl) (.int _ _) o2 (.atom _ _ rfl), hold_op (.atom _ _ rfl) (.int _ _) (by have := (o3 .i64); rw [k3] at this; exact this) (.int _ _), hold_bool (.atom _ _ rfl) (.int _ _) (op_geq_t q8), hold_bool (.atom _ _ rfl) (.int _ _) (op_lss_t q9), hold_bool (.atom _ _ rfl) (.int _ _) (op_lss_f (by first | omega | assumption)), hold_bool (.atom _ _ rfl) (.int _ _) (op_geq_f (by first | omega | assumption)), hold_op (.int _ _) (.atom _ _ rfl) o10 (.atom _ _ rfl), hold_op (.atom _ _ rfl) (.int _ _) (o11 .i64) (.atom _ _ rfl), hold_bool (.atom _ _ rfl) (.int _ _) (op_geq_t (by first | omega | assumption)), hold_bool (.atom _ _ rfl) (.int _ _) (op_lss_t (by first | omega | assumption)), hold_bool (.atom _ _ rfl) (.int _ _) (op_geq_t (by first | omega | assumption)), hold_bool (.atom _ _ rfl) (.int _ _) (op_lss_t (by first | omega | assumption)), hold_bool (.atom _ _ rfl) (.atom _ _ rfl) (op_neq_f rfl), hold_bool (.atom _ _ rfl) (.atom _ _ rfl) (op_lss_f (by first | omega | assumption)), hold_bool (.atom _ _ rfl) (.atom _ _ rfl) (op_eql_t rfl), hold_bool (.atom _ _ rfl) (.atom _ _ rfl) (op_eql_t rfl), hold_fix (.atom _ _ rfl) (by omega), hold_fix (.atom _ _ rfl) (by omega), trivial⟩ Zw.i12 rfl rfl rowsHold_nil Zw.r12
          ·
            exfalso; omega
          ·
            exfalso; omega
          ·
            exfalso; omega
          ·
            exact Zw.fx Zw.t13 [(.int .i64 d1), (.int .i64 d2), (.int .i64 d10), (.int .i64 d11)] [] (Zw.kS _) ⟨hold_op (.atom _ _ rfl) (.int _ _) (o1 .i64) (.atom _ _ rfl), hold_op (.atom _ _ rfl) (.int _ _) o2 (.atom _ _ rfl), hold_op (.atom _ _ rfl) (.int _ _) (by have := (o3 .i64); rw [k3] at this; exact this) (.int _ _), hold_bool (.atom _ _ rfl) (.int _ _) (op_geq_t q8), hold_bool (.atom _ _ rfl) (.int _ _) (op_lss_t q9), hold_bool (.atom _ _ rfl) (.int _ _) (op_lss_f (by first | omega | assumption)), hold_bool (.atom _ _ rfl) (.int _ _) (op_geq_f (by first | omega | assumption)), hold_op (.int _ _) (.atom _ _ rfl) o10 (.atom _ _ rfl), hold_op (.atom _ _ rfl) (.int _ _) (o11 .i64) (.atom _ _ rfl), hold_bool (.atom _ _ rfl) (.int _ _) (op_geq_t (by first | omega | assumption)), hold_bool (.atom _ _ rfl) (.int _ _) (op_lss_t (by first | omega | assumption)), hold_bool (.atom _ _ rfl) (.int _ _) (op_geq_t (by first | omega | assumption)), hold_bool (.atom _ _ rfl) (.int _ _) (op_lss_t (by first | omega | assumption)), hold_bool (.atom _ _ rfl) (.atom _ _ rfl) (op_neq_f rfl), hold_bool (.atom _ _ rfl) (.atom _ _ rfl) (op_lss_f (by first | omega | assumption)), hold_bool (.atom _ _ rfl) (.atom _ _ rfl) (op_eql_t rfl), hold_bool (.atom _ _ rfl) (.atom _ _ rfl) (op_eql_t rfl), hold_fix (.atom _ _ rfl) (by omega), hold_fix (.atom _ _ rfl) (by omega), trivial⟩ Zw.i13 rfl rfl rowsHold_nil Zw.r13
      ·
        exact Zw.fx Zw.t14 [(.int .i64 d1), (.int .i64 d2)] [] (Zw.kS _) ⟨hold_op (.atom _ _ rfl) (.int _ _) (o1 .i64) (.atom _ _ rfl), hold_op (.atom _ _ rfl) (.int _ _) o2 (.atom _ _ rfl), hold_op (.atom _ _ rfl) (.int _ _) (by have := (o3 .i64); rw [k3] at this; exact this) (.int _ _), hold_bool (.atom _ _ rfl) (.int _ _) (op_geq_t q8), hold_bool (.atom _ _ rfl) (.int _ _) (op_lss_f (Int.not_lt.1 q9)), trivial⟩ Zw.i14 rfl rfl rowsHold_nil Zw.r14
    ·
      exact Zw.fx Zw.t15 [(.int .i64 d1), (.int .i64 d2)] [] (Zw.kS _) ⟨hold_op (.atom _ _ rfl) (.int _ _) (o1 .i64) (.atom _ _ rfl), hold_op (.atom _ _ rfl) (.int _ _) o2 (.atom _ _ rfl), hold_op (.atom _ _ rfl) (.int _ _) (by have := (o3 .i64); rw [k3] at this; exact this) (.int _ _), hold_bool (.atom _ _ rfl) (.int _ _) (op_geq_f (Int.not_le.1 q8)), trivial⟩ Zw.i15 rfl rfl rowsHold_nil Zw.r15
  ·
    by_cases q17 : (0 : Int) ≤ n1
    ·
      by_cases q18 : n1 < (4 : Int)
      ·
        rcases (show n1 = 0 ∨ n1 = 1 ∨ n1 = 2 ∨ n1 = 3 by omega) with q19 | q19 | q19 | q19
        ·
          exact Zw.fx Zw.t16 [(.int .i64 d1), (.int .i64 d2)] [] (Zw.kS _) ⟨hold_op (.atom _ _ rfl) (.int _ _) (o1 .i64) (.atom _ _ rfl), hold_op (.atom _ _ rfl) (.int _ _) o2 (.atom _ _ rfl), hold_op (.atom _ _ rfl) (.int _ _) (by have := (o3 .i64); rw [k3] at this; exact this) (.int _ _), hold_bool (.atom _ _ rfl) (.int _ _) (op_geq_t q17), hold_bool (.atom _ _ rfl) (.int _ _) (op_lss_t q18), hold_fix (.atom _ _ rfl) (by omega), trivial⟩ Zw.i16 rfl rfl rowsHold_nil Zw.r16
        ·
          exact Zw.fx Zw.t17 [(.int .i64 d1), (.int .i64 d2)] [] (Zw.kS _) ⟨hold_op (.atom _ _ rfl) (.int _ _) (o1 .i64) (.atom _ _ rfl), hold_op (.atom _ _ rfl) (.int _ _) o2 (.atom _ _ rfl), hold_op (.atom _ _ rfl) (.int _ _) (by have := (o3 .i64); rw [k3] at this; exact this) (.int _ _), hold_bool (.atom _ _ rfl) (.int _ _) (op_geq_t q17), hold_bool (.atom _ _ rfl) (.int _ _) (op_lss_t q18), hold_fix (.atom _ _ rfl) (by omega), trivial⟩ Zw.i17 rfl rfl rowsHold_nil Zw.r17
        ·
          exact Zw.fx Zw.t18 [(.int .i64 d1), (.int .i64 d2)] [] (Zw.kS _) ⟨hold_op (.atom _ _ rfl) (.int _ _) (o1 .i64) (.atom _ _ rfl), hold_op (.atom _ _ rfl) (.int _ _) o2 (.atom _ _ rfl), hold_op (.atom _ _ rfl) (.int _ _) (by have := (o3 .i64); rw [k3] at this; exact this) (.int _ _), hold_bool (.atom _ _ rfl) (.int _ _) (op_geq_t q17), hold_bool (.atom _ _ rfl) (.int _ _) (op_lss_t q18), hold_fix (.atom _ _ rfl) (by omega), trivial⟩ Zw.i18 rfl rfl rowsHold_nil Zw.r18
        ·
          exact Zw.fx Zw.t19 [(.int .i64 d1), (.int .i64 d2)] [] (Zw.kS _) ⟨hold_op (.atom _ _ rfl) (.int _ _) (o1 .i64) (.atom _ _ rfl), hold_op (.atom _ _ rfl) (.int _ _) o2 (.atom _ _ rfl), hold_op (.atom _ _ rfl) (.int _ _) (by have := (o3 .i64); rw [k3] at this; exact this) (.int _ _), hold_bool (.atom _ _ rfl) (.int _ _) (op_geq_t q17), hold_bool (.atom _ _ rfl) (.int _ _) (op_lss_t q18), hold_fix (.atom _ _ rfl) (by omega), trivial⟩ Zw.i19 rfl rfl rowsHold_nil Zw.r19
      ·
        exact Zw.fx Zw.t20 [(.int .i64 d1), (.int .i64 d2)] [] (Zw.kS _) ⟨hold_op (.atom _ _ rfl) (.int _ _) (o1 .i64) (.atom _ _ rfl), hold_op (.atom _ _ rfl) (.int _ _) o2 (.atom _ _ rfl), hold_op (.atom _ _ rfl) (.int _ _) (by have := (o3 .i64); rw [k3] at this; exact this) (.int _ _), hold_bool (.atom _ _ rfl) (.int _ _) (op_geq_t q17), hold_bool (.atom _ _ rfl) (.int _ _) (op_lss_f (Int.not_lt.1 q18)), trivial⟩ Zw.i20 rfl rfl rowsHold_nil Zw.r20
    ·
      exact Zw.fx Zw.t21 [(.int .i64 d1), (.int .i64 d2)] [] (Zw.kS _) ⟨hold_op (.atom _ _ rfl) (.int _ _) (o1 .i64) (.atom _ _ rfl), hold_op (.atom _ _ rfl) (.int _ _) o2 (.atom _ _ rfl), hold_op (.atom _ _ rfl) (.int _ _) (by have := (o3 .i64); rw [k3] at this; exact this) (.int _ _), hold_bool (.atom _ _ rfl) (.int _ _) (op_geq_f (Int.not_le.1 q17)), trivial⟩ Zw.i21 rfl rfl rowsHold_nil Zw.r21
  ·
    by_cases q20 : n1 < (0 : Int)
    ·
      exact Zw.fx Zw.t22 [(.int .i64 d1), (.int .i64 d2)] [] (Zw.kS _) ⟨hold_op (.atom _ _ rfl) (.int _ _) (o1 .i64) (.atom _ _ rfl), hold_op (.atom _ _ rfl) (.int _ _) o2 (.atom _ _ rfl), hold_op (.atom _ _ rfl) (.int _ _) (by have := (o3 .i64); rw [k3] at this; exact this) (.int _ _), hold_bool (.atom _ _ rfl) (.int _ _) (op_lss_t q20), trivial⟩ Zw.i22 rfl rfl rowsHold_nil Zw.r22
    ·
      by_cases q21 : (3 : Int) ≤ n1
      ·
        exact Zw.fx Zw.t23 [(.int .i64 d1), (.int .i64 d2)] [] (Zw.kS _) ⟨hold_op (.atom _ _ rfl) (.int _ _) (o1 .i64) (.atom _ _ rfl), hold_op (.atom _ _ rfl) (.int _ _) o2 (.atom _ _ rfl), hold_op (.atom _ _ rfl) (.int _ _) (by have := (o3 .i64); rw [k3] at this; exact this) (.int _ _), hold_bool (.atom _ _ rfl) (.int _ _) (op_lss_f (Int.not_lt.1 q20)), hold_bool (.atom _ _ rfl) (.int _ _) (op_geq_t q21), trivial⟩ Zw.i23 rfl rfl rowsHold_nil Zw.r23
      ·
        obtain ⟨d22, e22, g22, o22⟩ := ex_mul n1 (8 : Int)
        obtain ⟨d23, e23, g23, o23⟩ := ex_add d22 (1 : Int)
        obtain ⟨d24, ⟨y24, e24, z24, u24, w24⟩, g24, o24⟩ := ex_rem d23 (4 : Int) (by omega) (by omega)
        rcases (show d24 = 1 by omega) with q25
        ·
          rcases (show d23 = 1 ∨ d23 = 2 ∨ d23 = 3 ∨ d23 = 4 ∨ d23 = 5 ∨ d23 = 6 ∨ d23 = 7 ∨ d23 = 8 ∨ d23 = 9 ∨ d23 = 10 ∨ d23 = 11 ∨ d23 = 12 ∨ d23 = 13 ∨ d23 = 14 ∨ d23 = 15 ∨ d23 = 16 ∨ d23 = 17 by omega) with q26 | q26 | q26 | q26 | q26 | q26 | q26 | q26 | q26 | q26 | q26 | q26 | q26 | q26 | q26 | q26 | q26
          ·
            obtain ⟨d27, e27, g27, o27⟩ := ex_mul (8 : Int) n1
            obtain ⟨d28, e28, g28, o28⟩ := ex_add d27 (1 : Int)
            obtain ⟨d29, ⟨y29, e29, z29, u29, w29⟩, g29, o29⟩ := ex_rem d28 (4 : Int) (by omega) (by omega)
            exact Zw.fx Zw.t24 [(.int .i64 d1), (.int .i64 d2), (.int .i64 d27), (.int .i64 d28), (.int .i64 d29), (.int .i64 d22), (.int .i64 d23), (.int .i64 d24)] [] (Zw.kS _) ⟨hold_op (.atom _ _ rfl) (.int _ _) (o1 .i64) (.atom _ _ rfl), hold_op (.atom _ _ rfl) (.int _ _) o2 (.atom _ _ rfl), hold_op (.atom _ _ rfl) (.int _ _) (by have := (o3 .i64); rw [k3] at this; exact this) (.int _ _), hold_bool (.atom _ _ rfl) (.int _ _) (op_lss_f (Int.not_lt.1 q20)), hold_bool (.atom _ _ rfl) (.int _ _) (op_geq_f (Int.not_le.1 q21)), hold_op (.int _ _) (.atom _ _ rfl) o27 (.atom _ _ rfl), hold_op (.atom _ _ rfl) (.int _ _) o28 (.atom _ _ rfl), hold_op (.atom _ _ rfl) (.int _ _) (o29 .i64) (.atom _ _ rfl), hold_bool (.atom _ _ rfl) (.int _ _) (op_geq_t (by first | omega | assumption)), hold_bool (.atom _ _ rfl) (.int _ _) (op_lss_t (by first | omega | assumption)), hold_bool (.atom _ _ rfl) (.int _ _) (op_geq_t (by first | omega | assumption)), hold_bool (.atom _ _ rfl) (.int _ _) (op_lss_t (by first | omega | assumption)), hold_bool (.atom _ _ rfl) (.atom _ _ rfl) (op_neq_f rfl), hold_bool (.atom _ _ rfl) (.atom _ _ rfl) (op_lss_f (by first | omega | assumption)), hold_bool (.atom _ _ rfl) (.atom _ _ rfl) (op_eql_t rfl), hold_bool (.atom _ _ rfl) (.atom _ _ rfl) (op_eql_t rfl), hold_op (.atom _ _ rfl) (.int _ _) o22 (.atom _ _ rfl), hold_op (.atom _ _ rfl) (.int _ _) o23 (.atom _ _ rfl), hold_op (.atom _ _ rfl) (.int _ _) (o24 .i64) (.atom _ _ rfl), hold_fix (.atom _ _ rfl) (by omega), hold_fix (.atom _ _ rfl) (by omega), trivial⟩ Zw.i24 rfl rfl rowsHold_nil Zw.r24
          ·
            exfalso; omega
          ·
            exfalso; omega
          ·
            exfalso; omega
          ·
            exfalso; omega
          ·
            exfalso; omega
          ·
            exfalso; omega
          ·
            exfalso; omega
          ·
            obtain ⟨d30, e30, g30, o30⟩ := ex_mul (8 : Int) n1
            obtain ⟨d31, e31, g31, o31⟩ := ex_add d30 (1 : Int)
            obtain ⟨d32, ⟨y32, e32, z32, u32, w32⟩, g32, o32⟩ := ex_rem d31 (4 : Int) (by omega) (by omega)
            exact Zw.fx Zw.t25 [(.int .i64 d1), (.int .i64 d2), (.int .i64 d30), (.int .i64 d31), (.int .i64 d32), (.int .i64 d22), (.int .i64 d23), (.int .i64 d24)] [] (Zw.kS _) ⟨hold_op (.atom _ _ rfl) (.int _ _) (o1 .i64) (.atom _ _ rfl), hold_op (.atom _ _ rfl) (.int _ _) o2 (.atom _ _ rfl), hold_op (.atom _ _ rfl) (.int _ _) (by have := (o3 .i64); rw [k3] at this; exact this) (.int _ _), hold_bool (.atom _ _ rfl) (.int _ _) (op_lss_f (Int.not_lt.1 q20)), hold_bool (.atom _ _ rfl) (.int _ _) (op_geq_f (Int.not_le.1 q21)), hold_op (.int _ _) (.atom _ _ rfl) o30 (.atom _ _ rfl), hold_op (.atom _ _ rfl) (.int _ _) o31 (.atom _ _ rfl), hold_op (.atom _ _ rfl) (.int _ _) (o32 .i64) (.atom _ _ rfl), hold_bool (.atom _ _ rfl) (.int _ _) (op_geq_t (by first | omega | assumption)), hold_bool (.atom _ _ rfl) (.int _ _) (op_lss_t (by first | omega | assumption)), hold_bool (.atom _ _ rfl) (.int _ _) (op_geq_t (by first | omega | assumption)), hold_bool (.atom _ _ rfl) (.int _ _) (op_lss_t (by first | omega | assumption)), hold_bool (.atom _ _ rfl) (.atom _ _ rfl) (op_neq_f rfl), hold_bool (.atom _ _ rfl) (.atom _ _ rfl) (op_lss_f (by first | omega | assumption)), hold_bool (.atom _ _ rfl) (.atom _ _ rfl) (op_eql_t rfl), hold_bool (.atom _ _ rfl) (.atom _ _ rfl) (op_eql_t rfl), hold_op (.atom _ _ rfl) (.int _ _) o22 (.atom _ _ rfl), hold_op (.atom _ _ rfl) (.int _ _) o23 (.atom _ _ rfl), hold_op (.atom _ _ rfl) (.int _ _) (o24 .i64) (.atom _ _ rfl), hold_fix (.atom _ _ rfl) (by omega), hold_fix (.atom _ _ rfl) (by omega), trivial⟩ Zw.i25 rfl rfl rowsHold_nil Zw.r25
          ·
            exfalso; omega
          ·
            exfalso; omega
          ·
            exfalso; omega
          ·
            exfalso; omega
          ·
            exfalso; omega
          ·
            exfalso; omega
          ·
            exfalso; omega
          ·
            obtain ⟨d33, e33, g33, o33⟩ := ex_mul (8 : Int) n1
            obtain ⟨d34, e34, g34, o34⟩ := ex_add d33 (1 : Int)
            obtain ⟨d35, ⟨y35, e35, z35, u35, w35⟩, g35, o35⟩ := ex_rem d34 (4 : Int) (by omega) (by omega)
            exact Zw.fx Zw.t26 [(.int .i64 d1), (.int .i64 d2), (.int .i64 d33), (.int .i64 d34), (.int .i64 d35), (.int .i64 d22), (.int .i64 d23), (.int .i64 d24)] [] (Zw.kS _) ⟨hold_op (.atom _ _ rfl) (.int _ _) (o1 .i64) (.atom _ _ rfl), hold_op (.atom _ _ rfl) (.int _ _) o2 (.atom _ _ rfl), hold_op (.atom _ _ rfl) (.int _ _) (by have := (o3 .i64); rw [k3] at this; exact this) (.int _ _), hold_bool (.atom _ _ rfl) (.int _ _) (op_lss_f (Int.not_lt.1 q20)), hold_bool (.atom _ _ rfl) (.int _ _) (op_geq_f (Int.not_le.1 q21)), hold_op (.int _ _) (.atom _ _ rfl) o33 (.atom _ _ rfl), hold_op (.atom _ _ rfl) (.int _ _) o34 (.atom _ _ rfl), hold_op (.atom _ _ rfl) (.int _ _) (o35 .i64) (.atom _ _ rfl), hold_bool (.atom _ _ rfl) (.int _ _) (op_geq_t (by first | omega | assumption)), hold_bool (.atom _ _ rfl) (.int _ _) (op_lss_t (by first | omega | assumption)), hold_bool (.atom _ _ rfl) (.int _ _) (op_geq_t (by first | omega | assumption)), hold_bool (.atom _ _ rfl) (.int _ _) (op_lss_t (by first | omega | assumption)), hold_bool (.atom _ _ rfl) (.atom _ _ rfl) (op_neq_f rfl), hold_bool (.atom _ _ rfl) (.atom _ _ rfl) (op_lss_f (by first | omega | assumption)), hold_bool (.atom _ _ rfl) (.atom _ _ rfl) (op_eql_t rfl), hold_bool (.atom _ _ rfl) (.atom _ _ rfl) (op_eql_t rfl), hold_op (.atom _ _ rfl) (.int _ _) o22 (.atom _ _ rfl), hold_op (.atom _ _ rfl) (.int _ _) o23 (.atom _ _ rfl), hold_op (.atom _ _ rfl) (.int _ _) (o24 .i64) (.atom _ _ rfl), hold_fix (.atom _ _ rfl) (by omega), hold_fix (.atom _ _ rfl) (by omega), trivial⟩ Zw.i26 rfl rfl rowsHold_nil Zw.r26
  ·
    exact Zw.fx Zw.t27 [(.int .i64 d1), (.int .i64 d2)] [] (Zw.kS _) ⟨hold_op (.atom _ _ rfl) (.int _ _) (o1 .i64) (.atom _ _ rfl), hold_op (.atom _ _ rfl) (.int _ _) o2 (.atom _ _ rfl), hold_op (.atom _ _ rfl) (.int _ _) (by have := (o3 .i64); rw [k3] at this; exact this) (.int _ _), trivial⟩ Zw.i27 rfl rfl rowsHold_nil Zw.r27
end Go.Proofs
