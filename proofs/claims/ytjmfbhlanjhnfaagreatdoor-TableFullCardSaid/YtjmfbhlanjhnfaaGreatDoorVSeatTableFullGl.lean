/- The law, node by node; hence from its start, for every input. No conditions. -/
import Derived.Test.YtjmfbhlanjhnfaaGreatDoorVSeatTableFullR1
import Derived.Test.YtjmfbhlanjhnfaaGreatDoorVSeatTableFullR2
import Derived.Test.YtjmfbhlanjhnfaaGreatDoorVSeatTableFullR3
import Derived.Test.YtjmfbhlanjhnfaaGreatDoorVSeatTableFullR4
set_option linter.all false
namespace Go.Proofs
open Go Go.Vsx Go.RowKit
set_option maxRecDepth 1000000
set_option maxHeartbeats 4000000
set_option linter.unusedVariables false
theorem Zw.r64a {x : Int} (h : R64 x) : -9223372036854775808 ≤ x ∧ x < 9223372036854775808 := h
theorem Zw.nx {W : World} {pt pt' : Pt} {d d' : Nd} {vals : List Value} {roc : List (List Value)} {j hk : Nat} {rl : List (Nat × Nat)} {A : List Value} (t : List SE) (ex : List Value) (rows : List Pl) (vals' : List Value)
    (hok : ∀ sy, okPt (Tryz.Es Tryz.m4 sy) 8 pt = true) (hold : AllHold (nodeMu 8 rows (vals ++ ex)) t)
    (hid : d.sub 8 roc (idl 8 d.objs) (idA hk) (d.st 8 []) = true) (hlen : hk = vals.length) (hone : (vals ++ ex).all (·.oneCell') = true) (hrow : RowsHold W (nodeMu 8 rows (vals ++ ex)) rows roc)
    (hrun : leafNext (fK (Tryz.Es Tryz.m4 (syOf t)) 100000 100000 pt (d.st 8 roc) j) 8 d' rl A = some pt') (hA : evL (nodeMu 8 rows (vals ++ ex)) A = some vals') (hone' : vals'.all (·.oneCell') = true)
    (h : NdGood Tryz.prog Tryz.f7 8 Tryz.H0 W pt' d' vals') : NdGood Tryz.prog Tryz.f7 8 Tryz.H0 W pt d vals :=
  NdGood.next (E := Tryz.Es Tryz.m4 (syOf t)) (extras := ex) (rows := rows) (vals' := vals') (by omega) (Tryz.right Tryz.m4 (syOf t) _ W Tryz.mOk4 (symOk_of rfl hold)) (hok _) hid hlen hone hrow hrun hA hone' h
theorem Zw.fx {W : World} {pt : Pt} {d : Nd} {vals : List Value} {roc : List (List Value)} {j hk : Nat} (t : List SE) (ex : List Value) (rows : List Pl)
    (hok : ∀ sy, okPt (Tryz.Es Tryz.m4 sy) 8 pt = true) (hold : AllHold (nodeMu 8 rows (vals ++ ex)) t)
    (hid : d.sub 8 roc (idl 8 d.objs) (idA hk) (d.st 8 []) = true) (hlen : hk = vals.length) (hone : (vals ++ ex).all (·.oneCell') = true) (hrow : RowsHold W (nodeMu 8 rows (vals ++ ex)) rows roc)
    (hrun : leafFin (Tryz.Es Tryz.m4 (syOf t)) Tryz.f7 (fK (Tryz.Es Tryz.m4 (syOf t)) 100000 100000 pt (d.st 8 roc) j) = true) : NdGood Tryz.prog Tryz.f7 8 Tryz.H0 W pt d vals :=
  NdGood.fin (E := Tryz.Es Tryz.m4 (syOf t)) (extras := ex) (rows := rows) (by omega) (Tryz.right Tryz.m4 (syOf t) _ W Tryz.mOk4 (symOk_of rfl hold)) (hok _) hid hlen hone hrow hrun

theorem Zw.n102 {W : World} {n0 : Int} {n1 : Int} (r0 : R64 n0) (r1 : R64 n1) (x0 : Int) (x2 : Int) (g0x : R64 x0) (g2x : R64 x2) (j0 : (0 ≤ x0 ∧ x0 < 12)) (j1 : (((101 : Int) ≤ 100 → x2 = (n1 * (101 : Int) + 9223372036854775808) % 18446744073709551616 - 9223372036854775808))) : NdGood Tryz.prog Tryz.f7 8 Tryz.H0 W Zw.p0 Zw.d102 [(.int .i64 x0), (.int .i64 n1), (.int .i64 x2)] := by
  have ⟨gl0, gh0⟩ := g0x
  have ⟨gl2, gh2⟩ := g2x
  have ⟨rl0, rh0⟩ := r0
  have ⟨rl1, rh1⟩ := r1
  obtain ⟨d1, e1, g1, o1⟩ := ex_add (90 : Int) x0
  exact Zw.fx Zw.t113 [(.int .i64 d1)] [] (Zw.k0 _) ⟨hold_op (.int _ _) (.atom _ _ rfl) o1 (.atom _ _ rfl), hold_bool (.int _ _) (.atom _ _ rfl) (op_lss_f (by first | omega | assumption)), trivial⟩ Zw.i113 rfl rfl rowsHold_nil Zw.r113
theorem Zw.n101 {W : World} {n0 : Int} {n1 : Int} (r0 : R64 n0) (r1 : R64 n1) (x0 : Int) (x2 : Int) (g0x : R64 x0) (g2x : R64 x2) (j0 : (0 ≤ x0 ∧ x0 < 12)) (j1 : (((100 : Int) ≤ 100 → x2 = (n1 * (100 : Int) + 9223372036854775808) % 18446744073709551616 - 9223372036854775808))) : NdGood Tryz.prog Tryz.f7 8 Tryz.H0 W Zw.p0 Zw.d101 [(.int .i64 x0), (.int .i64 n1), (.int .i64 x2)] := by
  have ⟨gl0, gh0⟩ := g0x
  have ⟨gl2, gh2⟩ := g2x
  have ⟨rl0, rh0⟩ := r0
  have ⟨rl1, rh1⟩ := r1
  obtain ⟨d1, e1, g1, o1⟩ := ex_add (90 : Int) x0
  by_cases q2 : (100 : Int) < d1
  ·
    obtain ⟨d3, e3, g3, o3⟩ := ex_add x2 n1
    exact Zw.nx Zw.t111 [(.int .i64 d1), (.int .i64 d3)] [] [(.int .i64 x0), (.int .i64 n1), (.int .i64 x2)] (Zw.k0 _) ⟨hold_op (.int _ _) (.atom _ _ rfl) o1 (.atom _ _ rfl), hold_bool (.int _ _) (.atom _ _ rfl) (op_lss_t q2), hold_op (.atom _ _ rfl) (.atom _ _ rfl) o3 (.atom _ _ rfl), trivial⟩ Zw.i111 rfl rfl rowsHold_nil Zw.r111 rfl rfl (Zw.n102 r0 r1 x0 x2 (by first | assumption | (constructor <;> omega) | trivial) (by first | assumption | (constructor <;> omega) | trivial) (by first | omega | assumption | (intro hh; omega)) (by first | omega | assumption | (intro hh; omega)))
  ·
    exact Zw.fx Zw.t112 [(.int .i64 d1)] [] (Zw.k0 _) ⟨hold_op (.int _ _) (.atom _ _ rfl) o1 (.atom _ _ rfl), hold_bool (.int _ _) (.atom _ _ rfl) (op_lss_f (Int.not_lt.1 q2)), trivial⟩ Zw.i112 rfl rfl rowsHold_nil Zw.r112
theorem Zw.n100 {W : World} {n0 : Int} {n1 : Int} (r0 : R64 n0) (r1 : R64 n1) (x0 : Int) (x2 : Int) (g0x : R64 x0) (g2x : R64 x2) (j0 : (0 ≤ x0 ∧ x0 < 12)) (j1 : (((99 : Int) ≤ 100 → x2 = (n1 * (99 : Int) + 9223372036854775808) % 18446744073709551616 - 9223372036854775808))) : NdGood Tryz.prog Tryz.f7 8 Tryz.H0 W Zw.p0 Zw.d100 [(.int .i64 x0), (.int .i64 n1), (.int .i64 x2)] := by
  have ⟨gl0, gh0⟩ := g0x
  have ⟨gl2, gh2⟩ := g2x
  have ⟨rl0, rh0⟩ := r0
  have ⟨rl1, rh1⟩ := r1
  obtain ⟨d1, e1, g1, o1⟩ := ex_add (90 : Int) x0
  by_cases q2 : (99 : Int) < d1
  ·
    obtain ⟨d3, e3, g3, o3⟩ := ex_add x2 n1
    obtain ⟨d4, e4, g4, o4⟩ := ex_mul n1 (100 : Int)
    exact Zw.nx Zw.t109 [(.int .i64 d1), (.int .i64 d3), (.int .i64 d4)] [] [(.int .i64 x0), (.int .i64 n1), (.int .i64 d3)] (Zw.k0 _) ⟨hold_op (.int _ _) (.atom _ _ rfl) o1 (.atom _ _ rfl), hold_bool (.int _ _) (.atom _ _ rfl) (op_lss_t q2), hold_op (.atom _ _ rfl) (.atom _ _ rfl) o3 (.atom _ _ rfl), hold_op (.atom _ _ rfl) (.int _ _) o4 (.atom _ _ rfl), hold_bool (.atom _ _ rfl) (.atom _ _ rfl) (op_neq_f (by first | omega | assumption)), trivial⟩ Zw.i109 rfl rfl rowsHold_nil Zw.r109 rfl rfl (Zw.n101 r0 r1 x0 d3 (by first | assumption | (constructor <;> omega) | trivial) (by first | assumption | (constructor <;> omega) | trivial) (by first | omega | assumption | (intro hh; omega)) (by first | omega | assumption | (intro hh; omega)))
  ·
    exact Zw.fx Zw.t110 [(.int .i64 d1)] [] (Zw.k0 _) ⟨hold_op (.int _ _) (.atom _ _ rfl) o1 (.atom _ _ rfl), hold_bool (.int _ _) (.atom _ _ rfl) (op_lss_f (Int.not_lt.1 q2)), trivial⟩ Zw.i110 rfl rfl rowsHold_nil Zw.r110
theorem Zw.n99 {W : World} {n0 : Int} {n1 : Int} (r0 : R64 n0) (r1 : R64 n1) (x0 : Int) (x2 : Int) (g0x : R64 x0) (g2x : R64 x2) (j0 : (0 ≤ x0 ∧ x0 < 12)) (j1 : (((98 : Int) ≤ 100 → x2 = (n1 * (98 : Int) + 9223372036854775808) % 18446744073709551616 - 9223372036854775808))) : NdGood Tryz.prog Tryz.f7 8 Tryz.H0 W Zw.p0 Zw.d99 [(.int .i64 x0), (.int .i64 n1), (.int .i64 x2)] := by
  have ⟨gl0, gh0⟩ := g0x
  have ⟨gl2, gh2⟩ := g2x
  have ⟨rl0, rh0⟩ := r0
  have ⟨rl1, rh1⟩ := r1
  obtain ⟨d1, e1, g1, o1⟩ := ex_add (90 : Int) x0
  by_cases q2 : (98 : Int) < d1
  ·
    obtain ⟨d3, e3, g3, o3⟩ := ex_add x2 n1
    obtain ⟨d4, e4, g4, o4⟩ := ex_mul n1 (99 : Int)
    exact Zw.nx Zw.t107 [(.int .i64 d1), (.int .i64 d3), (.int .i64 d4)] [] [(.int .i64 x0), (.int .i64 n1), (.int .i64 d3)] (Zw.k0 _) ⟨hold_op (.int _ _) (.atom _ _ rfl) o1 (.atom _ _ rfl), hold_bool (.int _ _) (.atom _ _ rfl) (op_lss_t q2), hold_op (.atom _ _ rfl) (.atom _ _ rfl) o3 (.atom _ _ rfl), hold_op (.atom _ _ rfl) (.int _ _) o4 (.atom _ _ rfl), hold_bool (.atom _ _ rfl) (.atom _ _ rfl) (op_neq_f (by first | omega | assumption)), trivial⟩ Zw.i107 rfl rfl rowsHold_nil Zw.r107 rfl rfl (Zw.n100 r0 r1 x0 d3 (by first | assumption | (constructor <;> omega) | trivial) (by first | assumption | (constructor <;> omega) | trivial) (by first | omega | assumption | (intro hh; omega)) (by first | omega | assumption | (intro hh; omega)))
  ·
    exact Zw.fx Zw.t108 [(.int .i64 d1)] [] (Zw.k0 _) ⟨hold_op (.int _ _) (.atom _ _ rfl) o1 (.atom _ _ rfl), hold_bool (.int _ _) (.atom _ _ rfl) (op_lss_f (Int.not_lt.1 q2)), trivial⟩ Zw.i108 rfl rfl rowsHold_nil Zw.r108
theorem Zw.n98 {W : World} {n0 : Int} {n1 : Int} (r0 : R64 n0) (r1 : R64 n1) (x0 : Int) (x2 : Int) (g0x : R64 x0) (g2x : R64 x2) (j0 : (0 ≤ x0 ∧ x0 < 12)) (j1 : (((97 : Int) ≤ 100 → x2 = (n1 * (97 : Int) + 9223372036854775808) % 18446744073709551616 - 9223372036854775808))) : NdGood Tryz.prog Tryz.f7 8 Tryz.H0 W Zw.p0 Zw.d98 [(.int .i64 x0), (.int .i64 n1), (.int .i64 x2)] := by
  have ⟨gl0, gh0⟩ := g0x
  have ⟨gl2, gh2⟩ := g2x
  have ⟨rl0, rh0⟩ := r0
  have ⟨rl1, rh1⟩ := r1
  obtain ⟨d1, e1, g1, o1⟩ := ex_add (90 : Int) x0
  by_cases q2 : (97 : Int) < d1
  ·
    obtain ⟨d3, e3, g3, o3⟩ := ex_add x2 n1
    obtain ⟨d4, e4, g4, o4⟩ := ex_mul n1 (98 : Int)
    exact Zw.nx Zw.t105 [(.int .i64 d1), (.int .i64 d3), (.int .i64 d4)] [] [(.int .i64 x0), (.int .i64 n1), (.int .i64 d3)] (Zw.k0 _) ⟨hold_op (.int _ _) (.atom _ _ rfl) o1 (.atom _ _ rfl), hold_bool (.int _ _) (.atom _ _ rfl) (op_lss_t q2), hold_op (.atom _ _ rfl) (.atom _ _ rfl) o3 (.atom _ _ rfl), hold_op (.atom _ _ rfl) (.int _ _) o4 (.atom _ _ rfl), hold_bool (.atom _ _ rfl) (.atom _ _ rfl) (op_neq_f (by first | omega | assumption)), trivial⟩ Zw.i105 rfl rfl rowsHold_nil Zw.r105 rfl rfl (Zw.n99 r0 r1 x0 d3 (by first | assumption | (constructor <;> omega) | trivial) (by first | assumption | (constructor <;> omega) | trivial) (by first | omega | assumption | (intro hh; omega)) (by first | omega | assumption | (intro hh; omega)))
  ·
    exact Zw.fx Zw.t106 [(.int .i64 d1)] [] (Zw.k0 _) ⟨hold_op (.int _ _) (.atom _ _ rfl) o1 (.atom _ _ rfl), hold_bool (.int _ _) (.atom _ _ rfl) (op_lss_f (Int.not_lt.1 q2)), trivial⟩ Zw.i106 rfl rfl rowsHold_nil Zw.r106
theorem Zw.n97 {W : World} {n0 : Int} {n1 : Int} (r0 : R64 n0) (r1 : R64 n1) (x0 : Int) (x2 : Int) (g0x : R64 x0) (g2x : R64 x2) (j0 : (0 ≤ x0 ∧ x0 < 12)) (j1 : (((96 : Int) ≤ 100 → x2 = (n1 * (96 : Int) + 9223372036854775808) % 18446744073709551616 - 9223372036854775808))) : NdGood Tryz.prog Tryz.f7 8 Tryz.H0 W Zw.p0 Zw.d97 [(.int .i64 x0), (.int .i64 n1), (.int .i64 x2)] := by
  have ⟨gl0, gh0⟩ := g0x
  have ⟨gl2, gh2⟩ := g2x
  have ⟨rl0, rh0⟩ := r0
  have ⟨rl1, rh1⟩ := r1
  obtain ⟨d1, e1, g1, o1⟩ := ex_add (90 : Int) x0
  by_cases q2 : (96 : Int) < d1
  ·
    obtain ⟨d3, e3, g3, o3⟩ := ex_add x2 n1
    obtain ⟨d4, e4, g4, o4⟩ := ex_mul n1 (97 : Int)
    exact Zw.nx Zw.t103 [(.int .i64 d1), (.int .i64 d3), (.int .i64 d4)] [] [(.int .i64 x0), (.int .i64 n1), (.int .i64 d3)] (Zw.k0 _) ⟨hold_op (.int _ _) (.atom _ _ rfl) o1 (.atom _ _ rfl), hold_bool (.int _ _) (.atom _ _ rfl) (op_lss_t q2), hold_op (.atom _ _ rfl) (.atom _ _ rfl) o3 (.atom _ _ rfl), hold_op (.atom _ _ rfl) (.int _ _) o4 (.atom _ _ rfl), hold_bool (.atom _ _ rfl) (.atom _ _ rfl) (op_neq_f (by first | omega | assumption)), trivial⟩ Zw.i103 rfl rfl rowsHold_nil Zw.r103 rfl rfl (Zw.n98 r0 r1 x0 d3 (by first | assumption | (constructor <;> omega) | trivial) (by first | assumption | (constructor <;> omega) | trivial) (by first | omega | assumption | (intro hh; omega)) (by first | omega | assumption | (intro hh; omega)))
  ·
    exact Zw.fx Zw.t104 [(.int .i64 d1)] [] (Zw.k0 _) ⟨hold_op (.int _ _) (.atom _ _ rfl) o1 (.atom _ _ rfl), hold_bool (.int _ _) (.atom _ _ rfl) (op_lss_f (Int.not_lt.1 q2)), trivial⟩ Zw.i104 rfl rfl rowsHold_nil Zw.r104
theorem Zw.n96 {W : World} {n0 : Int} {n1 : Int} (r0 : R64 n0) (r1 : R64 n1) (x0 : Int) (x2 : Int) (g0x : R64 x0) (g2x : R64 x2) (j0 : (0 ≤ x0 ∧ x0 < 12)) (j1 : (((95 : Int) ≤ 100 → x2 = (n1 * (95 : Int) + 9223372036854775808) % 18446744073709551616 - 9223372036854775808))) : NdGood Tryz.prog Tryz.f7 8 Tryz.H0 W Zw.p0 Zw.d96 [(.int .i64 x0), (.int .i64 n1), (.int .i64 x2)] := by
  have ⟨gl0, gh0⟩ := g0x
  have ⟨gl2, gh2⟩ := g2x
  have ⟨rl0, rh0⟩ := r0
  have ⟨rl1, rh1⟩ := r1
  obtain ⟨d1, e1, g1, o1⟩ := ex_add (90 : Int) x0
  by_cases q2 : (95 : Int) < d1
  ·
    obtain ⟨d3, e3, g3, o3⟩ := ex_add x2 n1
    obtain ⟨d4, e4, g4, o4⟩ := ex_mul n1 (96 : Int)
    exact Zw.nx Zw.t101 [(.int .i64 d1), (.int .i64 d3), (.int .i64 d4)] [] [(.int .i64 x0), (.int .i64 n1), (.int .i64 d3)] (Zw.k0 _) ⟨hold_op (.int _ _) (.atom _ _ rfl) o1 (.atom _ _ rfl), hold_bool (.int _ _) (.atom _ _ rfl) (op_lss_t q2), hold_op (.atom _ _ rfl) (.atom _ _ rfl) o3 (.atom _ _ rfl), hold_op (.atom _ _ rfl) (.int _ _) o4 (.atom _ _ rfl), hold_bool (.atom _ _ rfl) (.atom _ _ rfl) (op_neq_f (by first | omega | assumption)), trivial⟩ Zw.i101 rfl rfl rowsHold_nil Zw.r101 rfl rfl (Zw.n97 r0 r1 x0 d3 (by first | assumption | (constructor <;> omega) | trivial) (by first | assumption | (constructor <;> omega) | trivial) (by first | omega | assumption | (intro hh; omega)) (by first | omega | assumption | (intro hh; omega)))
  ·
    exact Zw.fx Zw.t102 [(.int .i64 d1)] [] (Zw.k0 _) ⟨hold_op (.int _ _) (.atom _ _ rfl) o1 (.atom _ _ rfl), hold_bool (.int _ _) (.atom _ _ rfl) (op_lss_f (Int.not_lt.1 q2)), trivial⟩ Zw.i102 rfl rfl rowsHold_nil Zw.r102
theorem Zw.n95 {W : World} {n0 : Int} {n1 : Int} (r0 : R64 n0) (r1 : R64 n1) (x0 : Int) (x2 : Int) (g0x : R64 x0) (g2x : R64 x2) (j0 : (0 ≤ x0 ∧ x0 < 12)) (j1 : (((94 : Int) ≤ 100 → x2 = (n1 * (94 : Int) + 9223372036854775808) % 18446744073709551616 - 9223372036854775808))) : NdGood Tryz.prog Tryz.f7 8 Tryz.H0 W Zw.p0 Zw.d95 [(.int .i64 x0), (.int .i64 n1), (.int .i64 x2)] := by
  have ⟨gl0, gh0⟩ := g0x
  have ⟨gl2, gh2⟩ := g2x
  have ⟨rl0, rh0⟩ := r0
  have ⟨rl1, rh1⟩ := r1
  obtain ⟨d1, e1, g1, o1⟩ := ex_add (90 : Int) x0
  by_cases q2 : (94 : Int) < d1
  ·
    obtain ⟨d3, e3, g3, o3⟩ := ex_add x2 n1
    obtain ⟨d4, e4, g4, o4⟩ := ex_mul n1 (95 : Int)
    exact Zw.nx Zw.t99 [(.int .i64 d1), (.int .i64 d3), (.int .i64 d4)] [] [(.int .i64 x0), (.int .i64 n1), (.int .i64 d3)] (Zw.k0 _) ⟨hold_op (.int _ _) (.atom _ _ rfl) o1 (.atom _ _ rfl), hold_bool (.int _ _) (.atom _ _ rfl) (op_lss_t q2), hold_op (.atom _ _ rfl) (.atom _ _ rfl) o3 (.atom _ _ rfl), hold_op (.atom _ _ rfl) (.int _ _) o4 (.atom _ _ rfl), hold_bool (.atom _ _ rfl) (.atom _ _ rfl) (op_neq_f (by first | omega | assumption)), trivial⟩ Zw.i99 rfl rfl rowsHold_nil Zw.r99 rfl rfl (Zw.n96 r0 r1 x0 d3 (by first | assumption | (constructor <;> omega) | trivial) (by first | assumption | (constructor <;> omega) | trivial) (by first | omega | assumption | (intro hh; omega)) (by first | omega | assumption | (intro hh; omega)))
  ·
    exact Zw.fx Zw.t100 [(.int .i64 d1)] [] (Zw.k0 _) ⟨hold_op (.int _ _) (.atom _ _ rfl) o1 (.atom _ _ rfl), hold_bool (.int _ _) (.atom _ _ rfl) (op_lss_f (Int.not_lt.1 q2)), trivial⟩ Zw.i100 rfl rfl rowsHold_nil Zw.r100
theorem Zw.n94 {W : World} {n0 : Int} {n1 : Int} (r0 : R64 n0) (r1 : R64 n1) (x0 : Int) (x2 : Int) (g0x : R64 x0) (g2x : R64 x2) (j0 : (0 ≤ x0 ∧ x0 < 12)) (j1 : (((93 : Int) ≤ 100 → x2 = (n1 * (93 : Int) + 9223372036854775808) % 18446744073709551616 - 9223372036854775808))) : NdGood Tryz.prog Tryz.f7 8 Tryz.H0 W Zw.p0 Zw.d94 [(.int .i64 x0), (.int .i64 n1), (.int .i64 x2)] := by
  have ⟨gl0, gh0⟩ := g0x
  have ⟨gl2, gh2⟩ := g2x
  have ⟨rl0, rh0⟩ := r0
  have ⟨rl1, rh1⟩ := r1
  obtain ⟨d1, e1, g1, o1⟩ := ex_add (90 : Int) x0
  by_cases q2 : (93 : Int) < d1
  ·
    obtain ⟨d3, e3, g3, o3⟩ := ex_add x2 n1
    obtain ⟨d4, e4, g4, o4⟩ := ex_mul n1 (94 : Int)
    exact Zw.nx Zw.t97 [(.int .i64 d1), (.int .i64 d3), (.int .i64 d4)] [] [(.int .i64 x0), (.int .i64 n1), (.int .i64 d3)] (Zw.k0 _) ⟨hold_op (.int _ _) (.atom _ _ rfl) o1 (.atom _ _ rfl), hold_bool (.int _ _) (.atom _ _ rfl) (op_lss_t q2), hold_op (.atom _ _ rfl) (.atom _ _ rfl) o3 (.atom _ _ rfl), hold_op (.atom _ _ rfl) (.int _ _) o4 (.atom _ _ rfl), hold_bool (.atom _ _ rfl) (.atom _ _ rfl) (op_neq_f (by first | omega | assumption)), trivial⟩ Zw.i97 rfl rfl rowsHold_nil Zw.r97 rfl rfl (Zw.n95 r0 r1 x0 d3 (by first | assumption | (constructor <;> omega) | trivial) (by first | assumption | (constructor <;> omega) | trivial) (by first | omega | assumption | (intro hh; omega)) (by first | omega | assumption | (intro hh; omega)))
  ·
    exact Zw.fx Zw.t98 [(.int .i64 d1)] [] (Zw.k0 _) ⟨hold_op (.int _ _) (.atom _ _ rfl) o1 (.atom _ _ rfl), hold_bool (.int _ _) (.atom _ _ rfl) (op_lss_f (Int.not_lt.1 q2)), trivial⟩ Zw.i98 rfl rfl rowsHold_nil Zw.r98
theorem Zw.n93 {W : World} {n0 : Int} {n1 : Int} (r0 : R64 n0) (r1 : R64 n1) (x0 : Int) (x2 : Int) (g0x : R64 x0) (g2x : R64 x2) (j0 : (0 ≤ x0 ∧ x0 < 12)) (j1 : (((92 : Int) ≤ 100 → x2 = (n1 * (92 : Int) + 9223372036854775808) % 18446744073709551616 - 9223372036854775808))) : NdGood Tryz.prog Tryz.f7 8 Tryz.H0 W Zw.p0 Zw.d93 [(.int .i64 x0), (.int .i64 n1), (.int .i64 x2)] := by
  have ⟨gl0, gh0⟩ := g0x
  have ⟨gl2, gh2⟩ := g2x
  have ⟨rl0, rh0⟩ := r0
  have ⟨rl1, rh1⟩ := r1
  obtain ⟨d1, e1, g1, o1⟩ := ex_add (90 : Int) x0
  by_cases q2 : (92 : Int) < d1
  ·
    obtain ⟨d3, e3, g3, o3⟩ := ex_add x2 n1
    obtain ⟨d4, e4, g4, o4⟩ := ex_mul n1 (93 : Int)
    exact Zw.nx Zw.t95 [(.int .i64 d1), (.int .i64 d3), (.int .i64 d4)] [] [(.int .i64 x0), (.int .i64 n1), (.int .i64 d3)] (Zw.k0 _) ⟨hold_op (.int _ _) (.atom _ _ rfl) o1 (.atom _ _ rfl), hold_bool (.int _ _) (.atom _ _ rfl) (op_lss_t q2), hold_op (.atom _ _ rfl) (.atom _ _ rfl) o3 (.atom _ _ rfl), hold_op (.atom _ _ rfl) (.int _ _) o4 (.atom _ _ rfl), hold_bool (.atom _ _ rfl) (.atom _ _ rfl) (op_neq_f (by first | omega | assumption)), trivial⟩ Zw.i95 rfl rfl rowsHold_nil Zw.r95 rfl rfl (Zw.n94 r0 r1 x0 d3 (by first | assumption | (constructor <;> omega) | trivial) (by first | assumption | (constructor <;> omega) | trivial) (by first | omega | assumption | (intro hh; omega)) (by first | omega | assumption | (intro hh; omega)))
  ·
    exact Zw.fx Zw.t96 [(.int .i64 d1)] [] (Zw.k0 _) ⟨hold_op (.int _ _) (.atom _ _ rfl) o1 (.atom _ _ rfl), hold_bool (.int _ _) (.atom _ _ rfl) (op_lss_f (Int.not_lt.1 q2)), trivial⟩ Zw.i96 rfl rfl rowsHold_nil Zw.r96
theorem Zw.n92 {W : World} {n0 : Int} {n1 : Int} (r0 : R64 n0) (r1 : R64 n1) (x0 : Int) (x2 : Int) (g0x : R64 x0) (g2x : R64 x2) (j0 : (0 ≤ x0 ∧ x0 < 12)) (j1 : (((91 : Int) ≤ 100 → x2 = (n1 * (91 : Int) + 9223372036854775808) % 18446744073709551616 - 9223372036854775808))) : NdGood Tryz.prog Tryz.f7 8 Tryz.H0 W Zw.p0 Zw.d92 [(.int .i64 x0), (.int .i64 n1), (.int .i64 x2)] := by
  have ⟨gl0, gh0⟩ := g0x
  have ⟨gl2, gh2⟩ := g2x
  have ⟨rl0, rh0⟩ := r0
  have ⟨rl1, rh1⟩ := r1
  obtain ⟨d1, e1, g1, o1⟩ := ex_add (90 : Int) x0
  by_cases q2 : (91 : Int) < d1
  ·
    obtain ⟨d3, e3, g3, o3⟩ := ex_add x2 n1
    obtain ⟨d4, e4, g4, o4⟩ := ex_mul n1 (92 : Int)
    exact Zw.nx Zw.t93 [(.int .i64 d1), (.int .i64 d3), (.int .i64 d4)] [] [(.int .i64 x0), (.int .i64 n1), (.int .i64 d3)] (Zw.k0 _) ⟨hold_op (.int _ _) (.atom _ _ rfl) o1 (.atom _ _ rfl), hold_bool (.int _ _) (.atom _ _ rfl) (op_lss_t q2), hold_op (.atom _ _ rfl) (.atom _ _ rfl) o3 (.atom _ _ rfl), hold_op (.atom _ _ rfl) (.int _ _) o4 (.atom _ _ rfl), hold_bool (.atom _ _ rfl) (.atom _ _ rfl) (op_neq_f (by first | omega | assumption)), trivial⟩ Zw.i93 rfl rfl rowsHold_nil Zw.r93 rfl rfl (Zw.n93 r0 r1 x0 d3 (by first | assumption | (constructor <;> omega) | trivial) (by first | assumption | (constructor <;> omega) | trivial) (by first | omega | assumption | (intro hh; omega)) (by first | omega | assumption | (intro hh; omega)))
  ·
    exact Zw.fx Zw.t94 [(.int .i64 d1)] [] (Zw.k0 _) ⟨hold_op (.int _ _) (.atom _ _ rfl) o1 (.atom _ _ rfl), hold_bool (.int _ _) (.atom _ _ rfl) (op_lss_f (Int.not_lt.1 q2)), trivial⟩ Zw.i94 rfl rfl rowsHold_nil Zw.r94
theorem Zw.n91 {W : World} {n0 : Int} {n1 : Int} (r0 : R64 n0) (r1 : R64 n1) (x0 : Int) (x2 : Int) (g0x : R64 x0) (g2x : R64 x2) (j0 : (0 ≤ x0 ∧ x0 < 12)) (j1 : (((90 : Int) ≤ 100 → x2 = (n1 * (90 : Int) + 9223372036854775808) % 18446744073709551616 - 9223372036854775808))) : NdGood Tryz.prog Tryz.f7 8 Tryz.H0 W Zw.p0 Zw.d91 [(.int .i64 x0), (.int .i64 n1), (.int .i64 x2)] := by
  have ⟨gl0, gh0⟩ := g0x
  have ⟨gl2, gh2⟩ := g2x
  have ⟨rl0, rh0⟩ := r0
  have ⟨rl1, rh1⟩ := r1
  obtain ⟨d1, e1, g1, o1⟩ := ex_add (90 : Int) x0
  by_cases q2 : (90 : Int) < d1
  ·
    obtain ⟨d3, e3, g3, o3⟩ := ex_add x2 n1
    obtain ⟨d4, e4, g4, o4⟩ := ex_mul n1 (91 : Int)
    exact Zw.nx Zw.t91 [(.int .i64 d1), (.int .i64 d3), (.int .i64 d4)] [] [(.int .i64 x0), (.int .i64 n1), (.int .i64 d3)] (Zw.k0 _) ⟨hold_op (.int _ _) (.atom _ _ rfl) o1 (.atom _ _ rfl), hold_bool (.int _ _) (.atom _ _ rfl) (op_lss_t q2), hold_op (.atom _ _ rfl) (.atom _ _ rfl) o3 (.atom _ _ rfl), hold_op (.atom _ _ rfl) (.int _ _) o4 (.atom _ _ rfl), hold_bool (.atom _ _ rfl) (.atom _ _ rfl) (op_neq_f (by first | omega | assumption)), trivial⟩ Zw.i91 rfl rfl rowsHold_nil Zw.r91 rfl rfl (Zw.n92 r0 r1 x0 d3 (by first | assumption | (constructor <;> omega) | trivial) (by first | assumption | (constructor <;> omega) | trivial) (by first | omega | assumption | (intro hh; omega)) (by first | omega | assumption | (intro hh; omega)))
  ·
    exact Zw.fx Zw.t92 [(.int .i64 d1)] [] (Zw.k0 _) ⟨hold_op (.int _ _) (.atom _ _ rfl) o1 (.atom _ _ rfl), hold_bool (.int _ _) (.atom _ _ rfl) (op_lss_f (Int.not_lt.1 q2)), trivial⟩ Zw.i92 rfl rfl rowsHold_nil Zw.r92
theorem Zw.n90 {W : World} {n0 : Int} {n1 : Int} (r0 : R64 n0) (r1 : R64 n1) (x0 : Int) (x2 : Int) (g0x : R64 x0) (g2x : R64 x2) (j0 : (0 ≤ x0 ∧ x0 < 12)) (j1 : (((89 : Int) ≤ 100 → x2 = (n1 * (89 : Int) + 9223372036854775808) % 18446744073709551616 - 9223372036854775808))) : NdGood Tryz.prog Tryz.f7 8 Tryz.H0 W Zw.p0 Zw.d90 [(.int .i64 x0), (.int .i64 n1), (.int .i64 x2)] := by
  have ⟨gl0, gh0⟩ := g0x
  have ⟨gl2, gh2⟩ := g2x
  have ⟨rl0, rh0⟩ := r0
  have ⟨rl1, rh1⟩ := r1
  obtain ⟨d1, e1, g1, o1⟩ := ex_add (90 : Int) x0
  obtain ⟨d2, e2, g2, o2⟩ := ex_add x2 n1
  obtain ⟨d3, e3, g3, o3⟩ := ex_mul n1 (90 : Int)
  exact Zw.nx Zw.t90 [(.int .i64 d1), (.int .i64 d2), (.int .i64 d3)] [] [(.int .i64 x0), (.int .i64 n1), (.int .i64 d2)] (Zw.k0 _) ⟨hold_op (.int _ _) (.atom _ _ rfl) o1 (.atom _ _ rfl), hold_bool (.int _ _) (.atom _ _ rfl) (op_lss_t (by first | omega | assumption)), hold_op (.atom _ _ rfl) (.atom _ _ rfl) o2 (.atom _ _ rfl), hold_op (.atom _ _ rfl) (.int _ _) o3 (.atom _ _ rfl), hold_bool (.atom _ _ rfl) (.atom _ _ rfl) (op_neq_f (by first | omega | assumption)), trivial⟩ Zw.i90 rfl rfl rowsHold_nil Zw.r90 rfl rfl (Zw.n91 r0 r1 x0 d2 (by first | assumption | (constructor <;> omega) | trivial) (by first | assumption | (constructor <;> omega) | trivial) (by first | omega | assumption | (intro hh; omega)) (by first | omega | assumption | (intro hh; omega)))
theorem Zw.n89 {W : World} {n0 : Int} {n1 : Int} (r0 : R64 n0) (r1 : R64 n1) (x0 : Int) (x2 : Int) (g0x : R64 x0) (g2x : R64 x2) (j0 : (0 ≤ x0 ∧ x0 < 12)) (j1 : (((88 : Int) ≤ 100 → x2 = (n1 * (88 : Int) + 9223372036854775808) % 18446744073709551616 - 9223372036854775808))) : NdGood Tryz.prog Tryz.f7 8 Tryz.H0 W Zw.p0 Zw.d89 [(.int .i64 x0), (.int .i64 n1), (.int .i64 x2)] := by
  have ⟨gl0, gh0⟩ := g0x
  have ⟨gl2, gh2⟩ := g2x
  have ⟨rl0, rh0⟩ := r0
  have ⟨rl1, rh1⟩ := r1
  obtain ⟨d1, e1, g1, o1⟩ := ex_add (90 : Int) x0
  obtain ⟨d2, e2, g2, o2⟩ := ex_add x2 n1
  obtain ⟨d3, e3, g3, o3⟩ := ex_mul n1 (89 : Int)
  exact Zw.nx Zw.t89 [(.int .i64 d1), (.int .i64 d2), (.int .i64 d3)] [] [(.int .i64 x0), (.int .i64 n1), (.int .i64 d2)] (Zw.k0 _) ⟨hold_op (.int _ _) (.atom _ _ rfl) o1 (.atom _ _ rfl), hold_bool (.int _ _) (.atom _ _ rfl) (op_lss_t (by first | omega | assumption)), hold_op (.atom _ _ rfl) (.atom _ _ rfl) o2 (.atom _ _ rfl), hold_op (.atom _ _ rfl) (.int _ _) o3 (.atom _ _ rfl), hold_bool (.atom _ _ rfl) (.atom _ _ rfl) (op_neq_f (by first | omega | assumption)), trivial⟩ Zw.i89 rfl rfl rowsHold_nil Zw.r89 rfl rfl (Zw.n90 r0 r1 x0 d2 (by first | assumption | (constructor <;> omega) | trivial) (by first | assumption | (constructor <;> omega) | trivial) (by first | omega | assumption | (intro hh; omega)) (by first | omega | assumption | (intro hh; omega)))
theorem Zw.n88 {W : World} {n0 : Int} {n1 : Int} (r0 : R64 n0) (r1 : R64 n1) (x0 : Int) (x2 : Int) (g0x : R64 x0) (g2x : R64 x2) (j0 : (0 ≤ x0 ∧ x0 < 12)) (j1 : (((87 : Int) ≤ 100 → x2 = (n1 * (87 : Int) + 9223372036854775808) % 18446744073709551616 - 9223372036854775808))) : NdGood Tryz.prog Tryz.f7 8 Tryz.H0 W Zw.p0 Zw.d88 [(.int .i64 x0), (.int .i64 n1), (.int .i64 x2)] := by
  have ⟨gl0, gh0⟩ := g0x
  have ⟨gl2, gh2⟩ := g2x
  have ⟨rl0, rh0⟩ := r0
  have ⟨rl1, rh1⟩ := r1
  obtain ⟨d1, e1, g1, o1⟩ := ex_add (90 : Int) x0
  obtain ⟨d2, e2, g2, o2⟩ := ex_add x2 n1
  obtain ⟨d3, e3, g3, o3⟩ := ex_mul n1 (88 : Int)
  exact Zw.nx Zw.t88 [(.int .i64 d1), (.int .i64 d2), (.int .i64 d3)] [] [(.int .i64 x0), (.int .i64 n1), (.int .i64 d2)] (Zw.k0 _) ⟨hold_op (.int _ _) (.atom _ _ rfl) o1 (.atom _ _ rfl), hold_bool (.int _ _) (.atom _ _ rfl) (op_lss_t (by first | omega | assumption)), hold_op (.atom _ _ rfl) (.atom _ _ rfl) o2 (.atom _ _ rfl), hold_op (.atom _ _ rfl) (.int _ _) o3 (.atom _ _ rfl), hold_bool (.atom _ _ rfl) (.atom _ _ rfl) (op_neq_f (by first | omega | assumption)), trivial⟩ Zw.i88 rfl rfl rowsHold_nil Zw.r88 rfl rfl (Zw.n89 r0 r1 x0 d2 (by first | assumption | (constructor <;> omega) | trivial) (by first | assumption | (constructor <;> omega) | trivial) (by first | omega | assumption | (intro hh; omega)) (by first | omega | assumption | (intro hh; omega)))
theorem Zw.n87 {W : World} {n0 : Int} {n1 : Int} (r0 : R64 n0) (r1 : R64 n1) (x0 : Int) (x2 : Int) (g0x : R64 x0) (g2x : R64 x2) (j0 : (0 ≤ x0 ∧ x0 < 12)) (j1 : (((86 : Int) ≤ 100 → x2 = (n1 * (86 : Int) + 9223372036854775808) % 18446744073709551616 - 9223372036854775808))) : NdGood Tryz.prog Tryz.f7 8 Tryz.H0 W Zw.p0 Zw.d87 [(.int .i64 x0), (.int .i64 n1), (.int .i64 x2)] := by
  have ⟨gl0, gh0⟩ := g0x
  have ⟨gl2, gh2⟩ := g2x
  have ⟨rl0, rh0⟩ := r0
  have ⟨rl1, rh1⟩ := r1
  obtain ⟨d1, e1, g1, o1⟩ := ex_add (90 : Int) x0
  obtain ⟨d2, e2, g2, o2⟩ := ex_add x2 n1
  obtain ⟨d3, e3, g3, o3⟩ := ex_mul n1 (87 : Int)
  exact Zw.nx Zw.t87 [(.int .i64 d1), (.int .i64 d2), (.int .i64 d3)] [] [(.int .i64 x0), (.int .i64 n1), (.int .i64 d2)] (Zw.k0 _) ⟨hold_op (.int _ _) (.atom _ _ rfl) o1 (.atom _ _ rfl), hold_bool (.int _ _) (.atom _ _ rfl) (op_lss_t (by first | omega | assumption)), hold_op (.atom _ _ rfl) (.atom _ _ rfl) o2 (.atom _ _ rfl), hold_op (.atom _ _ rfl) (.int _ _) o3 (.atom _ _ rfl), hold_bool (.atom _ _ rfl) (.atom _ _ rfl) (op_neq_f (by first | omega | assumption)), trivial⟩ Zw.i87 rfl rfl rowsHold_nil Zw.r87 rfl rfl (Zw.n88 r0 r1 x0 d2 (by first | assumption | (constructor <;> omega) | trivial) (by first | assumption | (constructor <;> omega) | trivial) (by first | omega | assumption | (intro hh; omega)) (by first | omega | assumption | (intro hh; omega)))
theorem Zw.n86 {W : World} {n0 : Int} {n1 : Int} (r0 : R64 n0) (r1 : R64 n1) (x0 : Int) (x2 : Int) (g0x : R64 x0) (g2x : R64 x2) (j0 : (0 ≤ x0 ∧ x0 < 12)) (j1 : (((85 : Int) ≤ 100 → x2 = (n1 * (85 : Int) + 9223372036854775808) % 18446744073709551616 - 9223372036854775808))) : NdGood Tryz.prog Tryz.f7 8 Tryz.H0 W Zw.p0 Zw.d86 [(.int .i64 x0), (.int .i64 n1), (.int .i64 x2)] := by
  have ⟨gl0, gh0⟩ := g0x
  have ⟨gl2, gh2⟩ := g2x
  have ⟨rl0, rh0⟩ := r0
  have ⟨rl1, rh1⟩ := r1
  obtain ⟨d1, e1, g1, o1⟩ := ex_add (90 : Int) x0
  obtain ⟨d2, e2, g2, o2⟩ := ex_add x2 n1
  obtain ⟨d3, e3, g3, o3⟩ := ex_mul n1 (86 : Int)
  exact Zw.nx Zw.t86 [(.int .i64 d1), (.int .i64 d2), (.int .i64 d3)] [] [(.int .i64 x0), (.int .i64 n1), (.int .i64 d2)] (Zw.k0 _) ⟨hold_op (.int _ _) (.atom _ _ rfl) o1 (.atom _ _ rfl), hold_bool (.int _ _) (.atom _ _ rfl) (op_lss_t (by first | omega | assumption)), hold_op (.atom _ _ rfl) (.atom _ _ rfl) o2 (.atom _ _ rfl), hold_op (.atom _ _ rfl) (.int _ _) o3 (.atom _ _ rfl), hold_bool (.atom _ _ rfl) (.atom _ _ rfl) (op_neq_f (by first | omega | assumption)), trivial⟩ Zw.i86 rfl rfl rowsHold_nil Zw.r86 rfl rfl (Zw.n87 r0 r1 x0 d2 (by first | assumption | (constructor <;> omega) | trivial) (by first | assumption | (constructor <;> omega) | trivial) (by first | omega | assumption | (intro hh; omega)) (by first | omega | assumption | (intro hh; omega)))
theorem Zw.n85 {W : World} {n0 : Int} {n1 : Int} (r0 : R64 n0) (r1 : R64 n1) (x0 : Int) (x2 : Int) (g0x : R64 x0) (g2x : R64 x2) (j0 : (0 ≤ x0 ∧ x0 < 12)) (j1 : (((84 : Int) ≤ 100 → x2 = (n1 * (84 : Int) + 9223372036854775808) % 18446744073709551616 - 9223372036854775808))) : NdGood Tryz.prog Tryz.f7 8 Tryz.H0 W Zw.p0 Zw.d85 [(.int .i64 x0), (.int .i64 n1), (.int .i64 x2)] := by
  have ⟨gl0, gh0⟩ := g0x
  have ⟨gl2, gh2⟩ := g2x
  have ⟨rl0, rh0⟩ := r0
  have ⟨rl1, rh1⟩ := r1
  obtain ⟨d1, e1, g1, o1⟩ := ex_add (90 : Int) x0
  obtain ⟨d2, e2, g2, o2⟩ := ex_add x2 n1
  obtain ⟨d3, e3, g3, o3⟩ := ex_mul n1 (85 : Int)
  exact Zw.nx Zw.t85 [(.int .i64 d1), (.int .i64 d2), (.int .i64 d3)] [] [(.int .i64 x0), (.int .i64 n1), (.int .i64 d2)] (Zw.k0 _) ⟨hold_op (.int _ _) (.atom _ _ rfl) o1 (.atom _ _ rfl), hold_bool (.int _ _) (.atom _ _ rfl) (op_lss_t (by first | omega | assumption)), hold_op (.atom _ _ rfl) (.atom _ _ rfl) o2 (.atom _ _ rfl), hold_op (.atom _ _ rfl) (.int _ _) o3 (.atom _ _ rfl), hold_bool (.atom _ _ rfl) (.atom _ _ rfl) (op_neq_f (by first | omega | assumption)), trivial⟩ Zw.i85 rfl rfl rowsHold_nil Zw.r85 rfl rfl (Zw.n86 r0 r1 x0 d2 (by first | assumption | (constructor <;> omega) | trivial) (by first | assumption | (constructor <;> omega) | trivial) (by first | omega | assumption | (intro hh; omega)) (by first | omega | assumption | (intro hh; omega)))
theorem Zw.n84 {W : World} {n0 : Int} {n1 : Int} (r0 : R64 n0) (r1 : R64 n1) (x0 : Int) (x2 : Int) (g0x : R64 x0) (g2x : R64 x2) (j0 : (0 ≤ x0 ∧ x0 < 12)) (j1 : (((83 : Int) ≤ 100 → x2 = (n1 * (83 : Int) + 9223372036854775808) % 18446744073709551616 - 9223372036854775808))) : NdGood Tryz.prog Tryz.f7 8 Tryz.H0 W Zw.p0 Zw.d84 [(.int .i64 x0), (.int .i64 n1), (.int .i64 x2)] := by
  have ⟨gl0, gh0⟩ := g0x
  have ⟨gl2, gh2⟩ := g2x
  have ⟨rl0, rh0⟩ := r0
  have ⟨rl1, rh1⟩ := r1
  obtain ⟨d1, e1, g1, o1⟩ := ex_add (90 : Int) x0
  obtain ⟨d2, e2, g2, o2⟩ := ex_add x2 n1
  obtain ⟨d3, e3, g3, o3⟩ := ex_mul n1 (84 : Int)
  exact Zw.nx Zw.t84 [(.int .i64 d1), (.int .i64 d2), (.int .i64 d3)] [] [(.int .i64 x0), (.int .i64 n1), (.int .i64 d2)] (Zw.k0 _) ⟨hold_op (.int _ _) (.atom _ _ rfl) o1 (.atom _ _ rfl), hold_bool (.int _ _) (.atom _ _ rfl) (op_lss_t (by first | omega | assumption)), hold_op (.atom _ _ rfl) (.atom _ _ rfl) o2 (.atom _ _ rfl), hold_op (.atom _ _ rfl) (.int _ _) o3 (.atom _ _ rfl), hold_bool (.atom _ _ rfl) (.atom _ _ rfl) (op_neq_f (by first | omega | assumption)), trivial⟩ Zw.i84 rfl rfl rowsHold_nil Zw.r84 rfl rfl (Zw.n85 r0 r1 x0 d2 (by first | assumption | (constructor <;> omega) | trivial) (by first | assumption | (constructor <;> omega) | trivial) (by first | omega | assumption | (intro hh; omega)) (by first | omega | assumption | (intro hh; omega)))
theorem Zw.n83 {W : World} {n0 : Int} {n1 : Int} (r0 : R64 n0) (r1 : R64 n1) (x0 : Int) (x2 : Int) (g0x : R64 x0) (g2x : R64 x2) (j0 : (0 ≤ x0 ∧ x0 < 12)) (j1 : (((82 : Int) ≤ 100 → x2 = (n1 * (82 : Int) + 9223372036854775808) % 18446744073709551616 - 9223372036854775808))) : NdGood Tryz.prog Tryz.f7 8 Tryz.H0 W Zw.p0 Zw.d83 [(.int .i64 x0), (.int .i64 n1), (.int .i64 x2)] := by
  have ⟨gl0, gh0⟩ := g0x
  have ⟨gl2, gh2⟩ := g2x
  have ⟨rl0, rh0⟩ := r0
  have ⟨rl1, rh1⟩ := r1
  obtain ⟨d1, e1, g1, o1⟩ := ex_add (90 : Int) x0
  obtain ⟨d2, e2, g2, o2⟩ := ex_add x2 n1
  obtain ⟨d3, e3, g3, o3⟩ := ex_mul n1 (83 : Int)
  exact Zw.nx Zw.t83 [(.int .i64 d1), (.int .i64 d2), (.int .i64 d3)] [] [(.int .i64 x0), (.int .i64 n1), (.int .i64 d2)] (Zw.k0 _) ⟨hold_op (.int _ _) (.atom _ _ rfl) o1 (.atom _ _ rfl), hold_bool (.int _ _) (.atom _ _ rfl) (op_lss_t (by first | omega | assumption)), hold_op (.atom _ _ rfl) (.atom _ _ rfl) o2 (.atom _ _ rfl), hold_op (.atom _ _ rfl) (.int _ _) o3 (.atom _ _ rfl), hold_bool (.atom _ _ rfl) (.atom _ _ rfl) (op_neq_f (by first | omega | assumption)), trivial⟩ Zw.i83 rfl rfl rowsHold_nil Zw.r83 rfl rfl (Zw.n84 r0 r1 x0 d2 (by first | assumption | (constructor <;> omega) | trivial) (by first | assumption | (constructor <;> omega) | trivial) (by first | omega | assumption | (intro hh; omega)) (by first | omega | assumption | (intro hh; omega)))
theorem Zw.n82 {W : World} {n0 : Int} {n1 : Int} (r0 : R64 n0) (r1 : R64 n1) (x0 : Int) (x2 : Int) (g0x : R64 x0) (g2x : R64 x2) (j0 : (0 ≤ x0 ∧ x0 < 12)) (j1 : (((81 : Int) ≤ 100 → x2 = (n1 * (81 : Int) + 9223372036854775808) % 18446744073709551616 - 9223372036854775808))) : NdGood Tryz.prog Tryz.f7 8 Tryz.H0 W Zw.p0 Zw.d82 [(.int .i64 x0), (.int .i64 n1), (.int .i64 x2)] := by
  have ⟨gl0, gh0⟩ := g0x
  have ⟨gl2, gh2⟩ := g2x
  have ⟨rl0, rh0⟩ := r0
  have ⟨rl1, rh1⟩ := r1
  obtain ⟨d1, e1, g1, o1⟩ := ex_add (90 : Int) x0
  obtain ⟨d2, e2, g2, o2⟩ := ex_add x2 n1
  obtain ⟨d3, e3, g3, o3⟩ := ex_mul n1 (82 : Int)
  exact Zw.nx Zw.t82 [(.int .i64 d1), (.int .i64 d2), (.int .i64 d3)] [] [(.int .i64 x0), (.int .i64 n1), (.int .i64 d2)] (Zw.k0 _) ⟨hold_op (.int _ _) (.atom _ _ rfl) o1 (.atom _ _ rfl), hold_bool (.int _ _) (.atom _ _ rfl) (op_lss_t (by first | omega | assumption)), hold_op (.atom _ _ rfl) (.atom _ _ rfl) o2 (.atom _ _ rfl), hold_op (.atom _ _ rfl) (.int _ _) o3 (.atom _ _ rfl), hold_bool (.atom _ _ rfl) (.atom _ _ rfl) (op_neq_f (by first | omega | assumption)), trivial⟩ Zw.i82 rfl rfl rowsHold_nil Zw.r82 rfl rfl (Zw.n83 r0 r1 x0 d2 (by first | assumption | (constructor <;> omega) | trivial) (by first | assumption | (constructor <;> omega) | trivial) (by first | omega | assumption | (intro hh; omega)) (by first | omega | assumption | (intro hh; omega)))
theorem Zw.n81 {W : World} {n0 : Int} {n1 : Int} (r0 : R64 n0) (r1 : R64 n1) (x0 : Int) (x2 : Int) (g0x : R64 x0) (g2x : R64 x2) (j0 : (0 ≤ x0 ∧ x0 < 12)) (j1 : (((80 : Int) ≤ 100 → x2 = (n1 * (80 : Int) + 9223372036854775808) % 18446744073709551616 - 9223372036854775808))) : NdGood Tryz.prog Tryz.f7 8 Tryz.H0 W Zw.p0 Zw.d81 [(.int .i64 x0), (.int .i64 n1), (.int .i64 x2)] := by
  have ⟨gl0, gh0⟩ := g0x
  have ⟨gl2, gh2⟩ := g2x
  have ⟨rl0, rh0⟩ := r0
  have ⟨rl1, rh1⟩ := r1
  obtain ⟨d1, e1, g1, o1⟩ := ex_add (90 : Int) x0
  obtain ⟨d2, e2, g2, o2⟩ := ex_add x2 n1
  obtain ⟨d3, e3, g3, o3⟩ := ex_mul n1 (81 : Int)
  exact Zw.nx Zw.t81 [(.int .i64 d1), (.int .i64 d2), (.int .i64 d3)] [] [(.int .i64 x0), (.int .i64 n1), (.int .i64 d2)] (Zw.k0 _) ⟨hold_op (.int _ _) (.atom _ _ rfl) o1 (.atom _ _ rfl), hold_bool (.int _ _) (.atom _ _ rfl) (op_lss_t (by first | omega | assumption)), hold_op (.atom _ _ rfl) (.atom _ _ rfl) o2 (.atom _ _ rfl), hold_op (.atom _ _ rfl) (.int _ _) o3 (.atom _ _ rfl), hold_bool (.atom _ _ rfl) (.atom _ _ rfl) (op_neq_f (by first | omega | assumption)), trivial⟩ Zw.i81 rfl rfl rowsHold_nil Zw.r81 rfl rfl (Zw.n82 r0 r1 x0 d2 (by first | assumption | (constructor <;> omega) | trivial) (by first | assumption | (constructor <;> omega) | trivial) (by first | omega | assumption | (intro hh; omega)) (by first | omega | assumption | (intro hh; omega)))
theorem Zw.n80 {W : World} {n0 : Int} {n1 : Int} (r0 : R64 n0) (r1 : R64 n1) (x0 : Int) (x2 : Int) (g0x : R64 x0) (g2x : R64 x2) (j0 : (0 ≤ x0 ∧ x0 < 12)) (j1 : (((79 : Int) ≤ 100 → x2 = (n1 * (79 : Int) + 9223372036854775808) % 18446744073709551616 - 9223372036854775808))) : NdGood Tryz.prog Tryz.f7 8 Tryz.H0 W Zw.p0 Zw.d80 [(.int .i64 x0), (.int .i64 n1), (.int .i64 x2)] := by
  have ⟨gl0, gh0⟩ := g0x
  have ⟨gl2, gh2⟩ := g2x
  have ⟨rl0, rh0⟩ := r0
  have ⟨rl1, rh1⟩ := r1
  obtain ⟨d1, e1, g1, o1⟩ := ex_add (90 : Int) x0
  obtain ⟨d2, e2, g2, o2⟩ := ex_add x2 n1
  obtain ⟨d3, e3, g3, o3⟩ := ex_mul n1 (80 : Int)
  exact Zw.nx Zw.t80 [(.int .i64 d1), (.int .i64 d2), (.int .i64 d3)] [] [(.int .i64 x0), (.int .i64 n1), (.int .i64 d2)] (Zw.k0 _) ⟨hold_op (.int _ _) (.atom _ _ rfl) o1 (.atom _ _ rfl), hold_bool (.int _ _) (.atom _ _ rfl) (op_lss_t (by first | omega | assumption)), hold_op (.atom _ _ rfl) (.atom _ _ rfl) o2 (.atom _ _ rfl), hold_op (.atom _ _ rfl) (.int _ _) o3 (.atom _ _ rfl), hold_bool (.atom _ _ rfl) (.atom _ _ rfl) (op_neq_f (by first | omega | assumption)), trivial⟩ Zw.i80 rfl rfl rowsHold_nil Zw.r80 rfl rfl (Zw.n81 r0 r1 x0 d2 (by first | assumption | (constructor <;> omega) | trivial) (by first | assumption | (constructor <;> omega) | trivial) (by first | omega | assumption | (intro hh; omega)) (by first | omega | assumption | (intro hh; omega)))
theorem Zw.n79 {W : World} {n0 : Int} {n1 : Int} (r0 : R64 n0) (r1 : R64 n1) (x0 : Int) (x2 : Int) (g0x : R64 x0) (g2x : R64 x2) (j0 : (0 ≤ x0 ∧ x0 < 12)) (j1 : (((78 : Int) ≤ 100 → x2 = (n1 * (78 : Int) + 9223372036854775808) % 18446744073709551616 - 9223372036854775808))) : NdGood Tryz.prog Tryz.f7 8 Tryz.H0 W Zw.p0 Zw.d79 [(.int .i64 x0), (.int .i64 n1), (.int .i64 x2)] := by
  have ⟨gl0, gh0⟩ := g0x
  have ⟨gl2, gh2⟩ := g2x
  have ⟨rl0, rh0⟩ := r0
  have ⟨rl1, rh1⟩ := r1
  obtain ⟨d1, e1, g1, o1⟩ := ex_add (90 : Int) x0
  obtain ⟨d2, e2, g2, o2⟩ := ex_add x2 n1
  obtain ⟨d3, e3, g3, o3⟩ := ex_mul n1 (79 : Int)
  exact Zw.nx Zw.t79 [(.int .i64 d1), (.int .i64 d2), (.int .i64 d3)] [] [(.int .i64 x0), (.int .i64 n1), (.int .i64 d2)] (Zw.k0 _) ⟨hold_op (.int _ _) (.atom _ _ rfl) o1 (.atom _ _ rfl), hold_bool (.int _ _) (.atom _ _ rfl) (op_lss_t (by first | omega | assumption)), hold_op (.atom _ _ rfl) (.atom _ _ rfl) o2 (.atom _ _ rfl), hold_op (.atom _ _ rfl) (.int _ _) o3 (.atom _ _ rfl), hold_bool (.atom _ _ rfl) (.atom _ _ rfl) (op_neq_f (by first | omega | assumption)), trivial⟩ Zw.i79 rfl rfl rowsHold_nil Zw.r79 rfl rfl (Zw.n80 r0 r1 x0 d2 (by first | assumption | (constructor <;> omega) | trivial) (by first | assumption | (constructor <;> omega) | trivial) (by first | omega | assumption | (intro hh; omega)) (by first | omega | assumption | (intro hh; omega)))
theorem Zw.n78 {W : World} {n0 : Int} {n1 : Int} (r0 : R64 n0) (r1 : R64 n1) (x0 : Int) (x2 : Int) (g0x : R64 x0) (g2x : R64 x2) (j0 : (0 ≤ x0 ∧ x0 < 12)) (j1 : (((77 : Int) ≤ 100 → x2 = (n1 * (77 : Int) + 9223372036854775808) % 18446744073709551616 - 9223372036854775808))) : NdGood Tryz.prog Tryz.f7 8 Tryz.H0 W Zw.p0 Zw.d78 [(.int .i64 x0), (.int .i64 n1), (.int .i64 x2)] := by
  have ⟨gl0, gh0⟩ := g0x
  have ⟨gl2, gh2⟩ := g2x
  have ⟨rl0, rh0⟩ := r0
  have ⟨rl1, rh1⟩ := r1
  obtain ⟨d1, e1, g1, o1⟩ := ex_add (90 : Int) x0
  obtain ⟨d2, e2, g2, o2⟩ := ex_add x2 n1
  obtain ⟨d3, e3, g3, o3⟩ := ex_mul n1 (78 : Int)
  exact Zw.nx Zw.t78 [(.int .i64 d1), (.int .i64 d2), (.int .i64 d3)] [] [(.int .i64 x0), (.int .i64 n1), (.int .i64 d2)] (Zw.k0 _) ⟨hold_op (.int _ _) (.atom _ _ rfl) o1 (.atom _ _ rfl), hold_bool (.int _ _) (.atom _ _ rfl) (op_lss_t (by first | omega | assumption)), hold_op (.atom _ _ rfl) (.atom _ _ rfl) o2 (.atom _ _ rfl), hold_op (.atom _ _ rfl) (.int _ _) o3 (.atom _ _ rfl), hold_bool (.atom _ _ rfl) (.atom _ _ rfl) (op_neq_f (by first | omega | assumption)), trivial⟩ Zw.i78 rfl rfl rowsHold_nil Zw.r78 rfl rfl (Zw.n79 r0 r1 x0 d2 (by first | assumption | (constructor <;> omega) | trivial) (by first | assumption | (constructor <;> omega) | trivial) (by first | omega | assumption | (intro hh; omega)) (by first | omega | assumption | (intro hh; omega)))
theorem Zw.n77 {W : World} {n0 : Int} {n1 : Int} (r0 : R64 n0) (r1 : R64 n1) (x0 : Int) (x2 : Int) (g0x : R64 x0) (g2x : R64 x2) (j0 : (0 ≤ x0 ∧ x0 < 12)) (j1 : (((76 : Int) ≤ 100 → x2 = (n1 * (76 : Int) + 9223372036854775808) % 18446744073709551616 - 9223372036854775808))) : NdGood Tryz.prog Tryz.f7 8 Tryz.H0 W Zw.p0 Zw.d77 [(.int .i64 x0), (.int .i64 n1), (.int .i64 x2)] := by
  have ⟨gl0, gh0⟩ := g0x
  have ⟨gl2, gh2⟩ := g2x
  have ⟨rl0, rh0⟩ := r0
  have ⟨rl1, rh1⟩ := r1
  obtain ⟨d1, e1, g1, o1⟩ := ex_add (90 : Int) x0
  obtain ⟨d2, e2, g2, o2⟩ := ex_add x2 n1
  obtain ⟨d3, e3, g3, o3⟩ := ex_mul n1 (77 : Int)
  exact Zw.nx Zw.t77 [(.int .i64 d1), (.int .i64 d2), (.int .i64 d3)] [] [(.int .i64 x0), (.int .i64 n1), (.int .i64 d2)] (Zw.k0 _) ⟨hold_op (.int _ _) (.atom _ _ rfl) o1 (.atom _ _ rfl), hold_bool (.int _ _) (.atom _ _ rfl) (op_lss_t (by first | omega | assumption)), hold_op (.atom _ _ rfl) (.atom _ _ rfl) o2 (.atom _ _ rfl), hold_op (.atom _ _ rfl) (.int _ _) o3 (.atom _ _ rfl), hold_bool (.atom _ _ rfl) (.atom _ _ rfl) (op_neq_f (by first | omega | assumption)), trivial⟩ Zw.i77 rfl rfl rowsHold_nil Zw.r77 rfl rfl (Zw.n78 r0 r1 x0 d2 (by first | assumption | (constructor <;> omega) | trivial) (by first | assumption | (constructor <;> omega) | trivial) (by first | omega | assumption | (intro hh; omega)) (by first | omega | assumption | (intro hh; omega)))
theorem Zw.n76 {W : World} {n0 : Int} {n1 : Int} (r0 : R64 n0) (r1 : R64 n1) (x0 : Int) (x2 : Int) (g0x : R64 x0) (g2x : R64 x2) (j0 : (0 ≤ x0 ∧ x0 < 12)) (j1 : (((75 : Int) ≤ 100 → x2 = (n1 * (75 : Int) + 9223372036854775808) % 18446744073709551616 - 9223372036854775808))) : NdGood Tryz.prog Tryz.f7 8 Tryz.H0 W Zw.p0 Zw.d76 [(.int .i64 x0), (.int .i64 n1), (.int .i64 x2)] := by
  have ⟨gl0, gh0⟩ := g0x
  have ⟨gl2, gh2⟩ := g2x
  have ⟨rl0, rh0⟩ := r0
  have ⟨rl1, rh1⟩ := r1
  obtain ⟨d1, e1, g1, o1⟩ := ex_add (90 : Int) x0
  obtain ⟨d2, e2, g2, o2⟩ := ex_add x2 n1
  obtain ⟨d3, e3, g3, o3⟩ := ex_mul n1 (76 : Int)
  exact Zw.nx Zw.t76 [(.int .i64 d1), (.int .i64 d2), (.int .i64 d3)] [] [(.int .i64 x0), (.int .i64 n1), (.int .i64 d2)] (Zw.k0 _) ⟨hold_op (.int _ _) (.atom _ _ rfl) o1 (.atom _ _ rfl), hold_bool (.int _ _) (.atom _ _ rfl) (op_lss_t (by first | omega | assumption)), hold_op (.atom _ _ rfl) (.atom _ _ rfl) o2 (.atom _ _ rfl), hold_op (.atom _ _ rfl) (.int _ _) o3 (.atom _ _ rfl), hold_bool (.atom _ _ rfl) (.atom _ _ rfl) (op_neq_f (by first | omega | assumption)), trivial⟩ Zw.i76 rfl rfl rowsHold_nil Zw.r76 rfl rfl (Zw.n77 r0 r1 x0 d2 (by first | assumption | (constructor <;> omega) | trivial) (by first | assumption | (constructor <;> omega) | trivial) (by first | omega | assumption | (intro hh; omega)) (by first | omega | assumption | (intro hh; omega)))
theorem Zw.n75 {W : World} {n0 : Int} {n1 : Int} (r0 : R64 n0) (r1 : R64 n1) (x0 : Int) (x2 : Int) (g0x : R64 x0) (g2x : R64 x2) (j0 : (0 ≤ x0 ∧ x0 < 12)) (j1 : (((74 : Int) ≤ 100 → x2 = (n1 * (74 : Int) + 9223372036854775808) % 18446744073709551616 - 9223372036854775808))) : NdGood Tryz.prog Tryz.f7 8 Tryz.H0 W Zw.p0 Zw.d75 [(.int .i64 x0), (.int .i64 n1), (.int .i64 x2)] := by
  have ⟨gl0, gh0⟩ := g0x
  have ⟨gl2, gh2⟩ := g2x
  have ⟨rl0, rh0⟩ := r0
  have ⟨rl1, rh1⟩ := r1
  obtain ⟨d1, e1, g1, o1⟩ := ex_add (90 : Int) x0
  obtain ⟨d2, e2, g2, o2⟩ := ex_add x2 n1
  obtain ⟨d3, e3, g3, o3⟩ := ex_mul n1 (75 : Int)
  exact Zw.nx Zw.t75 [(.int .i64 d1), (.int .i64 d2), (.int .i64 d3)] [] [(.int .i64 x0), (.int .i64 n1), (.int .i64 d2)] (Zw.k0 _) ⟨hold_op (.int _ _) (.atom _ _ rfl) o1 (.atom _ _ rfl), hold_bool (.int _ _) (.atom _ _ rfl) (op_lss_t (by first | omega | assumption)), hold_op (.atom _ _ rfl) (.atom _ _ rfl) o2 (.atom _ _ rfl), hold_op (.atom _ _ rfl) (.int _ _) o3 (.atom _ _ rfl), hold_bool (.atom _ _ rfl) (.atom _ _ rfl) (op_neq_f (by first | omega | assumption)), trivial⟩ Zw.i75 rfl rfl rowsHold_nil Zw.r75 rfl rfl (Zw.n76 r0 r1 x0 d2 (by first | assumption | (constructor <;> omega) | trivial) (by first | assumption | (constructor <;> omega) | trivial) (by first | omega | assumption | (intro hh; omega)) (by first | omega | assumption | (intro hh; omega)))
theorem Zw.n74 {W : World} {n0 : Int} {n1 : Int} (r0 : R64 n0) (r1 : R64 n1) (x0 : Int) (x2 : Int) (g0x : R64 x0) (g2x : R64 x2) (j0 : (0 ≤ x0 ∧ x0 < 12)) (j1 : (((73 : Int) ≤ 100 → x2 = (n1 * (73 : Int) + 9223372036854775808) % 18446744073709551616 - 9223372036854775808))) : NdGood Tryz.prog Tryz.f7 8 Tryz.H0 W Zw.p0 Zw.d74 [(.int .i64 x0), (.int .i64 n1), (.int .i64 x2)] := by
  have ⟨gl0, gh0⟩ := g0x
  have ⟨gl2, gh2⟩ := g2x
  have ⟨rl0, rh0⟩ := r0
  have ⟨rl1, rh1⟩ := r1
  obtain ⟨d1, e1, g1, o1⟩ := ex_add (90 : Int) x0
  obtain ⟨d2, e2, g2, o2⟩ := ex_add x2 n1
  obtain ⟨d3, e3, g3, o3⟩ := ex_mul n1 (74 : Int)
  exact Zw.nx Zw.t74 [(.int .i64 d1), (.int .i64 d2), (.int .i64 d3)] [] [(.int .i64 x0), (.int .i64 n1), (.int .i64 d2)] (Zw.k0 _) ⟨hold_op (.int _ _) (.atom _ _ rfl) o1 (.atom _ _ rfl), hold_bool (.int _ _) (.atom _ _ rfl) (op_lss_t (by first | omega | assumption)), hold_op (.atom _ _ rfl) (.atom _ _ rfl) o2 (.atom _ _ rfl), hold_op (.atom _ _ rfl) (.int _ _) o3 (.atom _ _ rfl), hold_bool (.atom _ _ rfl) (.atom _ _ rfl) (op_neq_f (by first | omega | assumption)), trivial⟩ Zw.i74 rfl rfl rowsHold_nil Zw.r74 rfl rfl (Zw.n75 r0 r1 x0 d2 (by first | assumption | (constructor <;> omega) | trivial) (by first | assumption | (constructor <;> omega) | trivial) (by first | omega | assumption | (intro hh; omega)) (by first | omega | assumption | (intro hh; omega)))
theorem Zw.n73 {W : World} {n0 : Int} {n1 : Int} (r0 : R64 n0) (r1 : R64 n1) (x0 : Int) (x2 : Int) (g0x : R64 x0) (g2x : R64 x2) (j0 : (0 ≤ x0 ∧ x0 < 12)) (j1 : (((72 : Int) ≤ 100 → x2 = (n1 * (72 : Int) + 9223372036854775808) % 18446744073709551616 - 9223372036854775808))) : NdGood Tryz.prog Tryz.f7 8 Tryz.H0 W Zw.p0 Zw.d73 [(.int .i64 x0), (.int .i64 n1), (.int .i64 x2)] := by
  have ⟨gl0, gh0⟩ := g0x
  have ⟨gl2, gh2⟩ := g2x
  have ⟨rl0, rh0⟩ := r0
  have ⟨rl1, rh1⟩ := r1
  obtain ⟨d1, e1, g1, o1⟩ := ex_add (90 : Int) x0
  obtain ⟨d2, e2, g2, o2⟩ := ex_add x2 n1
  obtain ⟨d3, e3, g3, o3⟩ := ex_mul n1 (73 : Int)
  exact Zw.nx Zw.t73 [(.int .i64 d1), (.int .i64 d2), (.int .i64 d3)] [] [(.int .i64 x0), (.int .i64 n1), (.int .i64 d2)] (Zw.k0 _) ⟨hold_op (.int _ _) (.atom _ _ rfl) o1 (.atom _ _ rfl), hold_bool (.int _ _) (.atom _ _ rfl) (op_lss_t (by first | omega | assumption)), hold_op (.atom _ _ rfl) (.atom _ _ rfl) o2 (.atom _ _ rfl), hold_op (.atom _ _ rfl) (.int _ _) o3 (.atom _ _ rfl), hold_bool (.atom _ _ rfl) (.atom _ _ rfl) (op_neq_f (by first | omega | assumption)), trivial⟩ Zw.i73 rfl rfl rowsHold_nil Zw.r73 rfl rfl (Zw.n74 r0 r1 x0 d2 (by first | assumption | (constructor <;> omega) | trivial) (by first | assumption | (constructor <;> omega) | trivial) (by first | omega | assumption | (intro hh; omega)) (by first | omega | assumption | (intro hh; omega)))
theorem Zw.n72 {W : World} {n0 : Int} {n1 : Int} (r0 : R64 n0) (r1 : R64 n1) (x0 : Int) (x2 : Int) (g0x : R64 x0) (g2x : R64 x2) (j0 : (0 ≤ x0 ∧ x0 < 12)) (j1 : (((71 : Int) ≤ 100 → x2 = (n1 * (71 : Int) + 9223372036854775808) % 18446744073709551616 - 9223372036854775808))) : NdGood Tryz.prog Tryz.f7 8 Tryz.H0 W Zw.p0 Zw.d72 [(.int .i64 x0), (.int .i64 n1), (.int .i64 x2)] := by
  have ⟨gl0, gh0⟩ := g0x
  have ⟨gl2, gh2⟩ := g2x
  have ⟨rl0, rh0⟩ := r0
  have ⟨rl1, rh1⟩ := r1
  obtain ⟨d1, e1, g1, o1⟩ := ex_add (90 : Int) x0
  obtain ⟨d2, e2, g2, o2⟩ := ex_add x2 n1
  obtain ⟨d3, e3, g3, o3⟩ := ex_mul n1 (72 : Int)
  exact Zw.nx Zw.t72 [(.int .i64 d1), (.int .i64 d2), (.int .i64 d3)] [] [(.int .i64 x0), (.int .i64 n1), (.int .i64 d2)] (Zw.k0 _) ⟨hold_op (.int _ _) (.atom _ _ rfl) o1 (.atom _ _ rfl), hold_bool (.int _ _) (.atom _ _ rfl) (op_lss_t (by first | omega | assumption)), hold_op (.atom _ _ rfl) (.atom _ _ rfl) o2 (.atom _ _ rfl), hold_op (.atom _ _ rfl) (.int _ _) o3 (.atom _ _ rfl), hold_bool (.atom _ _ rfl) (.atom _ _ rfl) (op_neq_f (by first | omega | assumption)), trivial⟩ Zw.i72 rfl rfl rowsHold_nil Zw.r72 rfl rfl (Zw.n73 r0 r1 x0 d2 (by first | assumption | (constructor <;> omega) | trivial) (by first | assumption | (constructor <;> omega) | trivial) (by first | omega | assumption | (intro hh; omega)) (by first | omega | assumption | (intro hh; omega)))
theorem Zw.n71 {W : World} {n0 : Int} {n1 : Int} (r0 : R64 n0) (r1 : R64 n1) (x0 : Int) (x2 : Int) (g0x : R64 x0) (g2x : R64 x2) (j0 : (0 ≤ x0 ∧ x0 < 12)) (j1 : (((70 : Int) ≤ 100 → x2 = (n1 * (70 : Int) + 9223372036854775808) % 18446744073709551616 - 9223372036854775808))) : NdGood Tryz.prog Tryz.f7 8 Tryz.H0 W Zw.p0 Zw.d71 [(.int .i64 x0), (.int .i64 n1), (.int .i64 x2)] := by
  have ⟨gl0, gh0⟩ := g0x
  have ⟨gl2, gh2⟩ := g2x
  have ⟨rl0, rh0⟩ := r0
  have ⟨rl1, rh1⟩ := r1
  obtain ⟨d1, e1, g1, o1⟩ := ex_add (90 : Int) x0
  obtain ⟨d2, e2, g2, o2⟩ := ex_add x2 n1
  obtain ⟨d3, e3, g3, o3⟩ := ex_mul n1 (71 : Int)
  exact Zw.nx Zw.t71 [(.int .i64 d1), (.int .i64 d2), (.int .i64 d3)] [] [(.int .i64 x0), (.int .i64 n1), (.int .i64 d2)] (Zw.k0 _) ⟨hold_op (.int _ _) (.atom _ _ rfl) o1 (.atom _ _ rfl), hold_bool (.int _ _) (.atom _ _ rfl) (op_lss_t (by first | omega | assumption)), hold_op (.atom _ _ rfl) (.atom _ _ rfl) o2 (.atom _ _ rfl), hold_op (.atom _ _ rfl) (.int _ _) o3 (.atom _ _ rfl), hold_bool (.atom _ _ rfl) (.atom _ _ rfl) (op_neq_f (by first | omega | assumption)), trivial⟩ Zw.i71 rfl rfl rowsHold_nil Zw.r71 rfl rfl (Zw.n72 r0 r1 x0 d2 (by first | assumption | (constructor <;> omega) | trivial) (by first | assumption | (constructor <;> omega) | trivial) (by first | omega | assumption | (intro hh; omega)) (by first | omega | assumption | (intro hh; omega)))
theorem Zw.n70 {W : World} {n0 : Int} {n1 : Int} (r0 : R64 n0) (r1 : R64 n1) (x0 : Int) (x2 : Int) (g0x : R64 x0) (g2x : R64 x2) (j0 : (0 ≤ x0 ∧ x0 < 12)) (j1 : (((69 : Int) ≤ 100 → x2 = (n1 * (69 : Int) + 9223372036854775808) % 18446744073709551616 - 9223372036854775808))) : NdGood Tryz.prog Tryz.f7 8 Tryz.H0 W Zw.p0 Zw.d70 [(.int .i64 x0), (.int .i64 n1), (.int .i64 x2)] := by
  have ⟨gl0, gh0⟩ := g0x
  have ⟨gl2, gh2⟩ := g2x
  have ⟨rl0, rh0⟩ := r0
  have ⟨rl1, rh1⟩ := r1
  obtain ⟨d1, e1, g1, o1⟩ := ex_add (90 : Int) x0
  obtain ⟨d2, e2, g2, o2⟩ := ex_add x2 n1
  obtain ⟨d3, e3, g3, o3⟩ := ex_mul n1 (70 : Int)
  exact Zw.nx Zw.t70 [(.int .i64 d1), (.int .i64 d2), (.int .i64 d3)] [] [(.int .i64 x0), (.int .i64 n1), (.int .i64 d2)] (Zw.k0 _) ⟨hold_op (.int _ _) (.atom _ _ rfl) o1 (.atom _ _ rfl), hold_bool (.int _ _) (.atom _ _ rfl) (op_lss_t (by first | omega | assumption)), hold_op (.atom _ _ rfl) (.atom _ _ rfl) o2 (.atom _ _ rfl), hold_op (.atom _ _ rfl) (.int _ _) o3 (.atom _ _ rfl), hold_bool (.atom _ _ rfl) (.atom _ _ rfl) (op_neq_f (by first | omega | assumption)), trivial⟩ Zw.i70 rfl rfl rowsHold_nil Zw.r70 rfl rfl (Zw.n71 r0 r1 x0 d2 (by first | assumption | (constructor <;> omega) | trivial) (by first | assumption | (constructor <;> omega) | trivial) (by first | omega | assumption | (intro hh; omega)) (by first | omega | assumption | (intro hh; omega)))
theorem Zw.n69 {W : World} {n0 : Int} {n1 : Int} (r0 : R64 n0) (r1 : R64 n1) (x0 : Int) (x2 : Int) (g0x : R64 x0) (g2x : R64 x2) (j0 : (0 ≤ x0 ∧ x0 < 12)) (j1 : (((68 : Int) ≤ 100 → x2 = (n1 * (68 : Int) + 9223372036854775808) % 18446744073709551616 - 9223372036854775808))) : NdGood Tryz.prog Tryz.f7 8 Tryz.H0 W Zw.p0 Zw.d69 [(.int .i64 x0), (.int .i64 n1), (.int .i64 x2)] := by
  have ⟨gl0, gh0⟩ := g0x
  have ⟨gl2, gh2⟩ := g2x
  have ⟨rl0, rh0⟩ := r0
  have ⟨rl1, rh1⟩ := r1
  obtain ⟨d1, e1, g1, o1⟩ := ex_add (90 : Int) x0
  obtain ⟨d2, e2, g2, o2⟩ := ex_add x2 n1
  obtain ⟨d3, e3, g3, o3⟩ := ex_mul n1 (69 : Int)
  exact Zw.nx Zw.t69 [(.int .i64 d1), (.int .i64 d2), (.int .i64 d3)] [] [(.int .i64 x0), (.int .i64 n1), (.int .i64 d2)] (Zw.k0 _) ⟨hold_op (.int _ _) (.atom _ _ rfl) o1 (.atom _ _ rfl), hold_bool (.int _ _) (.atom _ _ rfl) (op_lss_t (by first | omega | assumption)), hold_op (.atom _ _ rfl) (.atom _ _ rfl) o2 (.atom _ _ rfl), hold_op (.atom _ _ rfl) (.int _ _) o3 (.atom _ _ rfl), hold_bool (.atom _ _ rfl) (.atom _ _ rfl) (op_neq_f (by first | omega | assumption)), trivial⟩ Zw.i69 rfl rfl rowsHold_nil Zw.r69 rfl rfl (Zw.n70 r0 r1 x0 d2 (by first | assumption | (constructor <;> omega) | trivial) (by first | assumption | (constructor <;> omega) | trivial) (by first | omega | assumption | (intro hh; omega)) (by first | omega | assumption | (intro hh; omega)))
theorem Zw.n68 {W : World} {n0 : Int} {n1 : Int} (r0 : R64 n0) (r1 : R64 n1) (x0 : Int) (x2 : Int) (g0x : R64 x0) (g2x : R64 x2) (j0 : (0 ≤ x0 ∧ x0 < 12)) (j1 : (((67 : Int) ≤ 100 → x2 = (n1 * (67 : Int) + 9223372036854775808) % 18446744073709551616 - 9223372036854775808))) : NdGood Tryz.prog Tryz.f7 8 Tryz.H0 W Zw.p0 Zw.d68 [(.int .i64 x0), (.int .i64 n1), (.int .i64 x2)] := by
  have ⟨gl0, gh0⟩ := g0x
  have ⟨gl2, gh2⟩ := g2x
  have ⟨rl0, rh0⟩ := r0
  have ⟨rl1, rh1⟩ := r1
  obtain ⟨d1, e1, g1, o1⟩ := ex_add (90 : Int) x0
  obtain ⟨d2, e2, g2, o2⟩ := ex_add x2 n1
  obtain ⟨d3, e3, g3, o3⟩ := ex_mul n1 (68 : Int)
  exact Zw.nx Zw.t68 [(.int .i64 d1), (.int .i64 d2), (.int .i64 d3)] [] [(.int .i64 x0), (.int .i64 n1), (.int .i64 d2)] (Zw.k0 _) ⟨hold_op (.int _ _) (.atom _ _ rfl) o1 (.atom _ _ rfl), hold_bool (.int _ _) (.atom _ _ rfl) (op_lss_t (by first | omega | assumption)), hold_op (.atom _ _ rfl) (.atom _ _ rfl) o2 (.atom _ _ rfl), hold_op (.atom _ _ rfl) (.int _ _) o3 (.atom _ _ rfl), hold_bool (.atom _ _ rfl) (.atom _ _ rfl) (op_neq_f (by first | omega | assumption)), trivial⟩ Zw.i68 rfl rfl rowsHold_nil Zw.r68 rfl rfl (Zw.n69 r0 r1 x0 d2 (by first | assumption | (constructor <;> omega) | trivial) (by first | assumption | (constructor <;> omega) | trivial) (by first | omega | assumption | (intro hh; omega)) (by first | omega | assumption | (intro hh; omega)))
theorem Zw.n67 {W : World} {n0 : Int} {n1 : Int} (r0 : R64 n0) (r1 : R64 n1) (x0 : Int) (x2 : Int) (g0x : R64 x0) (g2x : R64 x2) (j0 : (0 ≤ x0 ∧ x0 < 12)) (j1 : (((66 : Int) ≤ 100 → x2 = (n1 * (66 : Int) + 9223372036854775808) % 18446744073709551616 - 9223372036854775808))) : NdGood Tryz.prog Tryz.f7 8 Tryz.H0 W Zw.p0 Zw.d67 [(.int .i64 x0), (.int .i64 n1), (.int .i64 x2)] := by
  have ⟨gl0, gh0⟩ := g0x
  have ⟨gl2, gh2⟩ := g2x
  have ⟨rl0, rh0⟩ := r0
  have ⟨rl1, rh1⟩ := r1
  obtain ⟨d1, e1, g1, o1⟩ := ex_add (90 : Int) x0
  obtain ⟨d2, e2, g2, o2⟩ := ex_add x2 n1
  obtain ⟨d3, e3, g3, o3⟩ := ex_mul n1 (67 : Int)
  exact Zw.nx Zw.t67 [(.int .i64 d1), (.int .i64 d2), (.int .i64 d3)] [] [(.int .i64 x0), (.int .i64 n1), (.int .i64 d2)] (Zw.k0 _) ⟨hold_op (.int _ _) (.atom _ _ rfl) o1 (.atom _ _ rfl), hold_bool (.int _ _) (.atom _ _ rfl) (op_lss_t (by first | omega | assumption)), hold_op (.atom _ _ rfl) (.atom _ _ rfl) o2 (.atom _ _ rfl), hold_op (.atom _ _ rfl) (.int _ _) o3 (.atom _ _ rfl), hold_bool (.atom _ _ rfl) (.atom _ _ rfl) (op_neq_f (by first | omega | assumption)), trivial⟩ Zw.i67 rfl rfl rowsHold_nil Zw.r67 rfl rfl (Zw.n68 r0 r1 x0 d2 (by first | assumption | (constructor <;> omega) | trivial) (by first | assumption | (constructor <;> omega) | trivial) (by first | omega | assumption | (intro hh; omega)) (by first | omega | assumption | (intro hh; omega)))
theorem Zw.n66 {W : World} {n0 : Int} {n1 : Int} (r0 : R64 n0) (r1 : R64 n1) (x0 : Int) (x2 : Int) (g0x : R64 x0) (g2x : R64 x2) (j0 : (0 ≤ x0 ∧ x0 < 12)) (j1 : (((65 : Int) ≤ 100 → x2 = (n1 * (65 : Int) + 9223372036854775808) % 18446744073709551616 - 9223372036854775808))) : NdGood Tryz.prog Tryz.f7 8 Tryz.H0 W Zw.p0 Zw.d66 [(.int .i64 x0), (.int .i64 n1), (.int .i64 x2)] := by
  have ⟨gl0, gh0⟩ := g0x
  have ⟨gl2, gh2⟩ := g2x
  have ⟨rl0, rh0⟩ := r0
  have ⟨rl1, rh1⟩ := r1
  obtain ⟨d1, e1, g1, o1⟩ := ex_add (90 : Int) x0
  obtain ⟨d2, e2, g2, o2⟩ := ex_add x2 n1
  obtain ⟨d3, e3, g3, o3⟩ := ex_mul n1 (66 : Int)
  exact Zw.nx Zw.t66 [(.int .i64 d1), (.int .i64 d2), (.int .i64 d3)] [] [(.int .i64 x0), (.int .i64 n1), (.int .i64 d2)] (Zw.k0 _) ⟨hold_op (.int _ _) (.atom _ _ rfl) o1 (.atom _ _ rfl), hold_bool (.int _ _) (.atom _ _ rfl) (op_lss_t (by first | omega | assumption)), hold_op (.atom _ _ rfl) (.atom _ _ rfl) o2 (.atom _ _ rfl), hold_op (.atom _ _ rfl) (.int _ _) o3 (.atom _ _ rfl), hold_bool (.atom _ _ rfl) (.atom _ _ rfl) (op_neq_f (by first | omega | assumption)), trivial⟩ Zw.i66 rfl rfl rowsHold_nil Zw.r66 rfl rfl (Zw.n67 r0 r1 x0 d2 (by first | assumption | (constructor <;> omega) | trivial) (by first | assumption | (constructor <;> omega) | trivial) (by first | omega | assumption | (intro hh; omega)) (by first | omega | assumption | (intro hh; omega)))
theorem Zw.n65 {W : World} {n0 : Int} {n1 : Int} (r0 : R64 n0) (r1 : R64 n1) (x0 : Int) (x2 : Int) (g0x : R64 x0) (g2x : R64 x2) (j0 : (0 ≤ x0 ∧ x0 < 12)) (j1 : (((64 : Int) ≤ 100 → x2 = (n1 * (64 : Int) + 9223372036854775808) % 18446744073709551616 - 9223372036854775808))) : NdGood Tryz.prog Tryz.f7 8 Tryz.H0 W Zw.p0 Zw.d65 [(.int .i64 x0), (.int .i64 n1), (.int .i64 x2)] := by
  have ⟨gl0, gh0⟩ := g0x
  have ⟨gl2, gh2⟩ := g2x
  have ⟨rl0, rh0⟩ := r0
  have ⟨rl1, rh1⟩ := r1
  obtain ⟨d1, e1, g1, o1⟩ := ex_add (90 : Int) x0
  obtain ⟨d2, e2, g2, o2⟩ := ex_add x2 n1
  obtain ⟨d3, e3, g3, o3⟩ := ex_mul n1 (65 : Int)
  exact Zw.nx Zw.t65 [(.int .i64 d1), (.int .i64 d2), (.int .i64 d3)] [] [(.int .i64 x0), (.int .i64 n1), (.int .i64 d2)] (Zw.k0 _) ⟨hold_op (.int _ _) (.atom _ _ rfl) o1 (.atom _ _ rfl), hold_bool (.int _ _) (.atom _ _ rfl) (op_lss_t (by first | omega | assumption)), hold_op (.atom _ _ rfl) (.atom _ _ rfl) o2 (.atom _ _ rfl), hold_op (.atom _ _ rfl) (.int _ _) o3 (.atom _ _ rfl), hold_bool (.atom _ _ rfl) (.atom _ _ rfl) (op_neq_f (by first | omega | assumption)), trivial⟩ Zw.i65 rfl rfl rowsHold_nil Zw.r65 rfl rfl (Zw.n66 r0 r1 x0 d2 (by first | assumption | (constructor <;> omega) | trivial) (by first | assumption | (constructor <;> omega) | trivial) (by first | omega | assumption | (intro hh; omega)) (by first | omega | assumption | (intro hh; omega)))
theorem Zw.n64 {W : World} {n0 : Int} {n1 : Int} (r0 : R64 n0) (r1 : R64 n1) (x0 : Int) (x2 : Int) (g0x : R64 x0) (g2x : R64 x2) (j0 : (0 ≤ x0 ∧ x0 < 12)) (j1 : (((63 : Int) ≤ 100 → x2 = (n1 * (63 : Int) + 9223372036854775808) % 18446744073709551616 - 9223372036854775808))) : NdGood Tryz.prog Tryz.f7 8 Tryz.H0 W Zw.p0 Zw.d64 [(.int .i64 x0), (.int .i64 n1), (.int .i64 x2)] := by
  have ⟨gl0, gh0⟩ := g0x
  have ⟨gl2, gh2⟩ := g2x
  have ⟨rl0, rh0⟩ := r0
  have ⟨rl1, rh1⟩ := r1
  obtain ⟨d1, e1, g1, o1⟩ := ex_add (90 : Int) x0
  obtain ⟨d2, e2, g2, o2⟩ := ex_add x2 n1
  obtain ⟨d3, e3, g3, o3⟩ := ex_mul n1 (64 : Int)
  exact Zw.nx Zw.t64 [(.int .i64 d1), (.int .i64 d2), (.int .i64 d3)] [] [(.int .i64 x0), (.int .i64 n1), (.int .i64 d2)] (Zw.k0 _) ⟨hold_op (.int _ _) (.atom _ _ rfl) o1 (.atom _ _ rfl), hold_bool (.int _ _) (.atom _ _ rfl) (op_lss_t (by first | omega | assumption)), hold_op (.atom _ _ rfl) (.atom _ _ rfl) o2 (.atom _ _ rfl), hold_op (.atom _ _ rfl) (.int _ _) o3 (.atom _ _ rfl), hold_bool (.atom _ _ rfl) (.atom _ _ rfl) (op_neq_f (by first | omega | assumption)), trivial⟩ Zw.i64 rfl rfl rowsHold_nil Zw.r64 rfl rfl (Zw.n65 r0 r1 x0 d2 (by first | assumption | (constructor <;> omega) | trivial) (by first | assumption | (constructor <;> omega) | trivial) (by first | omega | assumption | (intro hh; omega)) (by first | omega | assumption | (intro hh; omega)))
theorem Zw.n63 {W : World} {n0 : Int} {n1 : Int} (r0 : R64 n0) (r1 : R64 n1) (x0 : Int) (x2 : Int) (g0x : R64 x0) (g2x : R64 x2) (j0 : (0 ≤ x0 ∧ x0 < 12)) (j1 : (((62 : Int) ≤ 100 → x2 = (n1 * (62 : Int) + 9223372036854775808) % 18446744073709551616 - 9223372036854775808))) : NdGood Tryz.prog Tryz.f7 8 Tryz.H0 W Zw.p0 Zw.d63 [(.int .i64 x0), (.int .i64 n1), (.int .i64 x2)] := by
  have ⟨gl0, gh0⟩ := g0x
  have ⟨gl2, gh2⟩ := g2x
  have ⟨rl0, rh0⟩ := r0
  have ⟨rl1, rh1⟩ := r1
  obtain ⟨d1, e1, g1, o1⟩ := ex_add (90 : Int) x0
  obtain ⟨d2, e2, g2, o2⟩ := ex_add x2 n1
  obtain ⟨d3, e3, g3, o3⟩ := ex_mul n1 (63 : Int)
  exact Zw.nx Zw.t63 [(.int .i64 d1), (.int .i64 d2), (.int .i64 d3)] [] [(.int .i64 x0), (.int .i64 n1), (.int .i64 d2)] (Zw.k0 _) ⟨hold_op (.int _ _) (.atom _ _ rfl) o1 (.atom _ _ rfl), hold_bool (.int _ _) (.atom _ _ rfl) (op_lss_t (by first | omega | assumption)), hold_op (.atom _ _ rfl) (.atom _ _ rfl) o2 (.atom _ _ rfl), hold_op (.atom _ _ rfl) (.int _ _) o3 (.atom _ _ rfl), hold_bool (.atom _ _ rfl) (.atom _ _ rfl) (op_neq_f (by first | omega | assumption)), trivial⟩ Zw.i63 rfl rfl rowsHold_nil Zw.r63 rfl rfl (Zw.n64 r0 r1 x0 d2 (by first | assumption | (constructor <;> omega) | trivial) (by first | assumption | (constructor <;> omega) | trivial) (by first | omega | assumption | (intro hh; omega)) (by first | omega | assumption | (intro hh; omega)))
theorem Zw.n62 {W : World} {n0 : Int} {n1 : Int} (r0 : R64 n0) (r1 : R64 n1) (x0 : Int) (x2 : Int) (g0x : R64 x0) (g2x : R64 x2) (j0 : (0 ≤ x0 ∧ x0 < 12)) (j1 : (((61 : Int) ≤ 100 → x2 = (n1 * (61 : Int) + 9223372036854775808) % 18446744073709551616 - 9223372036854775808))) : NdGood Tryz.prog Tryz.f7 8 Tryz.H0 W Zw.p0 Zw.d62 [(.int .i64 x0), (.int .i64 n1), (.int .i64 x2)] := by
  have ⟨gl0, gh0⟩ := g0x
  have ⟨gl2, gh2⟩ := g2x
  have ⟨rl0, rh0⟩ := r0
  have ⟨rl1, rh1⟩ := r1
  obtain ⟨d1, e1, g1, o1⟩ := ex_add (90 : Int) x0
  obtain ⟨d2, e2, g2, o2⟩ := ex_add x2 n1
  obtain ⟨d3, e3, g3, o3⟩ := ex_mul n1 (62 : Int)
  exact Zw.nx Zw.t62 [(.int .i64 d1), (.int .i64 d2), (.int .i64 d3)] [] [(.int .i64 x0), (.int .i64 n1), (.int .i64 d2)] (Zw.k0 _) ⟨hold_op (.int _ _) (.atom _ _ rfl) o1 (.atom _ _ rfl), hold_bool (.int _ _) (.atom _ _ rfl) (op_lss_t (by first | omega | assumption)), hold_op (.atom _ _ rfl) (.atom _ _ rfl) o2 (.atom _ _ rfl), hold_op (.atom _ _ rfl) (.int _ _) o3 (.atom _ _ rfl), hold_bool (.atom _ _ rfl) (.atom _ _ rfl) (op_neq_f (by first | omega | assumption)), trivial⟩ Zw.i62 rfl rfl rowsHold_nil Zw.r62 rfl rfl (Zw.n63 r0 r1 x0 d2 (by first | assumption | (constructor <;> omega) | trivial) (by first | assumption | (constructor <;> omega) | trivial) (by first | omega | assumption | (intro hh; omega)) (by first | omega | assumption | (intro hh; omega)))
theorem Zw.n61 {W : World} {n0 : Int} {n1 : Int} (r0 : R64 n0) (r1 : R64 n1) (x0 : Int) (x2 : Int) (g0x : R64 x0) (g2x : R64 x2) (j0 : (0 ≤ x0 ∧ x0 < 12)) (j1 : (((60 : Int) ≤ 100 → x2 = (n1 * (60 : Int) + 9223372036854775808) % 18446744073709551616 - 9223372036854775808))) : NdGood Tryz.prog Tryz.f7 8 Tryz.H0 W Zw.p0 Zw.d61 [(.int .i64 x0), (.int .i64 n1), (.int .i64 x2)] := by
  have ⟨gl0, gh0⟩ := g0x
  have ⟨gl2, gh2⟩ := g2x
  have ⟨rl0, rh0⟩ := r0
  have ⟨rl1, rh1⟩ := r1
  obtain ⟨d1, e1, g1, o1⟩ := ex_add (90 : Int) x0
  obtain ⟨d2, e2, g2, o2⟩ := ex_add x2 n1
  obtain ⟨d3, e3, g3, o3⟩ := ex_mul n1 (61 : Int)
  exact Zw.nx Zw.t61 [(.int .i64 d1), (.int .i64 d2), (.int .i64 d3)] [] [(.int .i64 x0), (.int .i64 n1), (.int .i64 d2)] (Zw.k0 _) ⟨hold_op (.int _ _) (.atom _ _ rfl) o1 (.atom _ _ rfl), hold_bool (.int _ _) (.atom _ _ rfl) (op_lss_t (by first | omega | assumption)), hold_op (.atom _ _ rfl) (.atom _ _ rfl) o2 (.atom _ _ rfl), hold_op (.atom _ _ rfl) (.int _ _) o3 (.atom _ _ rfl), hold_bool (.atom _ _ rfl) (.atom _ _ rfl) (op_neq_f (by first | omega | assumption)), trivial⟩ Zw.i61 rfl rfl rowsHold_nil Zw.r61 rfl rfl (Zw.n62 r0 r1 x0 d2 (by first | assumption | (constructor <;> omega) | trivial) (by first | assumption | (constructor <;> omega) | trivial) (by first | omega | assumption | (intro hh; omega)) (by first | omega | assumption | (intro hh; omega)))
theorem Zw.n60 {W : World} {n0 : Int} {n1 : Int} (r0 : R64 n0) (r1 : R64 n1) (x0 : Int) (x2 : Int) (g0x : R64 x0) (g2x : R64 x2) (j0 : (0 ≤ x0 ∧ x0 < 12)) (j1 : (((59 : Int) ≤ 100 → x2 = (n1 * (59 : Int) + 9223372036854775808) % 18446744073709551616 - 9223372036854775808))) : NdGood Tryz.prog Tryz.f7 8 Tryz.H0 W Zw.p0 Zw.d60 [(.int .i64 x0), (.int .i64 n1), (.int .i64 x2)] := by
  have ⟨gl0, gh0⟩ := g0x
  have ⟨gl2, gh2⟩ := g2x
  have ⟨rl0, rh0⟩ := r0
  have ⟨rl1, rh1⟩ := r1
  obtain ⟨d1, e1, g1, o1⟩ := ex_add (90 : Int) x0
  obtain ⟨d2, e2, g2, o2⟩ := ex_add x2 n1
  obtain ⟨d3, e3, g3, o3⟩ := ex_mul n1 (60 : Int)
  exact Zw.nx Zw.t60 [(.int .i64 d1), (.int .i64 d2), (.int .i64 d3)] [] [(.int .i64 x0), (.int .i64 n1), (.int .i64 d2)] (Zw.k0 _) ⟨hold_op (.int _ _) (.atom _ _ rfl) o1 (.atom _ _ rfl), hold_bool (.int _ _) (.atom _ _ rfl) (op_lss_t (by first | omega | assumption)), hold_op (.atom _ _ rfl) (.atom _ _ rfl) o2 (.atom _ _ rfl), hold_op (.atom _ _ rfl) (.int _ _) o3 (.atom _ _ rfl), hold_bool (.atom _ _ rfl) (.atom _ _ rfl) (op_neq_f (by first | omega | assumption)), trivial⟩ Zw.i60 rfl rfl rowsHold_nil Zw.r60 rfl rfl (Zw.n61 r0 r1 x0 d2 (by first | assumption | (constructor <;> omega) | trivial) (by first | assumption | (constructor <;> omega) | trivial) (by first | omega | assumption | (intro hh; omega)) (by first | omega | assumption | (intro hh; omega)))
theorem Zw.n59 {W : World} {n0 : Int} {n1 : Int} (r0 : R64 n0) (r1 : R64 n1) (x0 : Int) (x2 : Int) (g0x : R64 x0) (g2x : R64 x2) (j0 : (0 ≤ x0 ∧ x0 < 12)) (j1 : (((58 : Int) ≤ 100 → x2 = (n1 * (58 : Int) + 9223372036854775808) % 18446744073709551616 - 9223372036854775808))) : NdGood Tryz.prog Tryz.f7 8 Tryz.H0 W Zw.p0 Zw.d59 [(.int .i64 x0), (.int .i64 n1), (.int .i64 x2)] := by
  have ⟨gl0, gh0⟩ := g0x
  have ⟨gl2, gh2⟩ := g2x
  have ⟨rl0, rh0⟩ := r0
  have ⟨rl1, rh1⟩ := r1
  obtain ⟨d1, e1, g1, o1⟩ := ex_add (90 : Int) x0
  obtain ⟨d2, e2, g2, o2⟩ := ex_add x2 n1
  obtain ⟨d3, e3, g3, o3⟩ := ex_mul n1 (59 : Int)
  exact Zw.nx Zw.t59 [(.int .i64 d1), (.int .i64 d2), (.int .i64 d3)] [] [(.int .i64 x0), (.int .i64 n1), (.int .i64 d2)] (Zw.k0 _) ⟨hold_op (.int _ _) (.atom _ _ rfl) o1 (.atom _ _ rfl), hold_bool (.int _ _) (.atom _ _ rfl) (op_lss_t (by first | omega | assumption)), hold_op (.atom _ _ rfl) (.atom _ _ rfl) o2 (.atom _ _ rfl), hold_op (.atom _ _ rfl) (.int _ _) o3 (.atom _ _ rfl), hold_bool (.atom _ _ rfl) (.atom _ _ rfl) (op_neq_f (by first | omega | assumption)), trivial⟩ Zw.i59 rfl rfl rowsHold_nil Zw.r59 rfl rfl (Zw.n60 r0 r1 x0 d2 (by first | assumption | (constructor <;> omega) | trivial) (by first | assumption | (constructor <;> omega) | trivial) (by first | omega | assumption | (intro hh; omega)) (by first | omega | assumption | (intro hh; omega)))
theorem Zw.n58 {W : World} {n0 : Int} {n1 : Int} (r0 : R64 n0) (r1 : R64 n1) (x0 : Int) (x2 : Int) (g0x : R64 x0) (g2x : R64 x2) (j0 : (0 ≤ x0 ∧ x0 < 12)) (j1 : (((57 : Int) ≤ 100 → x2 = (n1 * (57 : Int) + 9223372036854775808) % 18446744073709551616 - 9223372036854775808))) : NdGood Tryz.prog Tryz.f7 8 Tryz.H0 W Zw.p0 Zw.d58 [(.int .i64 x0), (.int .i64 n1), (.int .i64 x2)] := by
  have ⟨gl0, gh0⟩ := g0x
  have ⟨gl2, gh2⟩ := g2x
  have ⟨rl0, rh0⟩ := r0
  have ⟨rl1, rh1⟩ := r1
  obtain ⟨d1, e1, g1, o1⟩ := ex_add (90 : Int) x0
  obtain ⟨d2, e2, g2, o2⟩ := ex_add x2 n1
  obtain ⟨d3, e3, g3, o3⟩ := ex_mul n1 (58 : Int)
  exact Zw.nx Zw.t58 [(.int .i64 d1), (.int .i64 d2), (.int .i64 d3)] [] [(.int .i64 x0), (.int .i64 n1), (.int .i64 d2)] (Zw.k0 _) ⟨hold_op (.int _ _) (.atom _ _ rfl) o1 (.atom _ _ rfl), hold_bool (.int _ _) (.atom _ _ rfl) (op_lss_t (by first | omega | assumption)), hold_op (.atom _ _ rfl) (.atom _ _ rfl) o2 (.atom _ _ rfl), hold_op (.atom _ _ rfl) (.int _ _) o3 (.atom _ _ rfl), hold_bool (.atom _ _ rfl) (.atom _ _ rfl) (op_neq_f (by first | omega | assumption)), trivial⟩ Zw.i58 rfl rfl rowsHold_nil Zw.r58 rfl rfl (Zw.n59 r0 r1 x0 d2 (by first | assumption | (constructor <;> omega) | trivial) (by first | assumption | (constructor <;> omega) | trivial) (by first | omega | assumption | (intro hh; omega)) (by first | omega | assumption | (intro hh; omega)))
theorem Zw.n57 {W : World} {n0 : Int} {n1 : Int} (r0 : R64 n0) (r1 : R64 n1) (x0 : Int) (x2 : Int) (g0x : R64 x0) (g2x : R64 x2) (j0 : (0 ≤ x0 ∧ x0 < 12)) (j1 : (((56 : Int) ≤ 100 → x2 = (n1 * (56 : Int) + 9223372036854775808) % 18446744073709551616 - 9223372036854775808))) : NdGood Tryz.prog Tryz.f7 8 Tryz.H0 W Zw.p0 Zw.d57 [(.int .i64 x0), (.int .i64 n1), (.int .i64 x2)] := by
  have ⟨gl0, gh0⟩ := g0x
  have ⟨gl2, gh2⟩ := g2x
  have ⟨rl0, rh0⟩ := r0
  have ⟨rl1, rh1⟩ := r1
  obtain ⟨d1, e1, g1, o1⟩ := ex_add (90 : Int) x0
  obtain ⟨d2, e2, g2, o2⟩ := ex_add x2 n1
  obtain ⟨d3, e3, g3, o3⟩ := ex_mul n1 (57 : Int)
  exact Zw.nx Zw.t57 [(.int .i64 d1), (.int .i64 d2), (.int .i64 d3)] [] [(.int .i64 x0), (.int .i64 n1), (.int .i64 d2)] (Zw.k0 _) ⟨hold_op (.int _ _) (.atom _ _ rfl) o1 (.atom _ _ rfl), hold_bool (.int _ _) (.atom _ _ rfl) (op_lss_t (by first | omega | assumption)), hold_op (.atom _ _ rfl) (.atom _ _ rfl) o2 (.atom _ _ rfl), hold_op (.atom _ _ rfl) (.int _ _) o3 (.atom _ _ rfl), hold_bool (.atom _ _ rfl) (.atom _ _ rfl) (op_neq_f (by first | omega | assumption)), trivial⟩ Zw.i57 rfl rfl rowsHold_nil Zw.r57 rfl rfl (Zw.n58 r0 r1 x0 d2 (by first | assumption | (constructor <;> omega) | trivial) (by first | assumption | (constructor <;> omega) | trivial) (by first | omega | assumption | (intro hh; omega)) (by first | omega | assumption | (intro hh; omega)))
theorem Zw.n56 {W : World} {n0 : Int} {n1 : Int} (r0 : R64 n0) (r1 : R64 n1) (x0 : Int) (x2 : Int) (g0x : R64 x0) (g2x : R64 x2) (j0 : (0 ≤ x0 ∧ x0 < 12)) (j1 : (((55 : Int) ≤ 100 → x2 = (n1 * (55 : Int) + 9223372036854775808) % 18446744073709551616 - 9223372036854775808))) : NdGood Tryz.prog Tryz.f7 8 Tryz.H0 W Zw.p0 Zw.d56 [(.int .i64 x0), (.int .i64 n1), (.int .i64 x2)] := by
  have ⟨gl0, gh0⟩ := g0x
  have ⟨gl2, gh2⟩ := g2x
  have ⟨rl0, rh0⟩ := r0
  have ⟨rl1, rh1⟩ := r1
  obtain ⟨d1, e1, g1, o1⟩ := ex_add (90 : Int) x0
  obtain ⟨d2, e2, g2, o2⟩ := ex_add x2 n1
  obtain ⟨d3, e3, g3, o3⟩ := ex_mul n1 (56 : Int)
  exact Zw.nx Zw.t56 [(.int .i64 d1), (.int .i64 d2), (.int .i64 d3)] [] [(.int .i64 x0), (.int .i64 n1), (.int .i64 d2)] (Zw.k0 _) ⟨hold_op (.int _ _) (.atom _ _ rfl) o1 (.atom _ _ rfl), hold_bool (.int _ _) (.atom _ _ rfl) (op_lss_t (by first | omega | assumption)), hold_op (.atom _ _ rfl) (.atom _ _ rfl) o2 (.atom _ _ rfl), hold_op (.atom _ _ rfl) (.int _ _) o3 (.atom _ _ rfl), hold_bool (.atom _ _ rfl) (.atom _ _ rfl) (op_neq_f (by first | omega | assumption)), trivial⟩ Zw.i56 rfl rfl rowsHold_nil Zw.r56 rfl rfl (Zw.n57 r0 r1 x0 d2 (by first | assumption | (constructor <;> omega) | trivial) (by first | assumption | (constructor <;> omega) | trivial) (by first | omega | assumption | (intro hh; omega)) (by first | omega | assumption | (intro hh; omega)))
theorem Zw.n55 {W : World} {n0 : Int} {n1 : Int} (r0 : R64 n0) (r1 : R64 n1) (x0 : Int) (x2 : Int) (g0x : R64 x0) (g2x : R64 x2) (j0 : (0 ≤ x0 ∧ x0 < 12)) (j1 : (((54 : Int) ≤ 100 → x2 = (n1 * (54 : Int) + 9223372036854775808) % 18446744073709551616 - 9223372036854775808))) : NdGood Tryz.prog Tryz.f7 8 Tryz.H0 W Zw.p0 Zw.d55 [(.int .i64 x0), (.int .i64 n1), (.int .i64 x2)] := by
  have ⟨gl0, gh0⟩ := g0x
  have ⟨gl2, gh2⟩ := g2x
  have ⟨rl0, rh0⟩ := r0
  have ⟨rl1, rh1⟩ := r1
  obtain ⟨d1, e1, g1, o1⟩ := ex_add (90 : Int) x0
  obtain ⟨d2, e2, g2, o2⟩ := ex_add x2 n1
  obtain ⟨d3, e3, g3, o3⟩ := ex_mul n1 (55 : Int)
  exact Zw.nx Zw.t55 [(.int .i64 d1), (.int .i64 d2), (.int .i64 d3)] [] [(.int .i64 x0), (.int .i64 n1), (.int .i64 d2)] (Zw.k0 _) ⟨hold_op (.int _ _) (.atom _ _ rfl) o1 (.atom _ _ rfl), hold_bool (.int _ _) (.atom _ _ rfl) (op_lss_t (by first | omega | assumption)), hold_op (.atom _ _ rfl) (.atom _ _ rfl) o2 (.atom _ _ rfl), hold_op (.atom _ _ rfl) (.int _ _) o3 (.atom _ _ rfl), hold_bool (.atom _ _ rfl) (.atom _ _ rfl) (op_neq_f (by first | omega | assumption)), trivial⟩ Zw.i55 rfl rfl rowsHold_nil Zw.r55 rfl rfl (Zw.n56 r0 r1 x0 d2 (by first | assumption | (constructor <;> omega) | trivial) (by first | assumption | (constructor <;> omega) | trivial) (by first | omega | assumption | (intro hh; omega)) (by first | omega | assumption | (intro hh; omega)))
theorem Zw.n54 {W : World} {n0 : Int} {n1 : Int} (r0 : R64 n0) (r1 : R64 n1) (x0 : Int) (x2 : Int) (g0x : R64 x0) (g2x : R64 x2) (j0 : (0 ≤ x0 ∧ x0 < 12)) (j1 : (((53 : Int) ≤ 100 → x2 = (n1 * (53 : Int) + 9223372036854775808) % 18446744073709551616 - 9223372036854775808))) : NdGood Tryz.prog Tryz.f7 8 Tryz.H0 W Zw.p0 Zw.d54 [(.int .i64 x0), (.int .i64 n1), (.int .i64 x2)] := by
  have ⟨gl0, gh0⟩ := g0x
  have ⟨gl2, gh2⟩ := g2x
  have ⟨rl0, rh0⟩ := r0
  have ⟨rl1, rh1⟩ := r1
  obtain ⟨d1, e1, g1, o1⟩ := ex_add (90 : Int) x0
  obtain ⟨d2, e2, g2, o2⟩ := ex_add x2 n1
  obtain ⟨d3, e3, g3, o3⟩ := ex_mul n1 (54 : Int)
  exact Zw.nx Zw.t54 [(.int .i64 d1), (.int .i64 d2), (.int .i64 d3)] [] [(.int .i64 x0), (.int .i64 n1), (.int .i64 d2)] (Zw.k0 _) ⟨hold_op (.int _ _) (.atom _ _ rfl) o1 (.atom _ _ rfl), hold_bool (.int _ _) (.atom _ _ rfl) (op_lss_t (by first | omega | assumption)), hold_op (.atom _ _ rfl) (.atom _ _ rfl) o2 (.atom _ _ rfl), hold_op (.atom _ _ rfl) (.int _ _) o3 (.atom _ _ rfl), hold_bool (.atom _ _ rfl) (.atom _ _ rfl) (op_neq_f (by first | omega | assumption)), trivial⟩ Zw.i54 rfl rfl rowsHold_nil Zw.r54 rfl rfl (Zw.n55 r0 r1 x0 d2 (by first | assumption | (constructor <;> omega) | trivial) (by first | assumption | (constructor <;> omega) | trivial) (by first | omega | assumption | (intro hh; omega)) (by first | omega | assumption | (intro hh; omega)))
theorem Zw.n53 {W : World} {n0 : Int} {n1 : Int} (r0 : R64 n0) (r1 : R64 n1) (x0 : Int) (x2 : Int) (g0x : R64 x0) (g2x : R64 x2) (j0 : (0 ≤ x0 ∧ x0 < 12)) (j1 : (((52 : Int) ≤ 100 → x2 = (n1 * (52 : Int) + 9223372036854775808) % 18446744073709551616 - 9223372036854775808))) : NdGood Tryz.prog Tryz.f7 8 Tryz.H0 W Zw.p0 Zw.d53 [(.int .i64 x0), (.int .i64 n1), (.int .i64 x2)] := by
  have ⟨gl0, gh0⟩ := g0x
  have ⟨gl2, gh2⟩ := g2x
  have ⟨rl0, rh0⟩ := r0
  have ⟨rl1, rh1⟩ := r1
  obtain ⟨d1, e1, g1, o1⟩ := ex_add (90 : Int) x0
  obtain ⟨d2, e2, g2, o2⟩ := ex_add x2 n1
  obtain ⟨d3, e3, g3, o3⟩ := ex_mul n1 (53 : Int)
  exact Zw.nx Zw.t53 [(.int .i64 d1), (.int .i64 d2), (.int .i64 d3)] [] [(.int .i64 x0), (.int .i64 n1), (.int .i64 d2)] (Zw.k0 _) ⟨hold_op (.int _ _) (.atom _ _ rfl) o1 (.atom _ _ rfl), hold_bool (.int _ _) (.atom _ _ rfl) (op_lss_t (by first | omega | assumption)), hold_op (.atom _ _ rfl) (.atom _ _ rfl) o2 (.atom _ _ rfl), hold_op (.atom _ _ rfl) (.int _ _) o3 (.atom _ _ rfl), hold_bool (.atom _ _ rfl) (.atom _ _ rfl) (op_neq_f (by first | omega | assumption)), trivial⟩ Zw.i53 rfl rfl rowsHold_nil Zw.r53 rfl rfl (Zw.n54 r0 r1 x0 d2 (by first | assumption | (constructor <;> omega) | trivial) (by first | assumption | (constructor <;> omega) | trivial) (by first | omega | assumption | (intro hh; omega)) (by first | omega | assumption | (intro hh; omega)))
theorem Zw.n52 {W : World} {n0 : Int} {n1 : Int} (r0 : R64 n0) (r1 : R64 n1) (x0 : Int) (x2 : Int) (g0x : R64 x0) (g2x : R64 x2) (j0 : (0 ≤ x0 ∧ x0 < 12)) (j1 : (((51 : Int) ≤ 100 → x2 = (n1 * (51 : Int) + 9223372036854775808) % 18446744073709551616 - 9223372036854775808))) : NdGood Tryz.prog Tryz.f7 8 Tryz.H0 W Zw.p0 Zw.d52 [(.int .i64 x0), (.int .i64 n1), (.int .i64 x2)] := by
  have ⟨gl0, gh0⟩ := g0x
  have ⟨gl2, gh2⟩ := g2x
  have ⟨rl0, rh0⟩ := r0
  have ⟨rl1, rh1⟩ := r1
  obtain ⟨d1, e1, g1, o1⟩ := ex_add (90 : Int) x0
  obtain ⟨d2, e2, g2, o2⟩ := ex_add x2 n1
  obtain ⟨d3, e3, g3, o3⟩ := ex_mul n1 (52 : Int)
  exact Zw.nx Zw.t52 [(.int .i64 d1), (.int .i64 d2), (.int .i64 d3)] [] [(.int .i64 x0), (.int .i64 n1), (.int .i64 d2)] (Zw.k0 _) ⟨hold_op (.int _ _) (.atom _ _ rfl) o1 (.atom _ _ rfl), hold_bool (.int _ _) (.atom _ _ rfl) (op_lss_t (by first | omega | assumption)), hold_op (.atom _ _ rfl) (.atom _ _ rfl) o2 (.atom _ _ rfl), hold_op (.atom _ _ rfl) (.int _ _) o3 (.atom _ _ rfl), hold_bool (.atom _ _ rfl) (.atom _ _ rfl) (op_neq_f (by first | omega | assumption)), trivial⟩ Zw.i52 rfl rfl rowsHold_nil Zw.r52 rfl rfl (Zw.n53 r0 r1 x0 d2 (by first | assumption | (constructor <;> omega) | trivial) (by first | assumption | (constructor <;> omega) | trivial) (by first | omega | assumption | (intro hh; omega)) (by first | omega | assumption | (intro hh; omega)))
theorem Zw.n51 {W : World} {n0 : Int} {n1 : Int} (r0 : R64 n0) (r1 : R64 n1) (x0 : Int) (x2 : Int) (g0x : R64 x0) (g2x : R64 x2) (j0 : (0 ≤ x0 ∧ x0 < 12)) (j1 : (((50 : Int) ≤ 100 → x2 = (n1 * (50 : Int) + 9223372036854775808) % 18446744073709551616 - 9223372036854775808))) : NdGood Tryz.prog Tryz.f7 8 Tryz.H0 W Zw.p0 Zw.d51 [(.int .i64 x0), (.int .i64 n1), (.int .i64 x2)] := by
  have ⟨gl0, gh0⟩ := g0x
  have ⟨gl2, gh2⟩ := g2x
  have ⟨rl0, rh0⟩ := r0
  have ⟨rl1, rh1⟩ := r1
  obtain ⟨d1, e1, g1, o1⟩ := ex_add (90 : Int) x0
  obtain ⟨d2, e2, g2, o2⟩ := ex_add x2 n1
  obtain ⟨d3, e3, g3, o3⟩ := ex_mul n1 (51 : Int)
  exact Zw.nx Zw.t51 [(.int .i64 d1), (.int .i64 d2), (.int .i64 d3)] [] [(.int .i64 x0), (.int .i64 n1), (.int .i64 d2)] (Zw.k0 _) ⟨hold_op (.int _ _) (.atom _ _ rfl) o1 (.atom _ _ rfl), hold_bool (.int _ _) (.atom _ _ rfl) (op_lss_t (by first | omega | assumption)), hold_op (.atom _ _ rfl) (.atom _ _ rfl) o2 (.atom _ _ rfl), hold_op (.atom _ _ rfl) (.int _ _) o3 (.atom _ _ rfl), hold_bool (.atom _ _ rfl) (.atom _ _ rfl) (op_neq_f (by first | omega | assumption)), trivial⟩ Zw.i51 rfl rfl rowsHold_nil Zw.r51 rfl rfl (Zw.n52 r0 r1 x0 d2 (by first | assumption | (constructor <;> omega) | trivial) (by first | assumption | (constructor <;> omega) | trivial) (by first | omega | assumption | (intro hh; omega)) (by first | omega | assumption | (intro hh; omega)))
theorem Zw.n50 {W : World} {n0 : Int} {n1 : Int} (r0 : R64 n0) (r1 : R64 n1) (x0 : Int) (x2 : Int) (g0x : R64 x0) (g2x : R64 x2) (j0 : (0 ≤ x0 ∧ x0 < 12)) (j1 : (((49 : Int) ≤ 100 → x2 = (n1 * (49 : Int) + 9223372036854775808) % 18446744073709551616 - 9223372036854775808))) : NdGood Tryz.prog Tryz.f7 8 Tryz.H0 W Zw.p0 Zw.d50 [(.int .i64 x0), (.int .i64 n1), (.int .i64 x2)] := by
  have ⟨gl0, gh0⟩ := g0x
  have ⟨gl2, gh2⟩ := g2x
  have ⟨rl0, rh0⟩ := r0
  have ⟨rl1, rh1⟩ := r1
  obtain ⟨d1, e1, g1, o1⟩ := ex_add (90 : Int) x0
  obtain ⟨d2, e2, g2, o2⟩ := ex_add x2 n1
  obtain ⟨d3, e3, g3, o3⟩ := ex_mul n1 (50 : Int)
  exact Zw.nx Zw.t50 [(.int .i64 d1), (.int .i64 d2), (.int .i64 d3)] [] [(.int .i64 x0), (.int .i64 n1), (.int .i64 d2)] (Zw.k0 _) ⟨hold_op (.int _ _) (.atom _ _ rfl) o1 (.atom _ _ rfl), hold_bool (.int _ _) (.atom _ _ rfl) (op_lss_t (by first | omega | assumption)), hold_op (.atom _ _ rfl) (.atom _ _ rfl) o2 (.atom _ _ rfl), hold_op (.atom _ _ rfl) (.int _ _) o3 (.atom _ _ rfl), hold_bool (.atom _ _ rfl) (.atom _ _ rfl) (op_neq_f (by first | omega | assumption)), trivial⟩ Zw.i50 rfl rfl rowsHold_nil Zw.r50 rfl rfl (Zw.n51 r0 r1 x0 d2 (by first | assumption | (constructor <;> omega) | trivial) (by first | assumption | (constructor <;> omega) | trivial) (by first | omega | assumption | (intro hh; omega)) (by first | omega | assumption | (intro hh; omega)))
theorem Zw.n49 {W : World} {n0 : Int} {n1 : Int} (r0 : R64 n0) (r1 : R64 n1) (x0 : Int) (x2 : Int) (g0x : R64 x0) (g2x : R64 x2) (j0 : (0 ≤ x0 ∧ x0 < 12)) (j1 : (((48 : Int) ≤ 100 → x2 = (n1 * (48 : Int) + 9223372036854775808) % 18446744073709551616 - 9223372036854775808))) : NdGood Tryz.prog Tryz.f7 8 Tryz.H0 W Zw.p0 Zw.d49 [(.int .i64 x0), (.int .i64 n1), (.int .i64 x2)] := by
  have ⟨gl0, gh0⟩ := g0x
  have ⟨gl2, gh2⟩ := g2x
  have ⟨rl0, rh0⟩ := r0
  have ⟨rl1, rh1⟩ := r1
  obtain ⟨d1, e1, g1, o1⟩ := ex_add (90 : Int) x0
  obtain ⟨d2, e2, g2, o2⟩ := ex_add x2 n1
  obtain ⟨d3, e3, g3, o3⟩ := ex_mul n1 (49 : Int)
  exact Zw.nx Zw.t49 [(.int .i64 d1), (.int .i64 d2), (.int .i64 d3)] [] [(.int .i64 x0), (.int .i64 n1), (.int .i64 d2)] (Zw.k0 _) ⟨hold_op (.int _ _) (.atom _ _ rfl) o1 (.atom _ _ rfl), hold_bool (.int _ _) (.atom _ _ rfl) (op_lss_t (by first | omega | assumption)), hold_op (.atom _ _ rfl) (.atom _ _ rfl) o2 (.atom _ _ rfl), hold_op (.atom _ _ rfl) (.int _ _) o3 (.atom _ _ rfl), hold_bool (.atom _ _ rfl) (.atom _ _ rfl) (op_neq_f (by first | omega | assumption)), trivial⟩ Zw.i49 rfl rfl rowsHold_nil Zw.r49 rfl rfl (Zw.n50 r0 r1 x0 d2 (by first | assumption | (constructor <;> omega) | trivial) (by first | assumption | (constructor <;> omega) | trivial) (by first | omega | assumption | (intro hh; omega)) (by first | omega | assumption | (intro hh; omega)))
theorem Zw.n48 {W : World} {n0 : Int} {n1 : Int} (r0 : R64 n0) (r1 : R64 n1) (x0 : Int) (x2 : Int) (g0x : R64 x0) (g2x : R64 x2) (j0 : (0 ≤ x0 ∧ x0 < 12)) (j1 : (((47 : Int) ≤ 100 → x2 = (n1 * (47 : Int) + 9223372036854775808) % 18446744073709551616 - 9223372036854775808))) : NdGood Tryz.prog Tryz.f7 8 Tryz.H0 W Zw.p0 Zw.d48 [(.int .i64 x0), (.int .i64 n1), (.int .i64 x2)] := by
  have ⟨gl0, gh0⟩ := g0x
  have ⟨gl2, gh2⟩ := g2x
  have ⟨rl0, rh0⟩ := r0
  have ⟨rl1, rh1⟩ := r1
  obtain ⟨d1, e1, g1, o1⟩ := ex_add (90 : Int) x0
  obtain ⟨d2, e2, g2, o2⟩ := ex_add x2 n1
  obtain ⟨d3, e3, g3, o3⟩ := ex_mul n1 (48 : Int)
  exact Zw.nx Zw.t48 [(.int .i64 d1), (.int .i64 d2), (.int .i64 d3)] [] [(.int .i64 x0), (.int .i64 n1), (.int .i64 d2)] (Zw.k0 _) ⟨hold_op (.int _ _) (.atom _ _ rfl) o1 (.atom _ _ rfl), hold_bool (.int _ _) (.atom _ _ rfl) (op_lss_t (by first | omega | assumption)), hold_op (.atom _ _ rfl) (.atom _ _ rfl) o2 (.atom _ _ rfl), hold_op (.atom _ _ rfl) (.int _ _) o3 (.atom _ _ rfl), hold_bool (.atom _ _ rfl) (.atom _ _ rfl) (op_neq_f (by first | omega | assumption)), trivial⟩ Zw.i48 rfl rfl rowsHold_nil Zw.r48 rfl rfl (Zw.n49 r0 r1 x0 d2 (by first | assumption | (constructor <;> omega) | trivial) (by first | assumption | (constructor <;> omega) | trivial) (by first | omega | assumption | (intro hh; omega)) (by first | omega | assumption | (intro hh; omega)))
theorem Zw.n47 {W : World} {n0 : Int} {n1 : Int} (r0 : R64 n0) (r1 : R64 n1) (x0 : Int) (x2 : Int) (g0x : R64 x0) (g2x : R64 x2) (j0 : (0 ≤ x0 ∧ x0 < 12)) (j1 : (((46 : Int) ≤ 100 → x2 = (n1 * (46 : Int) + 9223372036854775808) % 18446744073709551616 - 9223372036854775808))) : NdGood Tryz.prog Tryz.f7 8 Tryz.H0 W Zw.p0 Zw.d47 [(.int .i64 x0), (.int .i64 n1), (.int .i64 x2)] := by
  have ⟨gl0, gh0⟩ := g0x
  have ⟨gl2, gh2⟩ := g2x
  have ⟨rl0, rh0⟩ := r0
  have ⟨rl1, rh1⟩ := r1
  obtain ⟨d1, e1, g1, o1⟩ := ex_add (90 : Int) x0
  obtain ⟨d2, e2, g2, o2⟩ := ex_add x2 n1
  obtain ⟨d3, e3, g3, o3⟩ := ex_mul n1 (47 : Int)
  exact Zw.nx Zw.t47 [(.int .i64 d1), (.int .i64 d2), (.int .i64 d3)] [] [(.int .i64 x0), (.int .i64 n1), (.int .i64 d2)] (Zw.k0 _) ⟨hold_op (.int _ _) (.atom _ _ rfl) o1 (.atom _ _ rfl), hold_bool (.int _ _) (.atom _ _ rfl) (op_lss_t (by first | omega | assumption)), hold_op (.atom _ _ rfl) (.atom _ _ rfl) o2 (.atom _ _ rfl), hold_op (.atom _ _ rfl) (.int _ _) o3 (.atom _ _ rfl), hold_bool (.atom _ _ rfl) (.atom _ _ rfl) (op_neq_f (by first | omega | assumption)), trivial⟩ Zw.i47 rfl rfl rowsHold_nil Zw.r47 rfl rfl (Zw.n48 r0 r1 x0 d2 (by first | assumption | (constructor <;> omega) | trivial) (by first | assumption | (constructor <;> omega) | trivial) (by first | omega | assumption | (intro hh; omega)) (by first | omega | assumption | (intro hh; omega)))
theorem Zw.n46 {W : World} {n0 : Int} {n1 : Int} (r0 : R64 n0) (r1 : R64 n1) (x0 : Int) (x2 : Int) (g0x : R64 x0) (g2x : R64 x2) (j0 : (0 ≤ x0 ∧ x0 < 12)) (j1 : (((45 : Int) ≤ 100 → x2 = (n1 * (45 : Int) + 9223372036854775808) % 18446744073709551616 - 9223372036854775808))) : NdGood Tryz.prog Tryz.f7 8 Tryz.H0 W Zw.p0 Zw.d46 [(.int .i64 x0), (.int .i64 n1), (.int .i64 x2)] := by
  have ⟨gl0, gh0⟩ := g0x
  have ⟨gl2, gh2⟩ := g2x
  have ⟨rl0, rh0⟩ := r0
  have ⟨rl1, rh1⟩ := r1
  obtain ⟨d1, e1, g1, o1⟩ := ex_add (90 : Int) x0
  obtain ⟨d2, e2, g2, o2⟩ := ex_add x2 n1
  obtain ⟨d3, e3, g3, o3⟩ := ex_mul n1 (46 : Int)
  exact Zw.nx Zw.t46 [(.int .i64 d1), (.int .i64 d2), (.int .i64 d3)] [] [(.int .i64 x0), (.int .i64 n1), (.int .i64 d2)] (Zw.k0 _) ⟨hold_op (.int _ _) (.atom _ _ rfl) o1 (.atom _ _ rfl), hold_bool (.int _ _) (.atom _ _ rfl) (op_lss_t (by first | omega | assumption)), hold_op (.atom _ _ rfl) (.atom _ _ rfl) o2 (.atom _ _ rfl), hold_op (.atom _ _ rfl) (.int _ _) o3 (.atom _ _ rfl), hold_bool (.atom _ _ rfl) (.atom _ _ rfl) (op_neq_f (by first | omega | assumption)), trivial⟩ Zw.i46 rfl rfl rowsHold_nil Zw.r46 rfl rfl (Zw.n47 r0 r1 x0 d2 (by first | assumption | (constructor <;> omega) | trivial) (by first | assumption | (constructor <;> omega) | trivial) (by first | omega | assumption | (intro hh; omega)) (by first | omega | assumption | (intro hh; omega)))
theorem Zw.n45 {W : World} {n0 : Int} {n1 : Int} (r0 : R64 n0) (r1 : R64 n1) (x0 : Int) (x2 : Int) (g0x : R64 x0) (g2x : R64 x2) (j0 : (0 ≤ x0 ∧ x0 < 12)) (j1 : (((44 : Int) ≤ 100 → x2 = (n1 * (44 : Int) + 9223372036854775808) % 18446744073709551616 - 9223372036854775808))) : NdGood Tryz.prog Tryz.f7 8 Tryz.H0 W Zw.p0 Zw.d45 [(.int .i64 x0), (.int .i64 n1), (.int .i64 x2)] := by
  have ⟨gl0, gh0⟩ := g0x
  have ⟨gl2, gh2⟩ := g2x
  have ⟨rl0, rh0⟩ := r0
  have ⟨rl1, rh1⟩ := r1
  obtain ⟨d1, e1, g1, o1⟩ := ex_add (90 : Int) x0
  obtain ⟨d2, e2, g2, o2⟩ := ex_add x2 n1
  obtain ⟨d3, e3, g3, o3⟩ := ex_mul n1 (45 : Int)
  exact Zw.nx Zw.t45 [(.int .i64 d1), (.int .i64 d2), (.int .i64 d3)] [] [(.int .i64 x0), (.int .i64 n1), (.int .i64 d2)] (Zw.k0 _) ⟨hold_op (.int _ _) (.atom _ _ rfl) o1 (.atom _ _ rfl), hold_bool (.int _ _) (.atom _ _ rfl) (op_lss_t (by first | omega | assumption)), hold_op (.atom _ _ rfl) (.atom _ _ rfl) o2 (.atom _ _ rfl), hold_op (.atom _ _ rfl) (.int _ _) o3 (.atom _ _ rfl), hold_bool (.atom _ _ rfl) (.atom _ _ rfl) (op_neq_f (by first | omega | assumption)), trivial⟩ Zw.i45 rfl rfl rowsHold_nil Zw.r45 rfl rfl (Zw.n46 r0 r1 x0 d2 (by first | assumption | (constructor <;> omega) | trivial) (by first | assumption | (constructor <;> omega) | trivial) (by first | omega | assumption | (intro hh; omega)) (by first | omega | assumption | (intro hh; omega)))
theorem Zw.n44 {W : World} {n0 : Int} {n1 : Int} (r0 : R64 n0) (r1 : R64 n1) (x0 : Int) (x2 : Int) (g0x : R64 x0) (g2x : R64 x2) (j0 : (0 ≤ x0 ∧ x0 < 12)) (j1 : (((43 : Int) ≤ 100 → x2 = (n1 * (43 : Int) + 9223372036854775808) % 18446744073709551616 - 9223372036854775808))) : NdGood Tryz.prog Tryz.f7 8 Tryz.H0 W Zw.p0 Zw.d44 [(.int .i64 x0), (.int .i64 n1), (.int .i64 x2)] := by
  have ⟨gl0, gh0⟩ := g0x
  have ⟨gl2, gh2⟩ := g2x
  have ⟨rl0, rh0⟩ := r0
  have ⟨rl1, rh1⟩ := r1
  obtain ⟨d1, e1, g1, o1⟩ := ex_add (90 : Int) x0
  obtain ⟨d2, e2, g2, o2⟩ := ex_add x2 n1
  obtain ⟨d3, e3, g3, o3⟩ := ex_mul n1 (44 : Int)
  exact Zw.nx Zw.t44 [(.int .i64 d1), (.int .i64 d2), (.int .i64 d3)] [] [(.int .i64 x0), (.int .i64 n1), (.int .i64 d2)] (Zw.k0 _) ⟨hold_op (.int _ _) (.atom _ _ rfl) o1 (.atom _ _ rfl), hold_bool (.int _ _) (.atom _ _ rfl) (op_lss_t (by first | omega | assumption)), hold_op (.atom _ _ rfl) (.atom _ _ rfl) o2 (.atom _ _ rfl), hold_op (.atom _ _ rfl) (.int _ _) o3 (.atom _ _ rfl), hold_bool (.atom _ _ rfl) (.atom _ _ rfl) (op_neq_f (by first | omega | assumption)), trivial⟩ Zw.i44 rfl rfl rowsHold_nil Zw.r44 rfl rfl (Zw.n45 r0 r1 x0 d2 (by first | assumption | (constructor <;> omega) | trivial) (by first | assumption | (constructor <;> omega) | trivial) (by first | omega | assumption | (intro hh; omega)) (by first | omega | assumption | (intro hh; omega)))
theorem Zw.n43 {W : World} {n0 : Int} {n1 : Int} (r0 : R64 n0) (r1 : R64 n1) (x0 : Int) (x2 : Int) (g0x : R64 x0) (g2x : R64 x2) (j0 : (0 ≤ x0 ∧ x0 < 12)) (j1 : (((42 : Int) ≤ 100 → x2 = (n1 * (42 : Int) + 9223372036854775808) % 18446744073709551616 - 9223372036854775808))) : NdGood Tryz.prog Tryz.f7 8 Tryz.H0 W Zw.p0 Zw.d43 [(.int .i64 x0), (.int .i64 n1), (.int .i64 x2)] := by
  have ⟨gl0, gh0⟩ := g0x
  have ⟨gl2, gh2⟩ := g2x
  have ⟨rl0, rh0⟩ := r0
  have ⟨rl1, rh1⟩ := r1
  obtain ⟨d1, e1, g1, o1⟩ := ex_add (90 : Int) x0
  obtain ⟨d2, e2, g2, o2⟩ := ex_add x2 n1
  obtain ⟨d3, e3, g3, o3⟩ := ex_mul n1 (43 : Int)
  exact Zw.nx Zw.t43 [(.int .i64 d1), (.int .i64 d2), (.int .i64 d3)] [] [(.int .i64 x0), (.int .i64 n1), (.int .i64 d2)] (Zw.k0 _) ⟨hold_op (.int _ _) (.atom _ _ rfl) o1 (.atom _ _ rfl), hold_bool (.int _ _) (.atom _ _ rfl) (op_lss_t (by first | omega | assumption)), hold_op (.atom _ _ rfl) (.atom _ _ rfl) o2 (.atom _ _ rfl), hold_op (.atom _ _ rfl) (.int _ _) o3 (.atom _ _ rfl), hold_bool (.atom _ _ rfl) (.atom _ _ rfl) (op_neq_f (by first | omega | assumption)), trivial⟩ Zw.i43 rfl rfl rowsHold_nil Zw.r43 rfl rfl (Zw.n44 r0 r1 x0 d2 (by first | assumption | (constructor <;> omega) | trivial) (by first | assumption | (constructor <;> omega) | trivial) (by first | omega | assumption | (intro hh; omega)) (by first | omega | assumption | (intro hh; omega)))
theorem Zw.n42 {W : World} {n0 : Int} {n1 : Int} (r0 : R64 n0) (r1 : R64 n1) (x0 : Int) (x2 : Int) (g0x : R64 x0) (g2x : R64 x2) (j0 : (0 ≤ x0 ∧ x0 < 12)) (j1 : (((41 : Int) ≤ 100 → x2 = (n1 * (41 : Int) + 9223372036854775808) % 18446744073709551616 - 9223372036854775808))) : NdGood Tryz.prog Tryz.f7 8 Tryz.H0 W Zw.p0 Zw.d42 [(.int .i64 x0), (.int .i64 n1), (.int .i64 x2)] := by
  have ⟨gl0, gh0⟩ := g0x
  have ⟨gl2, gh2⟩ := g2x
  have ⟨rl0, rh0⟩ := r0
  have ⟨rl1, rh1⟩ := r1
  obtain ⟨d1, e1, g1, o1⟩ := ex_add (90 : Int) x0
  obtain ⟨d2, e2, g2, o2⟩ := ex_add x2 n1
  obtain ⟨d3, e3, g3, o3⟩ := ex_mul n1 (42 : Int)
  exact Zw.nx Zw.t42 [(.int .i64 d1), (.int .i64 d2), (.int .i64 d3)] [] [(.int .i64 x0), (.int .i64 n1), (.int .i64 d2)] (Zw.k0 _) ⟨hold_op (.int _ _) (.atom _ _ rfl) o1 (.atom _ _ rfl), hold_bool (.int _ _) (.atom _ _ rfl) (op_lss_t (by first | omega | assumption)), hold_op (.atom _ _ rfl) (.atom _ _ rfl) o2 (.atom _ _ rfl), hold_op (.atom _ _ rfl) (.int _ _) o3 (.atom _ _ rfl), hold_bool (.atom _ _ rfl) (.atom _ _ rfl) (op_neq_f (by first | omega | assumption)), trivial⟩ Zw.i42 rfl rfl rowsHold_nil Zw.r42 rfl rfl (Zw.n43 r0 r1 x0 d2 (by first | assumption | (constructor <;> omega) | trivial) (by first | assumption | (constructor <;> omega) | trivial) (by first | omega | assumption | (intro hh; omega)) (by first | omega | assumption | (intro hh; omega)))
theorem Zw.n41 {W : World} {n0 : Int} {n1 : Int} (r0 : R64 n0) (r1 : R64 n1) (x0 : Int) (x2 : Int) (g0x : R64 x0) (g2x : R64 x2) (j0 : (0 ≤ x0 ∧ x0 < 12)) (j1 : (((40 : Int) ≤ 100 → x2 = (n1 * (40 : Int) + 9223372036854775808) % 18446744073709551616 - 9223372036854775808))) : NdGood Tryz.prog Tryz.f7 8 Tryz.H0 W Zw.p0 Zw.d41 [(.int .i64 x0), (.int .i64 n1), (.int .i64 x2)] := by
  have ⟨gl0, gh0⟩ := g0x
  have ⟨gl2, gh2⟩ := g2x
  have ⟨rl0, rh0⟩ := r0
  have ⟨rl1, rh1⟩ := r1
  obtain ⟨d1, e1, g1, o1⟩ := ex_add (90 : Int) x0
  obtain ⟨d2, e2, g2, o2⟩ := ex_add x2 n1
  obtain ⟨d3, e3, g3, o3⟩ := ex_mul n1 (41 : Int)
  exact Zw.nx Zw.t41 [(.int .i64 d1), (.int .i64 d2), (.int .i64 d3)] [] [(.int .i64 x0), (.int .i64 n1), (.int .i64 d2)] (Zw.k0 _) ⟨hold_op (.int _ _) (.atom _ _ rfl) o1 (.atom _ _ rfl), hold_bool (.int _ _) (.atom _ _ rfl) (op_lss_t (by first | omega | assumption)), hold_op (.atom _ _ rfl) (.atom _ _ rfl) o2 (.atom _ _ rfl), hold_op (.atom _ _ rfl) (.int _ _) o3 (.atom _ _ rfl), hold_bool (.atom _ _ rfl) (.atom _ _ rfl) (op_neq_f (by first | omega | assumption)), trivial⟩ Zw.i41 rfl rfl rowsHold_nil Zw.r41 rfl rfl (Zw.n42 r0 r1 x0 d2 (by first | assumption | (constructor <;> omega) | trivial) (by first | assumption | (constructor <;> omega) | trivial) (by first | omega | assumption | (intro hh; omega)) (by first | omega | assumption | (intro hh; omega)))
theorem Zw.n40 {W : World} {n0 : Int} {n1 : Int} (r0 : R64 n0) (r1 : R64 n1) (x0 : Int) (x2 : Int) (g0x : R64 x0) (g2x : R64 x2) (j0 : (0 ≤ x0 ∧ x0 < 12)) (j1 : (((39 : Int) ≤ 100 → x2 = (n1 * (39 : Int) + 9223372036854775808) % 18446744073709551616 - 9223372036854775808))) : NdGood Tryz.prog Tryz.f7 8 Tryz.H0 W Zw.p0 Zw.d40 [(.int .i64 x0), (.int .i64 n1), (.int .i64 x2)] := by
  have ⟨gl0, gh0⟩ := g0x
  have ⟨gl2, gh2⟩ := g2x
  have ⟨rl0, rh0⟩ := r0
  have ⟨rl1, rh1⟩ := r1
  obtain ⟨d1, e1, g1, o1⟩ := ex_add (90 : Int) x0
  obtain ⟨d2, e2, g2, o2⟩ := ex_add x2 n1
  obtain ⟨d3, e3, g3, o3⟩ := ex_mul n1 (40 : Int)
  exact Zw.nx Zw.t40 [(.int .i64 d1), (.int .i64 d2), (.int .i64 d3)] [] [(.int .i64 x0), (.int .i64 n1), (.int .i64 d2)] (Zw.k0 _) ⟨hold_op (.int _ _) (.atom _ _ rfl) o1 (.atom _ _ rfl), hold_bool (.int _ _) (.atom _ _ rfl) (op_lss_t (by first | omega | assumption)), hold_op (.atom _ _ rfl) (.atom _ _ rfl) o2 (.atom _ _ rfl), hold_op (.atom _ _ rfl) (.int _ _) o3 (.atom _ _ rfl), hold_bool (.atom _ _ rfl) (.atom _ _ rfl) (op_neq_f (by first | omega | assumption)), trivial⟩ Zw.i40 rfl rfl rowsHold_nil Zw.r40 rfl rfl (Zw.n41 r0 r1 x0 d2 (by first | assumption | (constructor <;> omega) | trivial) (by first | assumption | (constructor <;> omega) | trivial) (by first | omega | assumption | (intro hh; omega)) (by first | omega | assumption | (intro hh; omega)))
theorem Zw.n39 {W : World} {n0 : Int} {n1 : Int} (r0 : R64 n0) (r1 : R64 n1) (x0 : Int) (x2 : Int) (g0x : R64 x0) (g2x : R64 x2) (j0 : (0 ≤ x0 ∧ x0 < 12)) (j1 : (((38 : Int) ≤ 100 → x2 = (n1 * (38 : Int) + 9223372036854775808) % 18446744073709551616 - 9223372036854775808))) : NdGood Tryz.prog Tryz.f7 8 Tryz.H0 W Zw.p0 Zw.d39 [(.int .i64 x0), (.int .i64 n1), (.int .i64 x2)] := by
  have ⟨gl0, gh0⟩ := g0x
  have ⟨gl2, gh2⟩ := g2x
  have ⟨rl0, rh0⟩ := r0
  have ⟨rl1, rh1⟩ := r1
  obtain ⟨d1, e1, g1, o1⟩ := ex_add (90 : Int) x0
  obtain ⟨d2, e2, g2, o2⟩ := ex_add x2 n1
  obtain ⟨d3, e3, g3, o3⟩ := ex_mul n1 (39 : Int)
  exact Zw.nx Zw.t39 [(.int .i64 d1), (.int .i64 d2), (.int .i64 d3)] [] [(.int .i64 x0), (.int .i64 n1), (.int .i64 d2)] (Zw.k0 _) ⟨hold_op (.int _ _) (.atom _ _ rfl) o1 (.atom _ _ rfl), hold_bool (.int _ _) (.atom _ _ rfl) (op_lss_t (by first | omega | assumption)), hold_op (.atom _ _ rfl) (.atom _ _ rfl) o2 (.atom _ _ rfl), hold_op (.atom _ _ rfl) (.int _ _) o3 (.atom _ _ rfl), hold_bool (.atom _ _ rfl) (.atom _ _ rfl) (op_neq_f (by first | omega | assumption)), trivial⟩ Zw.i39 rfl rfl rowsHold_nil Zw.r39 rfl rfl (Zw.n40 r0 r1 x0 d2 (by first | assumption | (constructor <;> omega) | trivial) (by first | assumption | (constructor <;> omega) | trivial) (by first | omega | assumption | (intro hh; omega)) (by first | omega | assumption | (intro hh; omega)))
theorem Zw.n38 {W : World} {n0 : Int} {n1 : Int} (r0 : R64 n0) (r1 : R64 n1) (x0 : Int) (x2 : Int) (g0x : R64 x0) (g2x : R64 x2) (j0 : (0 ≤ x0 ∧ x0 < 12)) (j1 : (((37 : Int) ≤ 100 → x2 = (n1 * (37 : Int) + 9223372036854775808) % 18446744073709551616 - 9223372036854775808))) : NdGood Tryz.prog Tryz.f7 8 Tryz.H0 W Zw.p0 Zw.d38 [(.int .i64 x0), (.int .i64 n1), (.int .i64 x2)] := by
  have ⟨gl0, gh0⟩ := g0x
  have ⟨gl2, gh2⟩ := g2x
  have ⟨rl0, rh0⟩ := r0
  have ⟨rl1, rh1⟩ := r1
  obtain ⟨d1, e1, g1, o1⟩ := ex_add (90 : Int) x0
  obtain ⟨d2, e2, g2, o2⟩ := ex_add x2 n1
  obtain ⟨d3, e3, g3, o3⟩ := ex_mul n1 (38 : Int)
  exact Zw.nx Zw.t38 [(.int .i64 d1), (.int .i64 d2), (.int .i64 d3)] [] [(.int .i64 x0), (.int .i64 n1), (.int .i64 d2)] (Zw.k0 _) ⟨hold_op (.int _ _) (.atom _ _ rfl) o1 (.atom _ _ rfl), hold_bool (.int _ _) (.atom _ _ rfl) (op_lss_t (by first | omega | assumption)), hold_op (.atom _ _ rfl) (.atom _ _ rfl) o2 (.atom _ _ rfl), hold_op (.atom _ _ rfl) (.int _ _) o3 (.atom _ _ rfl), hold_bool (.atom _ _ rfl) (.atom _ _ rfl) (op_neq_f (by first | omega | assumption)), trivial⟩ Zw.i38 rfl rfl rowsHold_nil Zw.r38 rfl rfl (Zw.n39 r0 r1 x0 d2 (by first | assumption | (constructor <;> omega) | trivial) (by first | assumption | (constructor <;> omega) | trivial) (by first | omega | assumption | (intro hh; omega)) (by first | omega | assumption | (intro hh; omega)))
theorem Zw.n37 {W : World} {n0 : Int} {n1 : Int} (r0 : R64 n0) (r1 : R64 n1) (x0 : Int) (x2 : Int) (g0x : R64 x0) (g2x : R64 x2) (j0 : (0 ≤ x0 ∧ x0 < 12)) (j1 : (((36 : Int) ≤ 100 → x2 = (n1 * (36 : Int) + 9223372036854775808) % 18446744073709551616 - 9223372036854775808))) : NdGood Tryz.prog Tryz.f7 8 Tryz.H0 W Zw.p0 Zw.d37 [(.int .i64 x0), (.int .i64 n1), (.int .i64 x2)] := by
  have ⟨gl0, gh0⟩ := g0x
  have ⟨gl2, gh2⟩ := g2x
  have ⟨rl0, rh0⟩ := r0
  have ⟨rl1, rh1⟩ := r1
  obtain ⟨d1, e1, g1, o1⟩ := ex_add (90 : Int) x0
  obtain ⟨d2, e2, g2, o2⟩ := ex_add x2 n1
  obtain ⟨d3, e3, g3, o3⟩ := ex_mul n1 (37 : Int)
  exact Zw.nx Zw.t37 [(.int .i64 d1), (.int .i64 d2), (.int .i64 d3)] [] [(.int .i64 x0), (.int .i64 n1), (.int .i64 d2)] (Zw.k0 _) ⟨hold_op (.int _ _) (.atom _ _ rfl) o1 (.atom _ _ rfl), hold_bool (.int _ _) (.atom _ _ rfl) (op_lss_t (by first | omega | assumption)), hold_op (.atom _ _ rfl) (.atom _ _ rfl) o2 (.atom _ _ rfl), hold_op (.atom _ _ rfl) (.int _ _) o3 (.atom _ _ rfl), hold_bool (.atom _ _ rfl) (.atom _ _ rfl) (op_neq_f (by first | omega | assumption)), trivial⟩ Zw.i37 rfl rfl rowsHold_nil Zw.r37 rfl rfl (Zw.n38 r0 r1 x0 d2 (by first | assumption | (constructor <;> omega) | trivial) (by first | assumption | (constructor <;> omega) | trivial) (by first | omega | assumption | (intro hh; omega)) (by first | omega | assumption | (intro hh; omega)))
theorem Zw.n36 {W : World} {n0 : Int} {n1 : Int} (r0 : R64 n0) (r1 : R64 n1) (x0 : Int) (x2 : Int) (g0x : R64 x0) (g2x : R64 x2) (j0 : (0 ≤ x0 ∧ x0 < 12)) (j1 : (((35 : Int) ≤ 100 → x2 = (n1 * (35 : Int) + 9223372036854775808) % 18446744073709551616 - 9223372036854775808))) : NdGood Tryz.prog Tryz.f7 8 Tryz.H0 W Zw.p0 Zw.d36 [(.int .i64 x0), (.int .i64 n1), (.int .i64 x2)] := by
  have ⟨gl0, gh0⟩ := g0x
  have ⟨gl2, gh2⟩ := g2x
  have ⟨rl0, rh0⟩ := r0
  have ⟨rl1, rh1⟩ := r1
  obtain ⟨d1, e1, g1, o1⟩ := ex_add (90 : Int) x0
  obtain ⟨d2, e2, g2, o2⟩ := ex_add x2 n1
  obtain ⟨d3, e3, g3, o3⟩ := ex_mul n1 (36 : Int)
  exact Zw.nx Zw.t36 [(.int .i64 d1), (.int .i64 d2), (.int .i64 d3)] [] [(.int .i64 x0), (.int .i64 n1), (.int .i64 d2)] (Zw.k0 _) ⟨hold_op (.int _ _) (.atom _ _ rfl) o1 (.atom _ _ rfl), hold_bool (.int _ _) (.atom _ _ rfl) (op_lss_t (by first | omega | assumption)), hold_op (.atom _ _ rfl) (.atom _ _ rfl) o2 (.atom _ _ rfl), hold_op (.atom _ _ rfl) (.int _ _) o3 (.atom _ _ rfl), hold_bool (.atom _ _ rfl) (.atom _ _ rfl) (op_neq_f (by first | omega | assumption)), trivial⟩ Zw.i36 rfl rfl rowsHold_nil Zw.r36 rfl rfl (Zw.n37 r0 r1 x0 d2 (by first | assumption | (constructor <;> omega) | trivial) (by first | assumption | (constructor <;> omega) | trivial) (by first | omega | assumption | (intro hh; omega)) (by first | omega | assumption | (intro hh; omega)))
theorem Zw.n35 {W : World} {n0 : Int} {n1 : Int} (r0 : R64 n0) (r1 : R64 n1) (x0 : Int) (x2 : Int) (g0x : R64 x0) (g2x : R64 x2) (j0 : (0 ≤ x0 ∧ x0 < 12)) (j1 : (((34 : Int) ≤ 100 → x2 = (n1 * (34 : Int) + 9223372036854775808) % 18446744073709551616 - 9223372036854775808))) : NdGood Tryz.prog Tryz.f7 8 Tryz.H0 W Zw.p0 Zw.d35 [(.int .i64 x0), (.int .i64 n1), (.int .i64 x2)] := by
  have ⟨gl0, gh0⟩ := g0x
  have ⟨gl2, gh2⟩ := g2x
  have ⟨rl0, rh0⟩ := r0
  have ⟨rl1, rh1⟩ := r1
  obtain ⟨d1, e1, g1, o1⟩ := ex_add (90 : Int) x0
  obtain ⟨d2, e2, g2, o2⟩ := ex_add x2 n1
  obtain ⟨d3, e3, g3, o3⟩ := ex_mul n1 (35 : Int)
  exact Zw.nx Zw.t35 [(.int .i64 d1), (.int .i64 d2), (.int .i64 d3)] [] [(.int .i64 x0), (.int .i64 n1), (.int .i64 d2)] (Zw.k0 _) ⟨hold_op (.int _ _) (.atom _ _ rfl) o1 (.atom _ _ rfl), hold_bool (.int _ _) (.atom _ _ rfl) (op_lss_t (by first | omega | assumption)), hold_op (.atom _ _ rfl) (.atom _ _ rfl) o2 (.atom _ _ rfl), hold_op (.atom _ _ rfl) (.int _ _) o3 (.atom _ _ rfl), hold_bool (.atom _ _ rfl) (.atom _ _ rfl) (op_neq_f (by first | omega | assumption)), trivial⟩ Zw.i35 rfl rfl rowsHold_nil Zw.r35 rfl rfl (Zw.n36 r0 r1 x0 d2 (by first | assumption | (constructor <;> omega) | trivial) (by first | assumption | (constructor <;> omega) | trivial) (by first | omega | assumption | (intro hh; omega)) (by first | omega | assumption | (intro hh; omega)))
theorem Zw.n34 {W : World} {n0 : Int} {n1 : Int} (r0 : R64 n0) (r1 : R64 n1) (x0 : Int) (x2 : Int) (g0x : R64 x0) (g2x : R64 x2) (j0 : (0 ≤ x0 ∧ x0 < 12)) (j1 : (((33 : Int) ≤ 100 → x2 = (n1 * (33 : Int) + 9223372036854775808) % 18446744073709551616 - 9223372036854775808))) : NdGood Tryz.prog Tryz.f7 8 Tryz.H0 W Zw.p0 Zw.d34 [(.int .i64 x0), (.int .i64 n1), (.int .i64 x2)] := by
  have ⟨gl0, gh0⟩ := g0x
  have ⟨gl2, gh2⟩ := g2x
  have ⟨rl0, rh0⟩ := r0
  have ⟨rl1, rh1⟩ := r1
  obtain ⟨d1, e1, g1, o1⟩ := ex_add (90 : Int) x0
  obtain ⟨d2, e2, g2, o2⟩ := ex_add x2 n1
  obtain ⟨d3, e3, g3, o3⟩ := ex_mul n1 (34 : Int)
  exact Zw.nx Zw.t34 [(.int .i64 d1), (.int .i64 d2), (.int .i64 d3)] [] [(.int .i64 x0), (.int .i64 n1), (.int .i64 d2)] (Zw.k0 _) ⟨hold_op (.int _ _) (.atom _ _ rfl) o1 (.atom _ _ rfl), hold_bool (.int _ _) (.atom _ _ rfl) (op_lss_t (by first | omega | assumption)), hold_op (.atom _ _ rfl) (.atom _ _ rfl) o2 (.atom _ _ rfl), hold_op (.atom _ _ rfl) (.int _ _) o3 (.atom _ _ rfl), hold_bool (.atom _ _ rfl) (.atom _ _ rfl) (op_neq_f (by first | omega | assumption)), trivial⟩ Zw.i34 rfl rfl rowsHold_nil Zw.r34 rfl rfl (Zw.n35 r0 r1 x0 d2 (by first | assumption | (constructor <;> omega) | trivial) (by first | assumption | (constructor <;> omega) | trivial) (by first | omega | assumption | (intro hh; omega)) (by first | omega | assumption | (intro hh; omega)))
theorem Zw.n33 {W : World} {n0 : Int} {n1 : Int} (r0 : R64 n0) (r1 : R64 n1) (x0 : Int) (x2 : Int) (g0x : R64 x0) (g2x : R64 x2) (j0 : (0 ≤ x0 ∧ x0 < 12)) (j1 : (((32 : Int) ≤ 100 → x2 = (n1 * (32 : Int) + 9223372036854775808) % 18446744073709551616 - 9223372036854775808))) : NdGood Tryz.prog Tryz.f7 8 Tryz.H0 W Zw.p0 Zw.d33 [(.int .i64 x0), (.int .i64 n1), (.int .i64 x2)] := by
  have ⟨gl0, gh0⟩ := g0x
  have ⟨gl2, gh2⟩ := g2x
  have ⟨rl0, rh0⟩ := r0
  have ⟨rl1, rh1⟩ := r1
  obtain ⟨d1, e1, g1, o1⟩ := ex_add (90 : Int) x0
  obtain ⟨d2, e2, g2, o2⟩ := ex_add x2 n1
  obtain ⟨d3, e3, g3, o3⟩ := ex_mul n1 (33 : Int)
  exact Zw.nx Zw.t33 [(.int .i64 d1), (.int .i64 d2), (.int .i64 d3)] [] [(.int .i64 x0), (.int .i64 n1), (.int .i64 d2)] (Zw.k0 _) ⟨hold_op (.int _ _) (.atom _ _ rfl) o1 (.atom _ _ rfl), hold_bool (.int _ _) (.atom _ _ rfl) (op_lss_t (by first | omega | assumption)), hold_op (.atom _ _ rfl) (.atom _ _ rfl) o2 (.atom _ _ rfl), hold_op (.atom _ _ rfl) (.int _ _) o3 (.atom _ _ rfl), hold_bool (.atom _ _ rfl) (.atom _ _ rfl) (op_neq_f (by first | omega | assumption)), trivial⟩ Zw.i33 rfl rfl rowsHold_nil Zw.r33 rfl rfl (Zw.n34 r0 r1 x0 d2 (by first | assumption | (constructor <;> omega) | trivial) (by first | assumption | (constructor <;> omega) | trivial) (by first | omega | assumption | (intro hh; omega)) (by first | omega | assumption | (intro hh; omega)))
theorem Zw.n32 {W : World} {n0 : Int} {n1 : Int} (r0 : R64 n0) (r1 : R64 n1) (x0 : Int) (x2 : Int) (g0x : R64 x0) (g2x : R64 x2) (j0 : (0 ≤ x0 ∧ x0 < 12)) (j1 : (((31 : Int) ≤ 100 → x2 = (n1 * (31 : Int) + 9223372036854775808) % 18446744073709551616 - 9223372036854775808))) : NdGood Tryz.prog Tryz.f7 8 Tryz.H0 W Zw.p0 Zw.d32 [(.int .i64 x0), (.int .i64 n1), (.int .i64 x2)] := by
  have ⟨gl0, gh0⟩ := g0x
  have ⟨gl2, gh2⟩ := g2x
  have ⟨rl0, rh0⟩ := r0
  have ⟨rl1, rh1⟩ := r1
  obtain ⟨d1, e1, g1, o1⟩ := ex_add (90 : Int) x0
  obtain ⟨d2, e2, g2, o2⟩ := ex_add x2 n1
  obtain ⟨d3, e3, g3, o3⟩ := ex_mul n1 (32 : Int)
  exact Zw.nx Zw.t32 [(.int .i64 d1), (.int .i64 d2), (.int .i64 d3)] [] [(.int .i64 x0), (.int .i64 n1), (.int .i64 d2)] (Zw.k0 _) ⟨hold_op (.int _ _) (.atom _ _ rfl) o1 (.atom _ _ rfl), hold_bool (.int _ _) (.atom _ _ rfl) (op_lss_t (by first | omega | assumption)), hold_op (.atom _ _ rfl) (.atom _ _ rfl) o2 (.atom _ _ rfl), hold_op (.atom _ _ rfl) (.int _ _) o3 (.atom _ _ rfl), hold_bool (.atom _ _ rfl) (.atom _ _ rfl) (op_neq_f (by first | omega | assumption)), trivial⟩ Zw.i32 rfl rfl rowsHold_nil Zw.r32 rfl rfl (Zw.n33 r0 r1 x0 d2 (by first | assumption | (constructor <;> omega) | trivial) (by first | assumption | (constructor <;> omega) | trivial) (by first | omega | assumption | (intro hh; omega)) (by first | omega | assumption | (intro hh; omega)))
theorem Zw.n31 {W : World} {n0 : Int} {n1 : Int} (r0 : R64 n0) (r1 : R64 n1) (x0 : Int) (x2 : Int) (g0x : R64 x0) (g2x : R64 x2) (j0 : (0 ≤ x0 ∧ x0 < 12)) (j1 : (((30 : Int) ≤ 100 → x2 = (n1 * (30 : Int) + 9223372036854775808) % 18446744073709551616 - 9223372036854775808))) : NdGood Tryz.prog Tryz.f7 8 Tryz.H0 W Zw.p0 Zw.d31 [(.int .i64 x0), (.int .i64 n1), (.int .i64 x2)] := by
  have ⟨gl0, gh0⟩ := g0x
  have ⟨gl2, gh2⟩ := g2x
  have ⟨rl0, rh0⟩ := r0
  have ⟨rl1, rh1⟩ := r1
  obtain ⟨d1, e1, g1, o1⟩ := ex_add (90 : Int) x0
  obtain ⟨d2, e2, g2, o2⟩ := ex_add x2 n1
  obtain ⟨d3, e3, g3, o3⟩ := ex_mul n1 (31 : Int)
  exact Zw.nx Zw.t31 [(.int .i64 d1), (.int .i64 d2), (.int .i64 d3)] [] [(.int .i64 x0), (.int .i64 n1), (.int .i64 d2)] (Zw.k0 _) ⟨hold_op (.int _ _) (.atom _ _ rfl) o1 (.atom _ _ rfl), hold_bool (.int _ _) (.atom _ _ rfl) (op_lss_t (by first | omega | assumption)), hold_op (.atom _ _ rfl) (.atom _ _ rfl) o2 (.atom _ _ rfl), hold_op (.atom _ _ rfl) (.int _ _) o3 (.atom _ _ rfl), hold_bool (.atom _ _ rfl) (.atom _ _ rfl) (op_neq_f (by first | omega | assumption)), trivial⟩ Zw.i31 rfl rfl rowsHold_nil Zw.r31 rfl rfl (Zw.n32 r0 r1 x0 d2 (by first | assumption | (constructor <;> omega) | trivial) (by first | assumption | (constructor <;> omega) | trivial) (by first | omega | assumption | (intro hh; omega)) (by first | omega | assumption | (intro hh; omega)))
theorem Zw.n30 {W : World} {n0 : Int} {n1 : Int} (r0 : R64 n0) (r1 : R64 n1) (x0 : Int) (x2 : Int) (g0x : R64 x0) (g2x : R64 x2) (j0 : (0 ≤ x0 ∧ x0 < 12)) (j1 : (((29 : Int) ≤ 100 → x2 = (n1 * (29 : Int) + 9223372036854775808) % 18446744073709551616 - 9223372036854775808))) : NdGood Tryz.prog Tryz.f7 8 Tryz.H0 W Zw.p0 Zw.d30 [(.int .i64 x0), (.int .i64 n1), (.int .i64 x2)] := by
  have ⟨gl0, gh0⟩ := g0x
  have ⟨gl2, gh2⟩ := g2x
  have ⟨rl0, rh0⟩ := r0
  have ⟨rl1, rh1⟩ := r1
  obtain ⟨d1, e1, g1, o1⟩ := ex_add (90 : Int) x0
  obtain ⟨d2, e2, g2, o2⟩ := ex_add x2 n1
  obtain ⟨d3, e3, g3, o3⟩ := ex_mul n1 (30 : Int)
  exact Zw.nx Zw.t30 [(.int .i64 d1), (.int .i64 d2), (.int .i64 d3)] [] [(.int .i64 x0), (.int .i64 n1), (.int .i64 d2)] (Zw.k0 _) ⟨hold_op (.int _ _) (.atom _ _ rfl) o1 (.atom _ _ rfl), hold_bool (.int _ _) (.atom _ _ rfl) (op_lss_t (by first | omega | assumption)), hold_op (.atom _ _ rfl) (.atom _ _ rfl) o2 (.atom _ _ rfl), hold_op (.atom _ _ rfl) (.int _ _) o3 (.atom _ _ rfl), hold_bool (.atom _ _ rfl) (.atom _ _ rfl) (op_neq_f (by first | omega | assumption)), trivial⟩ Zw.i30 rfl rfl rowsHold_nil Zw.r30 rfl rfl (Zw.n31 r0 r1 x0 d2 (by first | assumption | (constructor <;> omega) | trivial) (by first | assumption | (constructor <;> omega) | trivial) (by first | omega | assumption | (intro hh; omega)) (by first | omega | assumption | (intro hh; omega)))
theorem Zw.n29 {W : World} {n0 : Int} {n1 : Int} (r0 : R64 n0) (r1 : R64 n1) (x0 : Int) (x2 : Int) (g0x : R64 x0) (g2x : R64 x2) (j0 : (0 ≤ x0 ∧ x0 < 12)) (j1 : (((28 : Int) ≤ 100 → x2 = (n1 * (28 : Int) + 9223372036854775808) % 18446744073709551616 - 9223372036854775808))) : NdGood Tryz.prog Tryz.f7 8 Tryz.H0 W Zw.p0 Zw.d29 [(.int .i64 x0), (.int .i64 n1), (.int .i64 x2)] := by
  have ⟨gl0, gh0⟩ := g0x
  have ⟨gl2, gh2⟩ := g2x
  have ⟨rl0, rh0⟩ := r0
  have ⟨rl1, rh1⟩ := r1
  obtain ⟨d1, e1, g1, o1⟩ := ex_add (90 : Int) x0
  obtain ⟨d2, e2, g2, o2⟩ := ex_add x2 n1
  obtain ⟨d3, e3, g3, o3⟩ := ex_mul n1 (29 : Int)
  exact Zw.nx Zw.t29 [(.int .i64 d1), (.int .i64 d2), (.int .i64 d3)] [] [(.int .i64 x0), (.int .i64 n1), (.int .i64 d2)] (Zw.k0 _) ⟨hold_op (.int _ _) (.atom _ _ rfl) o1 (.atom _ _ rfl), hold_bool (.int _ _) (.atom _ _ rfl) (op_lss_t (by first | omega | assumption)), hold_op (.atom _ _ rfl) (.atom _ _ rfl) o2 (.atom _ _ rfl), hold_op (.atom _ _ rfl) (.int _ _) o3 (.atom _ _ rfl), hold_bool (.atom _ _ rfl) (.atom _ _ rfl) (op_neq_f (by first | omega | assumption)), trivial⟩ Zw.i29 rfl rfl rowsHold_nil Zw.r29 rfl rfl (Zw.n30 r0 r1 x0 d2 (by first | assumption | (constructor <;> omega) | trivial) (by first | assumption | (constructor <;> omega) | trivial) (by first | omega | assumption | (intro hh; omega)) (by first | omega | assumption | (intro hh; omega)))
theorem Zw.n28 {W : World} {n0 : Int} {n1 : Int} (r0 : R64 n0) (r1 : R64 n1) (x0 : Int) (x2 : Int) (g0x : R64 x0) (g2x : R64 x2) (j0 : (0 ≤ x0 ∧ x0 < 12)) (j1 : (((27 : Int) ≤ 100 → x2 = (n1 * (27 : Int) + 9223372036854775808) % 18446744073709551616 - 9223372036854775808))) : NdGood Tryz.prog Tryz.f7 8 Tryz.H0 W Zw.p0 Zw.d28 [(.int .i64 x0), (.int .i64 n1), (.int .i64 x2)] := by
  have ⟨gl0, gh0⟩ := g0x
  have ⟨gl2, gh2⟩ := g2x
  have ⟨rl0, rh0⟩ := r0
  have ⟨rl1, rh1⟩ := r1
  obtain ⟨d1, e1, g1, o1⟩ := ex_add (90 : Int) x0
  obtain ⟨d2, e2, g2, o2⟩ := ex_add x2 n1
  obtain ⟨d3, e3, g3, o3⟩ := ex_mul n1 (28 : Int)
  exact Zw.nx Zw.t28 [(.int .i64 d1), (.int .i64 d2), (.int .i64 d3)] [] [(.int .i64 x0), (.int .i64 n1), (.int .i64 d2)] (Zw.k0 _) ⟨hold_op (.int _ _) (.atom _ _ rfl) o1 (.atom _ _ rfl), hold_bool (.int _ _) (.atom _ _ rfl) (op_lss_t (by first | omega | assumption)), hold_op (.atom _ _ rfl) (.atom _ _ rfl) o2 (.atom _ _ rfl), hold_op (.atom _ _ rfl) (.int _ _) o3 (.atom _ _ rfl), hold_bool (.atom _ _ rfl) (.atom _ _ rfl) (op_neq_f (by first | omega | assumption)), trivial⟩ Zw.i28 rfl rfl rowsHold_nil Zw.r28 rfl rfl (Zw.n29 r0 r1 x0 d2 (by first | assumption | (constructor <;> omega) | trivial) (by first | assumption | (constructor <;> omega) | trivial) (by first | omega | assumption | (intro hh; omega)) (by first | omega | assumption | (intro hh; omega)))
theorem Zw.n27 {W : World} {n0 : Int} {n1 : Int} (r0 : R64 n0) (r1 : R64 n1) (x0 : Int) (x2 : Int) (g0x : R64 x0) (g2x : R64 x2) (j0 : (0 ≤ x0 ∧ x0 < 12)) (j1 : (((26 : Int) ≤ 100 → x2 = (n1 * (26 : Int) + 9223372036854775808) % 18446744073709551616 - 9223372036854775808))) : NdGood Tryz.prog Tryz.f7 8 Tryz.H0 W Zw.p0 Zw.d27 [(.int .i64 x0), (.int .i64 n1), (.int .i64 x2)] := by
  have ⟨gl0, gh0⟩ := g0x
  have ⟨gl2, gh2⟩ := g2x
  have ⟨rl0, rh0⟩ := r0
  have ⟨rl1, rh1⟩ := r1
  obtain ⟨d1, e1, g1, o1⟩ := ex_add (90 : Int) x0
  obtain ⟨d2, e2, g2, o2⟩ := ex_add x2 n1
  obtain ⟨d3, e3, g3, o3⟩ := ex_mul n1 (27 : Int)
  exact Zw.nx Zw.t27 [(.int .i64 d1), (.int .i64 d2), (.int .i64 d3)] [] [(.int .i64 x0), (.int .i64 n1), (.int .i64 d2)] (Zw.k0 _) ⟨hold_op (.int _ _) (.atom _ _ rfl) o1 (.atom _ _ rfl), hold_bool (.int _ _) (.atom _ _ rfl) (op_lss_t (by first | omega | assumption)), hold_op (.atom _ _ rfl) (.atom _ _ rfl) o2 (.atom _ _ rfl), hold_op (.atom _ _ rfl) (.int _ _) o3 (.atom _ _ rfl), hold_bool (.atom _ _ rfl) (.atom _ _ rfl) (op_neq_f (by first | omega | assumption)), trivial⟩ Zw.i27 rfl rfl rowsHold_nil Zw.r27 rfl rfl (Zw.n28 r0 r1 x0 d2 (by first | assumption | (constructor <;> omega) | trivial) (by first | assumption | (constructor <;> omega) | trivial) (by first | omega | assumption | (intro hh; omega)) (by first | omega | assumption | (intro hh; omega)))
theorem Zw.n26 {W : World} {n0 : Int} {n1 : Int} (r0 : R64 n0) (r1 : R64 n1) (x0 : Int) (x2 : Int) (g0x : R64 x0) (g2x : R64 x2) (j0 : (0 ≤ x0 ∧ x0 < 12)) (j1 : (((25 : Int) ≤ 100 → x2 = (n1 * (25 : Int) + 9223372036854775808) % 18446744073709551616 - 9223372036854775808))) : NdGood Tryz.prog Tryz.f7 8 Tryz.H0 W Zw.p0 Zw.d26 [(.int .i64 x0), (.int .i64 n1), (.int .i64 x2)] := by
  have ⟨gl0, gh0⟩ := g0x
  have ⟨gl2, gh2⟩ := g2x
  have ⟨rl0, rh0⟩ := r0
  have ⟨rl1, rh1⟩ := r1
  obtain ⟨d1, e1, g1, o1⟩ := ex_add (90 : Int) x0
  obtain ⟨d2, e2, g2, o2⟩ := ex_add x2 n1
  obtain ⟨d3, e3, g3, o3⟩ := ex_mul n1 (26 : Int)
  exact Zw.nx Zw.t26 [(.int .i64 d1), (.int .i64 d2), (.int .i64 d3)] [] [(.int .i64 x0), (.int .i64 n1), (.int .i64 d2)] (Zw.k0 _) ⟨hold_op (.int _ _) (.atom _ _ rfl) o1 (.atom _ _ rfl), hold_bool (.int _ _) (.atom _ _ rfl) (op_lss_t (by first | omega | assumption)), hold_op (.atom _ _ rfl) (.atom _ _ rfl) o2 (.atom _ _ rfl), hold_op (.atom _ _ rfl) (.int _ _) o3 (.atom _ _ rfl), hold_bool (.atom _ _ rfl) (.atom _ _ rfl) (op_neq_f (by first | omega | assumption)), trivial⟩ Zw.i26 rfl rfl rowsHold_nil Zw.r26 rfl rfl (Zw.n27 r0 r1 x0 d2 (by first | assumption | (constructor <;> omega) | trivial) (by first | assumption | (constructor <;> omega) | trivial) (by first | omega | assumption | (intro hh; omega)) (by first | omega | assumption | (intro hh; omega)))
theorem Zw.n25 {W : World} {n0 : Int} {n1 : Int} (r0 : R64 n0) (r1 : R64 n1) (x0 : Int) (x2 : Int) (g0x : R64 x0) (g2x : R64 x2) (j0 : (0 ≤ x0 ∧ x0 < 12)) (j1 : (((24 : Int) ≤ 100 → x2 = (n1 * (24 : Int) + 9223372036854775808) % 18446744073709551616 - 9223372036854775808))) : NdGood Tryz.prog Tryz.f7 8 Tryz.H0 W Zw.p0 Zw.d25 [(.int .i64 x0), (.int .i64 n1), (.int .i64 x2)] := by
  have ⟨gl0, gh0⟩ := g0x
  have ⟨gl2, gh2⟩ := g2x
  have ⟨rl0, rh0⟩ := r0
  have ⟨rl1, rh1⟩ := r1
  obtain ⟨d1, e1, g1, o1⟩ := ex_add (90 : Int) x0
  obtain ⟨d2, e2, g2, o2⟩ := ex_add x2 n1
  obtain ⟨d3, e3, g3, o3⟩ := ex_mul n1 (25 : Int)
  exact Zw.nx Zw.t25 [(.int .i64 d1), (.int .i64 d2), (.int .i64 d3)] [] [(.int .i64 x0), (.int .i64 n1), (.int .i64 d2)] (Zw.k0 _) ⟨hold_op (.int _ _) (.atom _ _ rfl) o1 (.atom _ _ rfl), hold_bool (.int _ _) (.atom _ _ rfl) (op_lss_t (by first | omega | assumption)), hold_op (.atom _ _ rfl) (.atom _ _ rfl) o2 (.atom _ _ rfl), hold_op (.atom _ _ rfl) (.int _ _) o3 (.atom _ _ rfl), hold_bool (.atom _ _ rfl) (.atom _ _ rfl) (op_neq_f (by first | omega | assumption)), trivial⟩ Zw.i25 rfl rfl rowsHold_nil Zw.r25 rfl rfl (Zw.n26 r0 r1 x0 d2 (by first | assumption | (constructor <;> omega) | trivial) (by first | assumption | (constructor <;> omega) | trivial) (by first | omega | assumption | (intro hh; omega)) (by first | omega | assumption | (intro hh; omega)))
theorem Zw.n24 {W : World} {n0 : Int} {n1 : Int} (r0 : R64 n0) (r1 : R64 n1) (x0 : Int) (x2 : Int) (g0x : R64 x0) (g2x : R64 x2) (j0 : (0 ≤ x0 ∧ x0 < 12)) (j1 : (((23 : Int) ≤ 100 → x2 = (n1 * (23 : Int) + 9223372036854775808) % 18446744073709551616 - 9223372036854775808))) : NdGood Tryz.prog Tryz.f7 8 Tryz.H0 W Zw.p0 Zw.d24 [(.int .i64 x0), (.int .i64 n1), (.int .i64 x2)] := by
  have ⟨gl0, gh0⟩ := g0x
  have ⟨gl2, gh2⟩ := g2x
  have ⟨rl0, rh0⟩ := r0
  have ⟨rl1, rh1⟩ := r1
  obtain ⟨d1, e1, g1, o1⟩ := ex_add (90 : Int) x0
  obtain ⟨d2, e2, g2, o2⟩ := ex_add x2 n1
  obtain ⟨d3, e3, g3, o3⟩ := ex_mul n1 (24 : Int)
  exact Zw.nx Zw.t24 [(.int .i64 d1), (.int .i64 d2), (.int .i64 d3)] [] [(.int .i64 x0), (.int .i64 n1), (.int .i64 d2)] (Zw.k0 _) ⟨hold_op (.int _ _) (.atom _ _ rfl) o1 (.atom _ _ rfl), hold_bool (.int _ _) (.atom _ _ rfl) (op_lss_t (by first | omega | assumption)), hold_op (.atom _ _ rfl) (.atom _ _ rfl) o2 (.atom _ _ rfl), hold_op (.atom _ _ rfl) (.int _ _) o3 (.atom _ _ rfl), hold_bool (.atom _ _ rfl) (.atom _ _ rfl) (op_neq_f (by first | omega | assumption)), trivial⟩ Zw.i24 rfl rfl rowsHold_nil Zw.r24 rfl rfl (Zw.n25 r0 r1 x0 d2 (by first | assumption | (constructor <;> omega) | trivial) (by first | assumption | (constructor <;> omega) | trivial) (by first | omega | assumption | (intro hh; omega)) (by first | omega | assumption | (intro hh; omega)))
theorem Zw.n23 {W : World} {n0 : Int} {n1 : Int} (r0 : R64 n0) (r1 : R64 n1) (x0 : Int) (x2 : Int) (g0x : R64 x0) (g2x : R64 x2) (j0 : (0 ≤ x0 ∧ x0 < 12)) (j1 : (((22 : Int) ≤ 100 → x2 = (n1 * (22 : Int) + 9223372036854775808) % 18446744073709551616 - 9223372036854775808))) : NdGood Tryz.prog Tryz.f7 8 Tryz.H0 W Zw.p0 Zw.d23 [(.int .i64 x0), (.int .i64 n1), (.int .i64 x2)] := by
  have ⟨gl0, gh0⟩ := g0x
  have ⟨gl2, gh2⟩ := g2x
  have ⟨rl0, rh0⟩ := r0
  have ⟨rl1, rh1⟩ := r1
  obtain ⟨d1, e1, g1, o1⟩ := ex_add (90 : Int) x0
  obtain ⟨d2, e2, g2, o2⟩ := ex_add x2 n1
  obtain ⟨d3, e3, g3, o3⟩ := ex_mul n1 (23 : Int)
  exact Zw.nx Zw.t23 [(.int .i64 d1), (.int .i64 d2), (.int .i64 d3)] [] [(.int .i64 x0), (.int .i64 n1), (.int .i64 d2)] (Zw.k0 _) ⟨hold_op (.int _ _) (.atom _ _ rfl) o1 (.atom _ _ rfl), hold_bool (.int _ _) (.atom _ _ rfl) (op_lss_t (by first | omega | assumption)), hold_op (.atom _ _ rfl) (.atom _ _ rfl) o2 (.atom _ _ rfl), hold_op (.atom _ _ rfl) (.int _ _) o3 (.atom _ _ rfl), hold_bool (.atom _ _ rfl) (.atom _ _ rfl) (op_neq_f (by first | omega | assumption)), trivial⟩ Zw.i23 rfl rfl rowsHold_nil Zw.r23 rfl rfl (Zw.n24 r0 r1 x0 d2 (by first | assumption | (constructor <;> omega) | trivial) (by first | assumption | (constructor <;> omega) | trivial) (by first | omega | assumption | (intro hh; omega)) (by first | omega | assumption | (intro hh; omega)))
theorem Zw.n22 {W : World} {n0 : Int} {n1 : Int} (r0 : R64 n0) (r1 : R64 n1) (x0 : Int) (x2 : Int) (g0x : R64 x0) (g2x : R64 x2) (j0 : (0 ≤ x0 ∧ x0 < 12)) (j1 : (((21 : Int) ≤ 100 → x2 = (n1 * (21 : Int) + 9223372036854775808) % 18446744073709551616 - 9223372036854775808))) : NdGood Tryz.prog Tryz.f7 8 Tryz.H0 W Zw.p0 Zw.d22 [(.int .i64 x0), (.int .i64 n1), (.int .i64 x2)] := by
  have ⟨gl0, gh0⟩ := g0x
  have ⟨gl2, gh2⟩ := g2x
  have ⟨rl0, rh0⟩ := r0
  have ⟨rl1, rh1⟩ := r1
  obtain ⟨d1, e1, g1, o1⟩ := ex_add (90 : Int) x0
  obtain ⟨d2, e2, g2, o2⟩ := ex_add x2 n1
  obtain ⟨d3, e3, g3, o3⟩ := ex_mul n1 (22 : Int)
  exact Zw.nx Zw.t22 [(.int .i64 d1), (.int .i64 d2), (.int .i64 d3)] [] [(.int .i64 x0), (.int .i64 n1), (.int .i64 d2)] (Zw.k0 _) ⟨hold_op (.int _ _) (.atom _ _ rfl) o1 (.atom _ _ rfl), hold_bool (.int _ _) (.atom _ _ rfl) (op_lss_t (by first | omega | assumption)), hold_op (.atom _ _ rfl) (.atom _ _ rfl) o2 (.atom _ _ rfl), hold_op (.atom _ _ rfl) (.int _ _) o3 (.atom _ _ rfl), hold_bool (.atom _ _ rfl) (.atom _ _ rfl) (op_neq_f (by first | omega | assumption)), trivial⟩ Zw.i22 rfl rfl rowsHold_nil Zw.r22 rfl rfl (Zw.n23 r0 r1 x0 d2 (by first | assumption | (constructor <;> omega) | trivial) (by first | assumption | (constructor <;> omega) | trivial) (by first | omega | assumption | (intro hh; omega)) (by first | omega | assumption | (intro hh; omega)))
theorem Zw.n21 {W : World} {n0 : Int} {n1 : Int} (r0 : R64 n0) (r1 : R64 n1) (x0 : Int) (x2 : Int) (g0x : R64 x0) (g2x : R64 x2) (j0 : (0 ≤ x0 ∧ x0 < 12)) (j1 : (((20 : Int) ≤ 100 → x2 = (n1 * (20 : Int) + 9223372036854775808) % 18446744073709551616 - 9223372036854775808))) : NdGood Tryz.prog Tryz.f7 8 Tryz.H0 W Zw.p0 Zw.d21 [(.int .i64 x0), (.int .i64 n1), (.int .i64 x2)] := by
  have ⟨gl0, gh0⟩ := g0x
  have ⟨gl2, gh2⟩ := g2x
  have ⟨rl0, rh0⟩ := r0
  have ⟨rl1, rh1⟩ := r1
  obtain ⟨d1, e1, g1, o1⟩ := ex_add (90 : Int) x0
  obtain ⟨d2, e2, g2, o2⟩ := ex_add x2 n1
  obtain ⟨d3, e3, g3, o3⟩ := ex_mul n1 (21 : Int)
  exact Zw.nx Zw.t21 [(.int .i64 d1), (.int .i64 d2), (.int .i64 d3)] [] [(.int .i64 x0), (.int .i64 n1), (.int .i64 d2)] (Zw.k0 _) ⟨hold_op (.int _ _) (.atom _ _ rfl) o1 (.atom _ _ rfl), hold_bool (.int _ _) (.atom _ _ rfl) (op_lss_t (by first | omega | assumption)), hold_op (.atom _ _ rfl) (.atom _ _ rfl) o2 (.atom _ _ rfl), hold_op (.atom _ _ rfl) (.int _ _) o3 (.atom _ _ rfl), hold_bool (.atom _ _ rfl) (.atom _ _ rfl) (op_neq_f (by first | omega | assumption)), trivial⟩ Zw.i21 rfl rfl rowsHold_nil Zw.r21 rfl rfl (Zw.n22 r0 r1 x0 d2 (by first | assumption | (constructor <;> omega) | trivial) (by first | assumption | (constructor <;> omega) | trivial) (by first | omega | assumption | (intro hh; omega)) (by first | omega | assumption | (intro hh; omega)))
theorem Zw.n20 {W : World} {n0 : Int} {n1 : Int} (r0 : R64 n0) (r1 : R64 n1) (x0 : Int) (x2 : Int) (g0x : R64 x0) (g2x : R64 x2) (j0 : (0 ≤ x0 ∧ x0 < 12)) (j1 : (((19 : Int) ≤ 100 → x2 = (n1 * (19 : Int) + 9223372036854775808) % 18446744073709551616 - 9223372036854775808))) : NdGood Tryz.prog Tryz.f7 8 Tryz.H0 W Zw.p0 Zw.d20 [(.int .i64 x0), (.int .i64 n1), (.int .i64 x2)] := by
  have ⟨gl0, gh0⟩ := g0x
  have ⟨gl2, gh2⟩ := g2x
  have ⟨rl0, rh0⟩ := r0
  have ⟨rl1, rh1⟩ := r1
  obtain ⟨d1, e1, g1, o1⟩ := ex_add (90 : Int) x0
  obtain ⟨d2, e2, g2, o2⟩ := ex_add x2 n1
  obtain ⟨d3, e3, g3, o3⟩ := ex_mul n1 (20 : Int)
  exact Zw.nx Zw.t20 [(.int .i64 d1), (.int .i64 d2), (.int .i64 d3)] [] [(.int .i64 x0), (.int .i64 n1), (.int .i64 d2)] (Zw.k0 _) ⟨hold_op (.int _ _) (.atom _ _ rfl) o1 (.atom _ _ rfl), hold_bool (.int _ _) (.atom _ _ rfl) (op_lss_t (by first | omega | assumption)), hold_op (.atom _ _ rfl) (.atom _ _ rfl) o2 (.atom _ _ rfl), hold_op (.atom _ _ rfl) (.int _ _) o3 (.atom _ _ rfl), hold_bool (.atom _ _ rfl) (.atom _ _ rfl) (op_neq_f (by first | omega | assumption)), trivial⟩ Zw.i20 rfl rfl rowsHold_nil Zw.r20 rfl rfl (Zw.n21 r0 r1 x0 d2 (by first | assumption | (constructor <;> omega) | trivial) (by first | assumption | (constructor <;> omega) | trivial) (by first | omega | assumption | (intro hh; omega)) (by first | omega | assumption | (intro hh; omega)))
theorem Zw.n19 {W : World} {n0 : Int} {n1 : Int} (r0 : R64 n0) (r1 : R64 n1) (x0 : Int) (x2 : Int) (g0x : R64 x0) (g2x : R64 x2) (j0 : (0 ≤ x0 ∧ x0 < 12)) (j1 : (((18 : Int) ≤ 100 → x2 = (n1 * (18 : Int) + 9223372036854775808) % 18446744073709551616 - 9223372036854775808))) : NdGood Tryz.prog Tryz.f7 8 Tryz.H0 W Zw.p0 Zw.d19 [(.int .i64 x0), (.int .i64 n1), (.int .i64 x2)] := by
  have ⟨gl0, gh0⟩ := g0x
  have ⟨gl2, gh2⟩ := g2x
  have ⟨rl0, rh0⟩ := r0
  have ⟨rl1, rh1⟩ := r1
  obtain ⟨d1, e1, g1, o1⟩ := ex_add (90 : Int) x0
  obtain ⟨d2, e2, g2, o2⟩ := ex_add x2 n1
  obtain ⟨d3, e3, g3, o3⟩ := ex_mul n1 (19 : Int)
  exact Zw.nx Zw.t19 [(.int .i64 d1), (.int .i64 d2), (.int .i64 d3)] [] [(.int .i64 x0), (.int .i64 n1), (.int .i64 d2)] (Zw.k0 _) ⟨hold_op (.int _ _) (.atom _ _ rfl) o1 (.atom _ _ rfl), hold_bool (.int _ _) (.atom _ _ rfl) (op_lss_t (by first | omega | assumption)), hold_op (.atom _ _ rfl) (.atom _ _ rfl) o2 (.atom _ _ rfl), hold_op (.atom _ _ rfl) (.int _ _) o3 (.atom _ _ rfl), hold_bool (.atom _ _ rfl) (.atom _ _ rfl) (op_neq_f (by first | omega | assumption)), trivial⟩ Zw.i19 rfl rfl rowsHold_nil Zw.r19 rfl rfl (Zw.n20 r0 r1 x0 d2 (by first | assumption | (constructor <;> omega) | trivial) (by first | assumption | (constructor <;> omega) | trivial) (by first | omega | assumption | (intro hh; omega)) (by first | omega | assumption | (intro hh; omega)))
theorem Zw.n18 {W : World} {n0 : Int} {n1 : Int} (r0 : R64 n0) (r1 : R64 n1) (x0 : Int) (x2 : Int) (g0x : R64 x0) (g2x : R64 x2) (j0 : (0 ≤ x0 ∧ x0 < 12)) (j1 : (((17 : Int) ≤ 100 → x2 = (n1 * (17 : Int) + 9223372036854775808) % 18446744073709551616 - 9223372036854775808))) : NdGood Tryz.prog Tryz.f7 8 Tryz.H0 W Zw.p0 Zw.d18 [(.int .i64 x0), (.int .i64 n1), (.int .i64 x2)] := by
  have ⟨gl0, gh0⟩ := g0x
  have ⟨gl2, gh2⟩ := g2x
  have ⟨rl0, rh0⟩ := r0
  have ⟨rl1, rh1⟩ := r1
  obtain ⟨d1, e1, g1, o1⟩ := ex_add (90 : Int) x0
  obtain ⟨d2, e2, g2, o2⟩ := ex_add x2 n1
  obtain ⟨d3, e3, g3, o3⟩ := ex_mul n1 (18 : Int)
  exact Zw.nx Zw.t18 [(.int .i64 d1), (.int .i64 d2), (.int .i64 d3)] [] [(.int .i64 x0), (.int .i64 n1), (.int .i64 d2)] (Zw.k0 _) ⟨hold_op (.int _ _) (.atom _ _ rfl) o1 (.atom _ _ rfl), hold_bool (.int _ _) (.atom _ _ rfl) (op_lss_t (by first | omega | assumption)), hold_op (.atom _ _ rfl) (.atom _ _ rfl) o2 (.atom _ _ rfl), hold_op (.atom _ _ rfl) (.int _ _) o3 (.atom _ _ rfl), hold_bool (.atom _ _ rfl) (.atom _ _ rfl) (op_neq_f (by first | omega | assumption)), trivial⟩ Zw.i18 rfl rfl rowsHold_nil Zw.r18 rfl rfl (Zw.n19 r0 r1 x0 d2 (by first | assumption | (constructor <;> omega) | trivial) (by first | assumption | (constructor <;> omega) | trivial) (by first | omega | assumption | (intro hh; omega)) (by first | omega | assumption | (intro hh; omega)))
theorem Zw.n17 {W : World} {n0 : Int} {n1 : Int} (r0 : R64 n0) (r1 : R64 n1) (x0 : Int) (x2 : Int) (g0x : R64 x0) (g2x : R64 x2) (j0 : (0 ≤ x0 ∧ x0 < 12)) (j1 : (((16 : Int) ≤ 100 → x2 = (n1 * (16 : Int) + 9223372036854775808) % 18446744073709551616 - 9223372036854775808))) : NdGood Tryz.prog Tryz.f7 8 Tryz.H0 W Zw.p0 Zw.d17 [(.int .i64 x0), (.int .i64 n1), (.int .i64 x2)] := by
  have ⟨gl0, gh0⟩ := g0x
  have ⟨gl2, gh2⟩ := g2x
  have ⟨rl0, rh0⟩ := r0
  have ⟨rl1, rh1⟩ := r1
  obtain ⟨d1, e1, g1, o1⟩ := ex_add (90 : Int) x0
  obtain ⟨d2, e2, g2, o2⟩ := ex_add x2 n1
  obtain ⟨d3, e3, g3, o3⟩ := ex_mul n1 (17 : Int)
  exact Zw.nx Zw.t17 [(.int .i64 d1), (.int .i64 d2), (.int .i64 d3)] [] [(.int .i64 x0), (.int .i64 n1), (.int .i64 d2)] (Zw.k0 _) ⟨hold_op (.int _ _) (.atom _ _ rfl) o1 (.atom _ _ rfl), hold_bool (.int _ _) (.atom _ _ rfl) (op_lss_t (by first | omega | assumption)), hold_op (.atom _ _ rfl) (.atom _ _ rfl) o2 (.atom _ _ rfl), hold_op (.atom _ _ rfl) (.int _ _) o3 (.atom _ _ rfl), hold_bool (.atom _ _ rfl) (.atom _ _ rfl) (op_neq_f (by first | omega | assumption)), trivial⟩ Zw.i17 rfl rfl rowsHold_nil Zw.r17 rfl rfl (Zw.n18 r0 r1 x0 d2 (by first | assumption | (constructor <;> omega) | trivial) (by first | assumption | (constructor <;> omega) | trivial) (by first | omega | assumption | (intro hh; omega)) (by first | omega | assumption | (intro hh; omega)))
theorem Zw.n16 {W : World} {n0 : Int} {n1 : Int} (r0 : R64 n0) (r1 : R64 n1) (x0 : Int) (x2 : Int) (g0x : R64 x0) (g2x : R64 x2) (j0 : (0 ≤ x0 ∧ x0 < 12)) (j1 : (((15 : Int) ≤ 100 → x2 = (n1 * (15 : Int) + 9223372036854775808) % 18446744073709551616 - 9223372036854775808))) : NdGood Tryz.prog Tryz.f7 8 Tryz.H0 W Zw.p0 Zw.d16 [(.int .i64 x0), (.int .i64 n1), (.int .i64 x2)] := by
  have ⟨gl0, gh0⟩ := g0x
  have ⟨gl2, gh2⟩ := g2x
  have ⟨rl0, rh0⟩ := r0
  have ⟨rl1, rh1⟩ := r1
  obtain ⟨d1, e1, g1, o1⟩ := ex_add (90 : Int) x0
  obtain ⟨d2, e2, g2, o2⟩ := ex_add x2 n1
  obtain ⟨d3, e3, g3, o3⟩ := ex_mul n1 (16 : Int)
  exact Zw.nx Zw.t16 [(.int .i64 d1), (.int .i64 d2), (.int .i64 d3)] [] [(.int .i64 x0), (.int .i64 n1), (.int .i64 d2)] (Zw.k0 _) ⟨hold_op (.int _ _) (.atom _ _ rfl) o1 (.atom _ _ rfl), hold_bool (.int _ _) (.atom _ _ rfl) (op_lss_t (by first | omega | assumption)), hold_op (.atom _ _ rfl) (.atom _ _ rfl) o2 (.atom _ _ rfl), hold_op (.atom _ _ rfl) (.int _ _) o3 (.atom _ _ rfl), hold_bool (.atom _ _ rfl) (.atom _ _ rfl) (op_neq_f (by first | omega | assumption)), trivial⟩ Zw.i16 rfl rfl rowsHold_nil Zw.r16 rfl rfl (Zw.n17 r0 r1 x0 d2 (by first | assumption | (constructor <;> omega) | trivial) (by first | assumption | (constructor <;> omega) | trivial) (by first | omega | assumption | (intro hh; omega)) (by first | omega | assumption | (intro hh; omega)))
theorem Zw.n15 {W : World} {n0 : Int} {n1 : Int} (r0 : R64 n0) (r1 : R64 n1) (x0 : Int) (x2 : Int) (g0x : R64 x0) (g2x : R64 x2) (j0 : (0 ≤ x0 ∧ x0 < 12)) (j1 : (((14 : Int) ≤ 100 → x2 = (n1 * (14 : Int) + 9223372036854775808) % 18446744073709551616 - 9223372036854775808))) : NdGood Tryz.prog Tryz.f7 8 Tryz.H0 W Zw.p0 Zw.d15 [(.int .i64 x0), (.int .i64 n1), (.int .i64 x2)] := by
  have ⟨gl0, gh0⟩ := g0x
  have ⟨gl2, gh2⟩ := g2x
  have ⟨rl0, rh0⟩ := r0
  have ⟨rl1, rh1⟩ := r1
  obtain ⟨d1, e1, g1, o1⟩ := ex_add (90 : Int) x0
  obtain ⟨d2, e2, g2, o2⟩ := ex_add x2 n1
  obtain ⟨d3, e3, g3, o3⟩ := ex_mul n1 (15 : Int)
  exact Zw.nx Zw.t15 [(.int .i64 d1), (.int .i64 d2), (.int .i64 d3)] [] [(.int .i64 x0), (.int .i64 n1), (.int .i64 d2)] (Zw.k0 _) ⟨hold_op (.int _ _) (.atom _ _ rfl) o1 (.atom _ _ rfl), hold_bool (.int _ _) (.atom _ _ rfl) (op_lss_t (by first | omega | assumption)), hold_op (.atom _ _ rfl) (.atom _ _ rfl) o2 (.atom _ _ rfl), hold_op (.atom _ _ rfl) (.int _ _) o3 (.atom _ _ rfl), hold_bool (.atom _ _ rfl) (.atom _ _ rfl) (op_neq_f (by first | omega | assumption)), trivial⟩ Zw.i15 rfl rfl rowsHold_nil Zw.r15 rfl rfl (Zw.n16 r0 r1 x0 d2 (by first | assumption | (constructor <;> omega) | trivial) (by first | assumption | (constructor <;> omega) | trivial) (by first | omega | assumption | (intro hh; omega)) (by first | omega | assumption | (intro hh; omega)))
theorem Zw.n14 {W : World} {n0 : Int} {n1 : Int} (r0 : R64 n0) (r1 : R64 n1) (x0 : Int) (x2 : Int) (g0x : R64 x0) (g2x : R64 x2) (j0 : (0 ≤ x0 ∧ x0 < 12)) (j1 : (((13 : Int) ≤ 100 → x2 = (n1 * (13 : Int) + 9223372036854775808) % 18446744073709551616 - 9223372036854775808))) : NdGood Tryz.prog Tryz.f7 8 Tryz.H0 W Zw.p0 Zw.d14 [(.int .i64 x0), (.int .i64 n1), (.int .i64 x2)] := by
  have ⟨gl0, gh0⟩ := g0x
  have ⟨gl2, gh2⟩ := g2x
  have ⟨rl0, rh0⟩ := r0
  have ⟨rl1, rh1⟩ := r1
  obtain ⟨d1, e1, g1, o1⟩ := ex_add (90 : Int) x0
  obtain ⟨d2, e2, g2, o2⟩ := ex_add x2 n1
  obtain ⟨d3, e3, g3, o3⟩ := ex_mul n1 (14 : Int)
  exact Zw.nx Zw.t14 [(.int .i64 d1), (.int .i64 d2), (.int .i64 d3)] [] [(.int .i64 x0), (.int .i64 n1), (.int .i64 d2)] (Zw.k0 _) ⟨hold_op (.int _ _) (.atom _ _ rfl) o1 (.atom _ _ rfl), hold_bool (.int _ _) (.atom _ _ rfl) (op_lss_t (by first | omega | assumption)), hold_op (.atom _ _ rfl) (.atom _ _ rfl) o2 (.atom _ _ rfl), hold_op (.atom _ _ rfl) (.int _ _) o3 (.atom _ _ rfl), hold_bool (.atom _ _ rfl) (.atom _ _ rfl) (op_neq_f (by first | omega | assumption)), trivial⟩ Zw.i14 rfl rfl rowsHold_nil Zw.r14 rfl rfl (Zw.n15 r0 r1 x0 d2 (by first | assumption | (constructor <;> omega) | trivial) (by first | assumption | (constructor <;> omega) | trivial) (by first | omega | assumption | (intro hh; omega)) (by first | omega | assumption | (intro hh; omega)))
theorem Zw.n13 {W : World} {n0 : Int} {n1 : Int} (r0 : R64 n0) (r1 : R64 n1) (x0 : Int) (x2 : Int) (g0x : R64 x0) (g2x : R64 x2) (j0 : (0 ≤ x0 ∧ x0 < 12)) (j1 : (((12 : Int) ≤ 100 → x2 = (n1 * (12 : Int) + 9223372036854775808) % 18446744073709551616 - 9223372036854775808))) : NdGood Tryz.prog Tryz.f7 8 Tryz.H0 W Zw.p0 Zw.d13 [(.int .i64 x0), (.int .i64 n1), (.int .i64 x2)] := by
  have ⟨gl0, gh0⟩ := g0x
  have ⟨gl2, gh2⟩ := g2x
  have ⟨rl0, rh0⟩ := r0
  have ⟨rl1, rh1⟩ := r1
  obtain ⟨d1, e1, g1, o1⟩ := ex_add (90 : Int) x0
  obtain ⟨d2, e2, g2, o2⟩ := ex_add x2 n1
  obtain ⟨d3, e3, g3, o3⟩ := ex_mul n1 (13 : Int)
  exact Zw.nx Zw.t13 [(.int .i64 d1), (.int .i64 d2), (.int .i64 d3)] [] [(.int .i64 x0), (.int .i64 n1), (.int .i64 d2)] (Zw.k0 _) ⟨hold_op (.int _ _) (.atom _ _ rfl) o1 (.atom _ _ rfl), hold_bool (.int _ _) (.atom _ _ rfl) (op_lss_t (by first | omega | assumption)), hold_op (.atom _ _ rfl) (.atom _ _ rfl) o2 (.atom _ _ rfl), hold_op (.atom _ _ rfl) (.int _ _) o3 (.atom _ _ rfl), hold_bool (.atom _ _ rfl) (.atom _ _ rfl) (op_neq_f (by first | omega | assumption)), trivial⟩ Zw.i13 rfl rfl rowsHold_nil Zw.r13 rfl rfl (Zw.n14 r0 r1 x0 d2 (by first | assumption | (constructor <;> omega) | trivial) (by first | assumption | (constructor <;> omega) | trivial) (by first | omega | assumption | (intro hh; omega)) (by first | omega | assumption | (intro hh; omega)))
theorem Zw.n12 {W : World} {n0 : Int} {n1 : Int} (r0 : R64 n0) (r1 : R64 n1) (x0 : Int) (x2 : Int) (g0x : R64 x0) (g2x : R64 x2) (j0 : (0 ≤ x0 ∧ x0 < 12)) (j1 : (((11 : Int) ≤ 100 → x2 = (n1 * (11 : Int) + 9223372036854775808) % 18446744073709551616 - 9223372036854775808))) : NdGood Tryz.prog Tryz.f7 8 Tryz.H0 W Zw.p0 Zw.d12 [(.int .i64 x0), (.int .i64 n1), (.int .i64 x2)] := by
  have ⟨gl0, gh0⟩ := g0x
  have ⟨gl2, gh2⟩ := g2x
  have ⟨rl0, rh0⟩ := r0
  have ⟨rl1, rh1⟩ := r1
  obtain ⟨d1, e1, g1, o1⟩ := ex_add (90 : Int) x0
  obtain ⟨d2, e2, g2, o2⟩ := ex_add x2 n1
  obtain ⟨d3, e3, g3, o3⟩ := ex_mul n1 (12 : Int)
  exact Zw.nx Zw.t12 [(.int .i64 d1), (.int .i64 d2), (.int .i64 d3)] [] [(.int .i64 x0), (.int .i64 n1), (.int .i64 d2)] (Zw.k0 _) ⟨hold_op (.int _ _) (.atom _ _ rfl) o1 (.atom _ _ rfl), hold_bool (.int _ _) (.atom _ _ rfl) (op_lss_t (by first | omega | assumption)), hold_op (.atom _ _ rfl) (.atom _ _ rfl) o2 (.atom _ _ rfl), hold_op (.atom _ _ rfl) (.int _ _) o3 (.atom _ _ rfl), hold_bool (.atom _ _ rfl) (.atom _ _ rfl) (op_neq_f (by first | omega | assumption)), trivial⟩ Zw.i12 rfl rfl rowsHold_nil Zw.r12 rfl rfl (Zw.n13 r0 r1 x0 d2 (by first | assumption | (constructor <;> omega) | trivial) (by first | assumption | (constructor <;> omega) | trivial) (by first | omega | assumption | (intro hh; omega)) (by first | omega | assumption | (intro hh; omega)))
theorem Zw.n11 {W : World} {n0 : Int} {n1 : Int} (r0 : R64 n0) (r1 : R64 n1) (x0 : Int) (x2 : Int) (g0x : R64 x0) (g2x : R64 x2) (j0 : (0 ≤ x0 ∧ x0 < 12)) (j1 : (((10 : Int) ≤ 100 → x2 = (n1 * (10 : Int) + 9223372036854775808) % 18446744073709551616 - 9223372036854775808))) : NdGood Tryz.prog Tryz.f7 8 Tryz.H0 W Zw.p0 Zw.d11 [(.int .i64 x0), (.int .i64 n1), (.int .i64 x2)] := by
  have ⟨gl0, gh0⟩ := g0x
  have ⟨gl2, gh2⟩ := g2x
  have ⟨rl0, rh0⟩ := r0
  have ⟨rl1, rh1⟩ := r1
  obtain ⟨d1, e1, g1, o1⟩ := ex_add (90 : Int) x0
  obtain ⟨d2, e2, g2, o2⟩ := ex_add x2 n1
  obtain ⟨d3, e3, g3, o3⟩ := ex_mul n1 (11 : Int)
  exact Zw.nx Zw.t11 [(.int .i64 d1), (.int .i64 d2), (.int .i64 d3)] [] [(.int .i64 x0), (.int .i64 n1), (.int .i64 d2)] (Zw.k0 _) ⟨hold_op (.int _ _) (.atom _ _ rfl) o1 (.atom _ _ rfl), hold_bool (.int _ _) (.atom _ _ rfl) (op_lss_t (by first | omega | assumption)), hold_op (.atom _ _ rfl) (.atom _ _ rfl) o2 (.atom _ _ rfl), hold_op (.atom _ _ rfl) (.int _ _) o3 (.atom _ _ rfl), hold_bool (.atom _ _ rfl) (.atom _ _ rfl) (op_neq_f (by first | omega | assumption)), trivial⟩ Zw.i11 rfl rfl rowsHold_nil Zw.r11 rfl rfl (Zw.n12 r0 r1 x0 d2 (by first | assumption | (constructor <;> omega) | trivial) (by first | assumption | (constructor <;> omega) | trivial) (by first | omega | assumption | (intro hh; omega)) (by first | omega | assumption | (intro hh; omega)))
theorem Zw.n10 {W : World} {n0 : Int} {n1 : Int} (r0 : R64 n0) (r1 : R64 n1) (x0 : Int) (x2 : Int) (g0x : R64 x0) (g2x : R64 x2) (j0 : (0 ≤ x0 ∧ x0 < 12)) (j1 : (((9 : Int) ≤ 100 → x2 = (n1 * (9 : Int) + 9223372036854775808) % 18446744073709551616 - 9223372036854775808))) : NdGood Tryz.prog Tryz.f7 8 Tryz.H0 W Zw.p0 Zw.d10 [(.int .i64 x0), (.int .i64 n1), (.int .i64 x2)] := by
  have ⟨gl0, gh0⟩ := g0x
  have ⟨gl2, gh2⟩ := g2x
  have ⟨rl0, rh0⟩ := r0
  have ⟨rl1, rh1⟩ := r1
  obtain ⟨d1, e1, g1, o1⟩ := ex_add (90 : Int) x0
  obtain ⟨d2, e2, g2, o2⟩ := ex_add x2 n1
  obtain ⟨d3, e3, g3, o3⟩ := ex_mul n1 (10 : Int)
  exact Zw.nx Zw.t10 [(.int .i64 d1), (.int .i64 d2), (.int .i64 d3)] [] [(.int .i64 x0), (.int .i64 n1), (.int .i64 d2)] (Zw.k0 _) ⟨hold_op (.int _ _) (.atom _ _ rfl) o1 (.atom _ _ rfl), hold_bool (.int _ _) (.atom _ _ rfl) (op_lss_t (by first | omega | assumption)), hold_op (.atom _ _ rfl) (.atom _ _ rfl) o2 (.atom _ _ rfl), hold_op (.atom _ _ rfl) (.int _ _) o3 (.atom _ _ rfl), hold_bool (.atom _ _ rfl) (.atom _ _ rfl) (op_neq_f (by first | omega | assumption)), trivial⟩ Zw.i10 rfl rfl rowsHold_nil Zw.r10 rfl rfl (Zw.n11 r0 r1 x0 d2 (by first | assumption | (constructor <;> omega) | trivial) (by first | assumption | (constructor <;> omega) | trivial) (by first | omega | assumption | (intro hh; omega)) (by first | omega | assumption | (intro hh; omega)))
theorem Zw.n9 {W : World} {n0 : Int} {n1 : Int} (r0 : R64 n0) (r1 : R64 n1) (x0 : Int) (x2 : Int) (g0x : R64 x0) (g2x : R64 x2) (j0 : (0 ≤ x0 ∧ x0 < 12)) (j1 : (((8 : Int) ≤ 100 → x2 = (n1 * (8 : Int) + 9223372036854775808) % 18446744073709551616 - 9223372036854775808))) : NdGood Tryz.prog Tryz.f7 8 Tryz.H0 W Zw.p0 Zw.d9 [(.int .i64 x0), (.int .i64 n1), (.int .i64 x2)] := by
  have ⟨gl0, gh0⟩ := g0x
  have ⟨gl2, gh2⟩ := g2x
  have ⟨rl0, rh0⟩ := r0
  have ⟨rl1, rh1⟩ := r1
  obtain ⟨d1, e1, g1, o1⟩ := ex_add (90 : Int) x0
  obtain ⟨d2, e2, g2, o2⟩ := ex_add x2 n1
  obtain ⟨d3, e3, g3, o3⟩ := ex_mul n1 (9 : Int)
  exact Zw.nx Zw.t9 [(.int .i64 d1), (.int .i64 d2), (.int .i64 d3)] [] [(.int .i64 x0), (.int .i64 n1), (.int .i64 d2)] (Zw.k0 _) ⟨hold_op (.int _ _) (.atom _ _ rfl) o1 (.atom _ _ rfl), hold_bool (.int _ _) (.atom _ _ rfl) (op_lss_t (by first | omega | assumption)), hold_op (.atom _ _ rfl) (.atom _ _ rfl) o2 (.atom _ _ rfl), hold_op (.atom _ _ rfl) (.int _ _) o3 (.atom _ _ rfl), hold_bool (.atom _ _ rfl) (.atom _ _ rfl) (op_neq_f (by first | omega | assumption)), trivial⟩ Zw.i9 rfl rfl rowsHold_nil Zw.r9 rfl rfl (Zw.n10 r0 r1 x0 d2 (by first | assumption | (constructor <;> omega) | trivial) (by first | assumption | (constructor <;> omega) | trivial) (by first | omega | assumption | (intro hh; omega)) (by first | omega | assumption | (intro hh; omega)))
theorem Zw.n8 {W : World} {n0 : Int} {n1 : Int} (r0 : R64 n0) (r1 : R64 n1) (x0 : Int) (x2 : Int) (g0x : R64 x0) (g2x : R64 x2) (j0 : (0 ≤ x0 ∧ x0 < 12)) (j1 : (((7 : Int) ≤ 100 → x2 = (n1 * (7 : Int) + 9223372036854775808) % 18446744073709551616 - 9223372036854775808))) : NdGood Tryz.prog Tryz.f7 8 Tryz.H0 W Zw.p0 Zw.d8 [(.int .i64 x0), (.int .i64 n1), (.int .i64 x2)] := by
  have ⟨gl0, gh0⟩ := g0x
  have ⟨gl2, gh2⟩ := g2x
  have ⟨rl0, rh0⟩ := r0
  have ⟨rl1, rh1⟩ := r1
  obtain ⟨d1, e1, g1, o1⟩ := ex_add (90 : Int) x0
  obtain ⟨d2, e2, g2, o2⟩ := ex_add x2 n1
  obtain ⟨d3, e3, g3, o3⟩ := ex_mul n1 (8 : Int)
  exact Zw.nx Zw.t8 [(.int .i64 d1), (.int .i64 d2), (.int .i64 d3)] [] [(.int .i64 x0), (.int .i64 n1), (.int .i64 d2)] (Zw.k0 _) ⟨hold_op (.int _ _) (.atom _ _ rfl) o1 (.atom _ _ rfl), hold_bool (.int _ _) (.atom _ _ rfl) (op_lss_t (by first | omega | assumption)), hold_op (.atom _ _ rfl) (.atom _ _ rfl) o2 (.atom _ _ rfl), hold_op (.atom _ _ rfl) (.int _ _) o3 (.atom _ _ rfl), hold_bool (.atom _ _ rfl) (.atom _ _ rfl) (op_neq_f (by first | omega | assumption)), trivial⟩ Zw.i8 rfl rfl rowsHold_nil Zw.r8 rfl rfl (Zw.n9 r0 r1 x0 d2 (by first | assumption | (constructor <;> omega) | trivial) (by first | assumption | (constructor <;> omega) | trivial) (by first | omega | assumption | (intro hh; omega)) (by first | omega | assumption | (intro hh; omega)))
theorem Zw.n7 {W : World} {n0 : Int} {n1 : Int} (r0 : R64 n0) (r1 : R64 n1) (x0 : Int) (x2 : Int) (g0x : R64 x0) (g2x : R64 x2) (j0 : (0 ≤ x0 ∧ x0 < 12)) (j1 : (((6 : Int) ≤ 100 → x2 = (n1 * (6 : Int) + 9223372036854775808) % 18446744073709551616 - 9223372036854775808))) : NdGood Tryz.prog Tryz.f7 8 Tryz.H0 W Zw.p0 Zw.d7 [(.int .i64 x0), (.int .i64 n1), (.int .i64 x2)] := by
  have ⟨gl0, gh0⟩ := g0x
  have ⟨gl2, gh2⟩ := g2x
  have ⟨rl0, rh0⟩ := r0
  have ⟨rl1, rh1⟩ := r1
  obtain ⟨d1, e1, g1, o1⟩ := ex_add (90 : Int) x0
  obtain ⟨d2, e2, g2, o2⟩ := ex_add x2 n1
  obtain ⟨d3, e3, g3, o3⟩ := ex_mul n1 (7 : Int)
  exact Zw.nx Zw.t7 [(.int .i64 d1), (.int .i64 d2), (.int .i64 d3)] [] [(.int .i64 x0), (.int .i64 n1), (.int .i64 d2)] (Zw.k0 _) ⟨hold_op (.int _ _) (.atom _ _ rfl) o1 (.atom _ _ rfl), hold_bool (.int _ _) (.atom _ _ rfl) (op_lss_t (by first | omega | assumption)), hold_op (.atom _ _ rfl) (.atom _ _ rfl) o2 (.atom _ _ rfl), hold_op (.atom _ _ rfl) (.int _ _) o3 (.atom _ _ rfl), hold_bool (.atom _ _ rfl) (.atom _ _ rfl) (op_neq_f (by first | omega | assumption)), trivial⟩ Zw.i7 rfl rfl rowsHold_nil Zw.r7 rfl rfl (Zw.n8 r0 r1 x0 d2 (by first | assumption | (constructor <;> omega) | trivial) (by first | assumption | (constructor <;> omega) | trivial) (by first | omega | assumption | (intro hh; omega)) (by first | omega | assumption | (intro hh; omega)))
theorem Zw.n6 {W : World} {n0 : Int} {n1 : Int} (r0 : R64 n0) (r1 : R64 n1) (x0 : Int) (x2 : Int) (g0x : R64 x0) (g2x : R64 x2) (j0 : (0 ≤ x0 ∧ x0 < 12)) (j1 : (((5 : Int) ≤ 100 → x2 = (n1 * (5 : Int) + 9223372036854775808) % 18446744073709551616 - 9223372036854775808))) : NdGood Tryz.prog Tryz.f7 8 Tryz.H0 W Zw.p0 Zw.d6 [(.int .i64 x0), (.int .i64 n1), (.int .i64 x2)] := by
  have ⟨gl0, gh0⟩ := g0x
  have ⟨gl2, gh2⟩ := g2x
  have ⟨rl0, rh0⟩ := r0
  have ⟨rl1, rh1⟩ := r1
  obtain ⟨d1, e1, g1, o1⟩ := ex_add (90 : Int) x0
  obtain ⟨d2, e2, g2, o2⟩ := ex_add x2 n1
  obtain ⟨d3, e3, g3, o3⟩ := ex_mul n1 (6 : Int)
  exact Zw.nx Zw.t6 [(.int .i64 d1), (.int .i64 d2), (.int .i64 d3)] [] [(.int .i64 x0), (.int .i64 n1), (.int .i64 d2)] (Zw.k0 _) ⟨hold_op (.int _ _) (.atom _ _ rfl) o1 (.atom _ _ rfl), hold_bool (.int _ _) (.atom _ _ rfl) (op_lss_t (by first | omega | assumption)), hold_op (.atom _ _ rfl) (.atom _ _ rfl) o2 (.atom _ _ rfl), hold_op (.atom _ _ rfl) (.int _ _) o3 (.atom _ _ rfl), hold_bool (.atom _ _ rfl) (.atom _ _ rfl) (op_neq_f (by first | omega | assumption)), trivial⟩ Zw.i6 rfl rfl rowsHold_nil Zw.r6 rfl rfl (Zw.n7 r0 r1 x0 d2 (by first | assumption | (constructor <;> omega) | trivial) (by first | assumption | (constructor <;> omega) | trivial) (by first | omega | assumption | (intro hh; omega)) (by first | omega | assumption | (intro hh; omega)))
theorem Zw.n5 {W : World} {n0 : Int} {n1 : Int} (r0 : R64 n0) (r1 : R64 n1) (x0 : Int) (x2 : Int) (g0x : R64 x0) (g2x : R64 x2) (j0 : (0 ≤ x0 ∧ x0 < 12)) (j1 : (((4 : Int) ≤ 100 → x2 = (n1 * (4 : Int) + 9223372036854775808) % 18446744073709551616 - 9223372036854775808))) : NdGood Tryz.prog Tryz.f7 8 Tryz.H0 W Zw.p0 Zw.d5 [(.int .i64 x0), (.int .i64 n1), (.int .i64 x2)] := by
  have ⟨gl0, gh0⟩ := g0x
  have ⟨gl2, gh2⟩ := g2x
  have ⟨rl0, rh0⟩ := r0
  have ⟨rl1, rh1⟩ := r1
  obtain ⟨d1, e1, g1, o1⟩ := ex_add (90 : Int) x0
  obtain ⟨d2, e2, g2, o2⟩ := ex_add x2 n1
  obtain ⟨d3, e3, g3, o3⟩ := ex_mul n1 (5 : Int)
  exact Zw.nx Zw.t5 [(.int .i64 d1), (.int .i64 d2), (.int .i64 d3)] [] [(.int .i64 x0), (.int .i64 n1), (.int .i64 d2)] (Zw.k0 _) ⟨hold_op (.int _ _) (.atom _ _ rfl) o1 (.atom _ _ rfl), hold_bool (.int _ _) (.atom _ _ rfl) (op_lss_t (by first | omega | assumption)), hold_op (.atom _ _ rfl) (.atom _ _ rfl) o2 (.atom _ _ rfl), hold_op (.atom _ _ rfl) (.int _ _) o3 (.atom _ _ rfl), hold_bool (.atom _ _ rfl) (.atom _ _ rfl) (op_neq_f (by first | omega | assumption)), trivial⟩ Zw.i5 rfl rfl rowsHold_nil Zw.r5 rfl rfl (Zw.n6 r0 r1 x0 d2 (by first | assumption | (constructor <;> omega) | trivial) (by first | assumption | (constructor <;> omega) | trivial) (by first | omega | assumption | (intro hh; omega)) (by first | omega | assumption | (intro hh; omega)))
theorem Zw.n4 {W : World} {n0 : Int} {n1 : Int} (r0 : R64 n0) (r1 : R64 n1) (x0 : Int) (x2 : Int) (g0x : R64 x0) (g2x : R64 x2) (j0 : (0 ≤ x0 ∧ x0 < 12)) (j1 : (((3 : Int) ≤ 100 → x2 = (n1 * (3 : Int) + 9223372036854775808) % 18446744073709551616 - 9223372036854775808))) : NdGood Tryz.prog Tryz.f7 8 Tryz.H0 W Zw.p0 Zw.d4 [(.int .i64 x0), (.int .i64 n1), (.int .i64 x2)] := by
  have ⟨gl0, gh0⟩ := g0x
  have ⟨gl2, gh2⟩ := g2x
  have ⟨rl0, rh0⟩ := r0
  have ⟨rl1, rh1⟩ := r1
  obtain ⟨d1, e1, g1, o1⟩ := ex_add (90 : Int) x0
  obtain ⟨d2, e2, g2, o2⟩ := ex_add x2 n1
  obtain ⟨d3, e3, g3, o3⟩ := ex_mul n1 (4 : Int)
  exact Zw.nx Zw.t4 [(.int .i64 d1), (.int .i64 d2), (.int .i64 d3)] [] [(.int .i64 x0), (.int .i64 n1), (.int .i64 d2)] (Zw.k0 _) ⟨hold_op (.int _ _) (.atom _ _ rfl) o1 (.atom _ _ rfl), hold_bool (.int _ _) (.atom _ _ rfl) (op_lss_t (by first | omega | assumption)), hold_op (.atom _ _ rfl) (.atom _ _ rfl) o2 (.atom _ _ rfl), hold_op (.atom _ _ rfl) (.int _ _) o3 (.atom _ _ rfl), hold_bool (.atom _ _ rfl) (.atom _ _ rfl) (op_neq_f (by first | omega | assumption)), trivial⟩ Zw.i4 rfl rfl rowsHold_nil Zw.r4 rfl rfl (Zw.n5 r0 r1 x0 d2 (by first | assumption | (constructor <;> omega) | trivial) (by first | assumption | (constructor <;> omega) | trivial) (by first | omega | assumption | (intro hh; omega)) (by first | omega | assumption | (intro hh; omega)))
theorem Zw.n3 {W : World} {n0 : Int} {n1 : Int} (r0 : R64 n0) (r1 : R64 n1) (x0 : Int) (x2 : Int) (g0x : R64 x0) (g2x : R64 x2) (j0 : (0 ≤ x0 ∧ x0 < 12)) (j1 : (((2 : Int) ≤ 100 → x2 = (n1 * (2 : Int) + 9223372036854775808) % 18446744073709551616 - 9223372036854775808))) : NdGood Tryz.prog Tryz.f7 8 Tryz.H0 W Zw.p0 Zw.d3 [(.int .i64 x0), (.int .i64 n1), (.int .i64 x2)] := by
  have ⟨gl0, gh0⟩ := g0x
  have ⟨gl2, gh2⟩ := g2x
  have ⟨rl0, rh0⟩ := r0
  have ⟨rl1, rh1⟩ := r1
  obtain ⟨d1, e1, g1, o1⟩ := ex_add (90 : Int) x0
  obtain ⟨d2, e2, g2, o2⟩ := ex_add x2 n1
  obtain ⟨d3, e3, g3, o3⟩ := ex_mul n1 (3 : Int)
  exact Zw.nx Zw.t3 [(.int .i64 d1), (.int .i64 d2), (.int .i64 d3)] [] [(.int .i64 x0), (.int .i64 n1), (.int .i64 d2)] (Zw.k0 _) ⟨hold_op (.int _ _) (.atom _ _ rfl) o1 (.atom _ _ rfl), hold_bool (.int _ _) (.atom _ _ rfl) (op_lss_t (by first | omega | assumption)), hold_op (.atom _ _ rfl) (.atom _ _ rfl) o2 (.atom _ _ rfl), hold_op (.atom _ _ rfl) (.int _ _) o3 (.atom _ _ rfl), hold_bool (.atom _ _ rfl) (.atom _ _ rfl) (op_neq_f (by first | omega | assumption)), trivial⟩ Zw.i3 rfl rfl rowsHold_nil Zw.r3 rfl rfl (Zw.n4 r0 r1 x0 d2 (by first | assumption | (constructor <;> omega) | trivial) (by first | assumption | (constructor <;> omega) | trivial) (by first | omega | assumption | (intro hh; omega)) (by first | omega | assumption | (intro hh; omega)))
theorem Zw.n2 {W : World} {n0 : Int} {n1 : Int} (r0 : R64 n0) (r1 : R64 n1) (x0 : Int) (x2 : Int) (g0x : R64 x0) (g2x : R64 x2) (j0 : (0 ≤ x0 ∧ x0 < 12)) (j1 : (((1 : Int) ≤ 100 → x2 = (n1 * (1 : Int) + 9223372036854775808) % 18446744073709551616 - 9223372036854775808))) : NdGood Tryz.prog Tryz.f7 8 Tryz.H0 W Zw.p0 Zw.d2 [(.int .i64 x0), (.int .i64 n1), (.int .i64 x2)] := by
  have ⟨gl0, gh0⟩ := g0x
  have ⟨gl2, gh2⟩ := g2x
  have ⟨rl0, rh0⟩ := r0
  have ⟨rl1, rh1⟩ := r1
  obtain ⟨d1, e1, g1, o1⟩ := ex_add (90 : Int) x0
  obtain ⟨d2, e2, g2, o2⟩ := ex_add x2 n1
  obtain ⟨d3, e3, g3, o3⟩ := ex_mul n1 (2 : Int)
  exact Zw.nx Zw.t2 [(.int .i64 d1), (.int .i64 d2), (.int .i64 d3)] [] [(.int .i64 x0), (.int .i64 n1), (.int .i64 d2)] (Zw.k0 _) ⟨hold_op (.int _ _) (.atom _ _ rfl) o1 (.atom _ _ rfl), hold_bool (.int _ _) (.atom _ _ rfl) (op_lss_t (by first | omega | assumption)), hold_op (.atom _ _ rfl) (.atom _ _ rfl) o2 (.atom _ _ rfl), hold_op (.atom _ _ rfl) (.int _ _) o3 (.atom _ _ rfl), hold_bool (.atom _ _ rfl) (.atom _ _ rfl) (op_neq_f (by first | omega | assumption)), trivial⟩ Zw.i2 rfl rfl rowsHold_nil Zw.r2 rfl rfl (Zw.n3 r0 r1 x0 d2 (by first | assumption | (constructor <;> omega) | trivial) (by first | assumption | (constructor <;> omega) | trivial) (by first | omega | assumption | (intro hh; omega)) (by first | omega | assumption | (intro hh; omega)))
theorem Zw.n1 {W : World} {n0 : Int} {n1 : Int} (r0 : R64 n0) (r1 : R64 n1) (x0 : Int) (g0x : R64 x0) (j0 : (0 ≤ x0 ∧ x0 < 12)) : NdGood Tryz.prog Tryz.f7 8 Tryz.H0 W Zw.p0 Zw.d1 [(.int .i64 x0), (.int .i64 n1)] := by
  have ⟨gl0, gh0⟩ := g0x
  have ⟨rl0, rh0⟩ := r0
  have ⟨rl1, rh1⟩ := r1
  obtain ⟨d1, e1, g1, o1⟩ := ex_add (90 : Int) x0
  obtain ⟨d2, e2, g2, o2⟩ := ex_add (0 : Int) n1
  obtain ⟨d3, e3, g3, o3⟩ := ex_mul n1 (1 : Int)
  exact Zw.nx Zw.t1 [(.int .i64 d1), (.int .i64 d2), (.int .i64 d3)] [] [(.int .i64 x0), (.int .i64 n1), (.int .i64 d2)] (Zw.k0 _) ⟨hold_op (.int _ _) (.atom _ _ rfl) o1 (.atom _ _ rfl), hold_bool (.int _ _) (.atom _ _ rfl) (op_lss_t (by first | omega | assumption)), hold_op (.int _ _) (.atom _ _ rfl) o2 (.atom _ _ rfl), hold_op (.atom _ _ rfl) (.int _ _) o3 (.atom _ _ rfl), hold_bool (.atom _ _ rfl) (.atom _ _ rfl) (op_neq_f (by first | omega | assumption)), trivial⟩ Zw.i1 rfl rfl rowsHold_nil Zw.r1 rfl rfl (Zw.n2 r0 r1 x0 d2 (by first | assumption | (constructor <;> omega) | trivial) (by first | assumption | (constructor <;> omega) | trivial) (by first | omega | assumption | (intro hh; omega)) (by first | omega | assumption | (intro hh; omega)))
theorem Zw.n0 {W : World} {n0 : Int} {n1 : Int} (r0 : R64 n0) (r1 : R64 n1) : NdGood Tryz.prog Tryz.f7 8 Tryz.H0 W Zw.pS Zw.d0 [(.int .i64 n0), (.int .i64 n1)] := by
  have ⟨rl0, rh0⟩ := r0
  have ⟨rl1, rh1⟩ := r1
  obtain ⟨d1, ⟨y1, e1, z1, u1, w1⟩, g1, o1⟩ := ex_rem n0 (12 : Int) (by omega) (by omega)
  obtain ⟨d2, e2, g2, o2⟩ := ex_add d1 (12 : Int)
  obtain ⟨d3, ⟨y3, e3, z3, u3, w3⟩, g3, o3⟩ := ex_rem d2 (12 : Int) (by omega) (by omega)
  exact Zw.nx Zw.t0 [(.int .i64 d1), (.int .i64 d2), (.int .i64 d3)] [] [(.int .i64 d3), (.int .i64 n1)] (Zw.kS _) ⟨hold_op (.atom _ _ rfl) (.int _ _) (o1 .i64) (.atom _ _ rfl), hold_op (.atom _ _ rfl) (.int _ _) o2 (.atom _ _ rfl), hold_op (.atom _ _ rfl) (.int _ _) (o3 .i64) (.atom _ _ rfl), trivial⟩ Zw.i0 rfl rfl rowsHold_nil Zw.r0 rfl rfl (Zw.n1 r0 r1 d3 (by first | assumption | (constructor <;> omega) | trivial) (by first | omega | assumption | (intro hh; omega)))
end Go.Proofs
