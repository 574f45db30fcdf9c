/- The law, node by node; hence from its start, for every input. No conditions. -/
import Derived.Test.YtcobhgpjdlgckaaGreatDoorVSeatChiefOneR1
import Derived.Test.YtcobhgpjdlgckaaGreatDoorVSeatChiefOneR2
set_option linter.all false
namespace Go.Proofs
open Go Go.Vsx Go.RowKit
set_option maxRecDepth 1000000
set_option maxHeartbeats 4000000
set_option linter.unusedVariables false
theorem Tryz.ChiefOne.r64a {x : Int} (h : R64 x) : -9223372036854775808 ≤ x ∧ x < 9223372036854775808 := h

theorem Tryz.ChiefOne.n37 {W : World} {n0 : Int} {n1 : Int} {n2 : Int} (r0 : R64 n0) (r1 : R64 n1) (r2 : R64 n2) (x0 : Int) (x1 : Int) (x2 : Int) (g0x : R64 x0) (g1x : R64 x1) (g2x : R64 x2) (i0 : (x2 = x0 + (12 : Int))) (i1 : (1 ≤ x0 ∧ x0 ≤ 99990)) (i2 : (1 ≤ x1 ∧ x1 ≤ 12)) : NdGood Tryz.prog Tryz.f3 8 (firstHeap 8 Tryz.gsL) W Tryz.ChiefOne.p0 Tryz.ChiefOne.d37 [(.int .i64 x0), (.int .i64 x1), (.int .i64 x2)] := by
  have ⟨gl0, gh0⟩ := g0x
  have ⟨gl1, gh1⟩ := g1x
  have ⟨gl2, gh2⟩ := g2x
  have ⟨rl0, rh0⟩ := r0
  have ⟨rl1, rh1⟩ := r1
  have ⟨rl2, rh2⟩ := r2
  exact NdGood.fin (E := (Tryz.Es Tryz.m4 (syOf Tryz.ChiefOne.t78))) (extras := []) (rows := []) (by omega) (Tryz.right Tryz.m4 (syOf Tryz.ChiefOne.t78) _ W Tryz.mOk4 (symOk_of rfl ⟨hold_bool (.int _ _) (.atom _ _ rfl) (op_lss_f (by first | omega | assumption)), trivial⟩)) (Tryz.ChiefOne.k0 _ _) Tryz.ChiefOne.i78 rfl rfl rowsHold_nil Tryz.ChiefOne.r78
theorem Tryz.ChiefOne.n34 {W : World} {n0 : Int} {n1 : Int} {n2 : Int} (r0 : R64 n0) (r1 : R64 n1) (r2 : R64 n2) (x0 : Int) (x1 : Int) (x2 : Int) (g0x : R64 x0) (g1x : R64 x1) (g2x : R64 x2) (i0 : (x2 = x0 + (11 : Int))) (i1 : (1 ≤ x0 ∧ x0 ≤ 99990)) (i2 : (1 ≤ x1 ∧ x1 ≤ 12)) : NdGood Tryz.prog Tryz.f3 8 (firstHeap 8 Tryz.gsL) W Tryz.ChiefOne.p0 Tryz.ChiefOne.d34 [(.int .i64 x0), (.int .i64 x1), (.int .i64 x2)] := by
  have ⟨gl0, gh0⟩ := g0x
  have ⟨gl1, gh1⟩ := g1x
  have ⟨gl2, gh2⟩ := g2x
  have ⟨rl0, rh0⟩ := r0
  have ⟨rl1, rh1⟩ := r1
  have ⟨rl2, rh2⟩ := r2
  by_cases q1 : (11 : Int) < x1
  ·
    by_cases q2 : (99999 : Int) < x2
    ·
      obtain ⟨d3, e3, g3, o3⟩ := ex_add x0 (11 : Int)
      exact NdGood.fin (E := (Tryz.Es Tryz.m4 (syOf Tryz.ChiefOne.t69))) (extras := [(.int .i64 d3)]) (rows := []) (by omega) (Tryz.right Tryz.m4 (syOf Tryz.ChiefOne.t69) _ W Tryz.mOk4 (symOk_of rfl ⟨hold_bool (.int _ _) (.atom _ _ rfl) (op_lss_t (by first | omega | assumption)), hold_bool (.atom _ _ rfl) (.int _ _) (op_gtr_t (by first | omega | assumption)), hold_op (.atom _ _ rfl) (.int _ _) o3 (.atom _ _ rfl), hold_bool (.atom _ _ rfl) (.int _ _) (op_gtr_t (by first | omega | assumption)), trivial⟩)) (Tryz.ChiefOne.k0 _ _) Tryz.ChiefOne.i69 rfl rfl rowsHold_nil Tryz.ChiefOne.r69
    ·
      obtain ⟨d4, e4, g4, o4⟩ := ex_add x2 (1 : Int)
      obtain ⟨d5, e5, g5, o5⟩ := ex_add x0 (11 : Int)
      exact NdGood.next (E := (Tryz.Es Tryz.m4 (syOf Tryz.ChiefOne.t70))) (extras := [(.int .i64 d4), (.int .i64 d5)]) (rows := []) (vals' := [(.int .i64 x0), (.int .i64 x1), (.int .i64 d4)]) (by omega) (Tryz.right Tryz.m4 (syOf Tryz.ChiefOne.t70) _ W Tryz.mOk4 (symOk_of rfl ⟨hold_bool (.int _ _) (.atom _ _ rfl) (op_lss_t (by first | omega | assumption)), hold_bool (.atom _ _ rfl) (.int _ _) (op_gtr_f (by first | omega | assumption)), hold_op (.atom _ _ rfl) (.int _ _) o4 (.atom _ _ rfl), hold_op (.atom _ _ rfl) (.int _ _) o5 (.atom _ _ rfl), hold_bool (.atom _ _ rfl) (.int _ _) (op_gtr_f (by first | omega | assumption)), hold_bool (.atom _ _ rfl) (.atom _ _ rfl) (op_neq_f (by first | omega | assumption)), hold_bool (.atom _ _ rfl) (.int _ _) (op_gtr_t (by first | omega | assumption)), hold_bool (.atom _ _ rfl) (.int _ _) (op_eql_f (by first | omega | assumption)), trivial⟩)) (Tryz.ChiefOne.k0 _ _) Tryz.ChiefOne.i70 rfl rfl rowsHold_nil Tryz.ChiefOne.r70 rfl rfl (Tryz.ChiefOne.n37 r0 r1 r2 x0 x1 d4 (by first | assumption | (constructor <;> omega) | trivial) (by first | assumption | (constructor <;> omega) | trivial) (by first | assumption | (constructor <;> omega) | trivial) (by first | omega | assumption) (by first | omega | assumption) (by first | omega | assumption))
  ·
    exact NdGood.fin (E := (Tryz.Es Tryz.m4 (syOf Tryz.ChiefOne.t71))) (extras := []) (rows := []) (by omega) (Tryz.right Tryz.m4 (syOf Tryz.ChiefOne.t71) _ W Tryz.mOk4 (symOk_of rfl ⟨hold_bool (.int _ _) (.atom _ _ rfl) (op_lss_f (by first | omega | assumption)), trivial⟩)) (Tryz.ChiefOne.k0 _ _) Tryz.ChiefOne.i71 rfl rfl rowsHold_nil Tryz.ChiefOne.r71
theorem Tryz.ChiefOne.n31 {W : World} {n0 : Int} {n1 : Int} {n2 : Int} (r0 : R64 n0) (r1 : R64 n1) (r2 : R64 n2) (x0 : Int) (x1 : Int) (x2 : Int) (g0x : R64 x0) (g1x : R64 x1) (g2x : R64 x2) (i0 : (x2 = x0 + (10 : Int))) (i1 : (1 ≤ x0 ∧ x0 ≤ 99990)) (i2 : (1 ≤ x1 ∧ x1 ≤ 12)) : NdGood Tryz.prog Tryz.f3 8 (firstHeap 8 Tryz.gsL) W Tryz.ChiefOne.p0 Tryz.ChiefOne.d31 [(.int .i64 x0), (.int .i64 x1), (.int .i64 x2)] := by
  have ⟨gl0, gh0⟩ := g0x
  have ⟨gl1, gh1⟩ := g1x
  have ⟨gl2, gh2⟩ := g2x
  have ⟨rl0, rh0⟩ := r0
  have ⟨rl1, rh1⟩ := r1
  have ⟨rl2, rh2⟩ := r2
  by_cases q1 : (10 : Int) < x1
  ·
    by_cases q2 : (99999 : Int) < x2
    ·
      obtain ⟨d3, e3, g3, o3⟩ := ex_add x0 (10 : Int)
      exact NdGood.fin (E := (Tryz.Es Tryz.m4 (syOf Tryz.ChiefOne.t60))) (extras := [(.int .i64 d3)]) (rows := []) (by omega) (Tryz.right Tryz.m4 (syOf Tryz.ChiefOne.t60) _ W Tryz.mOk4 (symOk_of rfl ⟨hold_bool (.int _ _) (.atom _ _ rfl) (op_lss_t (by first | omega | assumption)), hold_bool (.atom _ _ rfl) (.int _ _) (op_gtr_t (by first | omega | assumption)), hold_op (.atom _ _ rfl) (.int _ _) o3 (.atom _ _ rfl), hold_bool (.atom _ _ rfl) (.int _ _) (op_gtr_t (by first | omega | assumption)), trivial⟩)) (Tryz.ChiefOne.k0 _ _) Tryz.ChiefOne.i60 rfl rfl rowsHold_nil Tryz.ChiefOne.r60
    ·
      obtain ⟨d4, e4, g4, o4⟩ := ex_add x2 (1 : Int)
      obtain ⟨d5, e5, g5, o5⟩ := ex_add x0 (10 : Int)
      exact NdGood.next (E := (Tryz.Es Tryz.m4 (syOf Tryz.ChiefOne.t61))) (extras := [(.int .i64 d4), (.int .i64 d5)]) (rows := []) (vals' := [(.int .i64 x0), (.int .i64 x1), (.int .i64 d4)]) (by omega) (Tryz.right Tryz.m4 (syOf Tryz.ChiefOne.t61) _ W Tryz.mOk4 (symOk_of rfl ⟨hold_bool (.int _ _) (.atom _ _ rfl) (op_lss_t (by first | omega | assumption)), hold_bool (.atom _ _ rfl) (.int _ _) (op_gtr_f (by first | omega | assumption)), hold_op (.atom _ _ rfl) (.int _ _) o4 (.atom _ _ rfl), hold_op (.atom _ _ rfl) (.int _ _) o5 (.atom _ _ rfl), hold_bool (.atom _ _ rfl) (.int _ _) (op_gtr_f (by first | omega | assumption)), hold_bool (.atom _ _ rfl) (.atom _ _ rfl) (op_neq_f (by first | omega | assumption)), hold_bool (.atom _ _ rfl) (.int _ _) (op_gtr_t (by first | omega | assumption)), hold_bool (.atom _ _ rfl) (.int _ _) (op_eql_f (by first | omega | assumption)), trivial⟩)) (Tryz.ChiefOne.k0 _ _) Tryz.ChiefOne.i61 rfl rfl rowsHold_nil Tryz.ChiefOne.r61 rfl rfl (Tryz.ChiefOne.n34 r0 r1 r2 x0 x1 d4 (by first | assumption | (constructor <;> omega) | trivial) (by first | assumption | (constructor <;> omega) | trivial) (by first | assumption | (constructor <;> omega) | trivial) (by first | omega | assumption) (by first | omega | assumption) (by first | omega | assumption))
  ·
    exact NdGood.fin (E := (Tryz.Es Tryz.m4 (syOf Tryz.ChiefOne.t62))) (extras := []) (rows := []) (by omega) (Tryz.right Tryz.m4 (syOf Tryz.ChiefOne.t62) _ W Tryz.mOk4 (symOk_of rfl ⟨hold_bool (.int _ _) (.atom _ _ rfl) (op_lss_f (by first | omega | assumption)), trivial⟩)) (Tryz.ChiefOne.k0 _ _) Tryz.ChiefOne.i62 rfl rfl rowsHold_nil Tryz.ChiefOne.r62
theorem Tryz.ChiefOne.n28 {W : World} {n0 : Int} {n1 : Int} {n2 : Int} (r0 : R64 n0) (r1 : R64 n1) (r2 : R64 n2) (x0 : Int) (x1 : Int) (x2 : Int) (g0x : R64 x0) (g1x : R64 x1) (g2x : R64 x2) (i0 : (x2 = x0 + (9 : Int))) (i1 : (1 ≤ x0 ∧ x0 ≤ 99990)) (i2 : (1 ≤ x1 ∧ x1 ≤ 12)) : NdGood Tryz.prog Tryz.f3 8 (firstHeap 8 Tryz.gsL) W Tryz.ChiefOne.p0 Tryz.ChiefOne.d28 [(.int .i64 x0), (.int .i64 x1), (.int .i64 x2)] := by
  have ⟨gl0, gh0⟩ := g0x
  have ⟨gl1, gh1⟩ := g1x
  have ⟨gl2, gh2⟩ := g2x
  have ⟨rl0, rh0⟩ := r0
  have ⟨rl1, rh1⟩ := r1
  have ⟨rl2, rh2⟩ := r2
  by_cases q1 : (9 : Int) < x1
  ·
    obtain ⟨d2, e2, g2, o2⟩ := ex_add x2 (1 : Int)
    obtain ⟨d3, e3, g3, o3⟩ := ex_add x0 (9 : Int)
    exact NdGood.next (E := (Tryz.Es Tryz.m4 (syOf Tryz.ChiefOne.t54))) (extras := [(.int .i64 d2), (.int .i64 d3)]) (rows := []) (vals' := [(.int .i64 x0), (.int .i64 x1), (.int .i64 d2)]) (by omega) (Tryz.right Tryz.m4 (syOf Tryz.ChiefOne.t54) _ W Tryz.mOk4 (symOk_of rfl ⟨hold_bool (.int _ _) (.atom _ _ rfl) (op_lss_t (by first | omega | assumption)), hold_bool (.atom _ _ rfl) (.int _ _) (op_gtr_f (by first | omega | assumption)), hold_op (.atom _ _ rfl) (.int _ _) o2 (.atom _ _ rfl), hold_op (.atom _ _ rfl) (.int _ _) o3 (.atom _ _ rfl), hold_bool (.atom _ _ rfl) (.int _ _) (op_gtr_f (by first | omega | assumption)), hold_bool (.atom _ _ rfl) (.atom _ _ rfl) (op_neq_f (by first | omega | assumption)), hold_bool (.atom _ _ rfl) (.int _ _) (op_gtr_t (by first | omega | assumption)), hold_bool (.atom _ _ rfl) (.int _ _) (op_eql_f (by first | omega | assumption)), trivial⟩)) (Tryz.ChiefOne.k0 _ _) Tryz.ChiefOne.i54 rfl rfl rowsHold_nil Tryz.ChiefOne.r54 rfl rfl (Tryz.ChiefOne.n31 r0 r1 r2 x0 x1 d2 (by first | assumption | (constructor <;> omega) | trivial) (by first | assumption | (constructor <;> omega) | trivial) (by first | assumption | (constructor <;> omega) | trivial) (by first | omega | assumption) (by first | omega | assumption) (by first | omega | assumption))
  ·
    exact NdGood.fin (E := (Tryz.Es Tryz.m4 (syOf Tryz.ChiefOne.t55))) (extras := []) (rows := []) (by omega) (Tryz.right Tryz.m4 (syOf Tryz.ChiefOne.t55) _ W Tryz.mOk4 (symOk_of rfl ⟨hold_bool (.int _ _) (.atom _ _ rfl) (op_lss_f (by first | omega | assumption)), trivial⟩)) (Tryz.ChiefOne.k0 _ _) Tryz.ChiefOne.i55 rfl rfl rowsHold_nil Tryz.ChiefOne.r55
theorem Tryz.ChiefOne.n25 {W : World} {n0 : Int} {n1 : Int} {n2 : Int} (r0 : R64 n0) (r1 : R64 n1) (r2 : R64 n2) (x0 : Int) (x1 : Int) (x2 : Int) (g0x : R64 x0) (g1x : R64 x1) (g2x : R64 x2) (i0 : (x2 = x0 + (8 : Int))) (i1 : (1 ≤ x0 ∧ x0 ≤ 99990)) (i2 : (1 ≤ x1 ∧ x1 ≤ 12)) : NdGood Tryz.prog Tryz.f3 8 (firstHeap 8 Tryz.gsL) W Tryz.ChiefOne.p0 Tryz.ChiefOne.d25 [(.int .i64 x0), (.int .i64 x1), (.int .i64 x2)] := by
  have ⟨gl0, gh0⟩ := g0x
  have ⟨gl1, gh1⟩ := g1x
  have ⟨gl2, gh2⟩ := g2x
  have ⟨rl0, rh0⟩ := r0
  have ⟨rl1, rh1⟩ := r1
  have ⟨rl2, rh2⟩ := r2
  by_cases q1 : (8 : Int) < x1
  ·
    obtain ⟨d2, e2, g2, o2⟩ := ex_add x2 (1 : Int)
    obtain ⟨d3, e3, g3, o3⟩ := ex_add x0 (8 : Int)
    exact NdGood.next (E := (Tryz.Es Tryz.m4 (syOf Tryz.ChiefOne.t48))) (extras := [(.int .i64 d2), (.int .i64 d3)]) (rows := []) (vals' := [(.int .i64 x0), (.int .i64 x1), (.int .i64 d2)]) (by omega) (Tryz.right Tryz.m4 (syOf Tryz.ChiefOne.t48) _ W Tryz.mOk4 (symOk_of rfl ⟨hold_bool (.int _ _) (.atom _ _ rfl) (op_lss_t (by first | omega | assumption)), hold_bool (.atom _ _ rfl) (.int _ _) (op_gtr_f (by first | omega | assumption)), hold_op (.atom _ _ rfl) (.int _ _) o2 (.atom _ _ rfl), hold_op (.atom _ _ rfl) (.int _ _) o3 (.atom _ _ rfl), hold_bool (.atom _ _ rfl) (.int _ _) (op_gtr_f (by first | omega | assumption)), hold_bool (.atom _ _ rfl) (.atom _ _ rfl) (op_neq_f (by first | omega | assumption)), hold_bool (.atom _ _ rfl) (.int _ _) (op_gtr_t (by first | omega | assumption)), hold_bool (.atom _ _ rfl) (.int _ _) (op_eql_f (by first | omega | assumption)), trivial⟩)) (Tryz.ChiefOne.k0 _ _) Tryz.ChiefOne.i48 rfl rfl rowsHold_nil Tryz.ChiefOne.r48 rfl rfl (Tryz.ChiefOne.n28 r0 r1 r2 x0 x1 d2 (by first | assumption | (constructor <;> omega) | trivial) (by first | assumption | (constructor <;> omega) | trivial) (by first | assumption | (constructor <;> omega) | trivial) (by first | omega | assumption) (by first | omega | assumption) (by first | omega | assumption))
  ·
    exact NdGood.fin (E := (Tryz.Es Tryz.m4 (syOf Tryz.ChiefOne.t49))) (extras := []) (rows := []) (by omega) (Tryz.right Tryz.m4 (syOf Tryz.ChiefOne.t49) _ W Tryz.mOk4 (symOk_of rfl ⟨hold_bool (.int _ _) (.atom _ _ rfl) (op_lss_f (by first | omega | assumption)), trivial⟩)) (Tryz.ChiefOne.k0 _ _) Tryz.ChiefOne.i49 rfl rfl rowsHold_nil Tryz.ChiefOne.r49
theorem Tryz.ChiefOne.n22 {W : World} {n0 : Int} {n1 : Int} {n2 : Int} (r0 : R64 n0) (r1 : R64 n1) (r2 : R64 n2) (x0 : Int) (x1 : Int) (x2 : Int) (g0x : R64 x0) (g1x : R64 x1) (g2x : R64 x2) (i0 : (x2 = x0 + (7 : Int))) (i1 : (1 ≤ x0 ∧ x0 ≤ 99990)) (i2 : (1 ≤ x1 ∧ x1 ≤ 12)) : NdGood Tryz.prog Tryz.f3 8 (firstHeap 8 Tryz.gsL) W Tryz.ChiefOne.p0 Tryz.ChiefOne.d22 [(.int .i64 x0), (.int .i64 x1), (.int .i64 x2)] := by
  have ⟨gl0, gh0⟩ := g0x
  have ⟨gl1, gh1⟩ := g1x
  have ⟨gl2, gh2⟩ := g2x
  have ⟨rl0, rh0⟩ := r0
  have ⟨rl1, rh1⟩ := r1
  have ⟨rl2, rh2⟩ := r2
  by_cases q1 : (7 : Int) < x1
  ·
    obtain ⟨d2, e2, g2, o2⟩ := ex_add x2 (1 : Int)
    obtain ⟨d3, e3, g3, o3⟩ := ex_add x0 (7 : Int)
    exact NdGood.next (E := (Tryz.Es Tryz.m4 (syOf Tryz.ChiefOne.t42))) (extras := [(.int .i64 d2), (.int .i64 d3)]) (rows := []) (vals' := [(.int .i64 x0), (.int .i64 x1), (.int .i64 d2)]) (by omega) (Tryz.right Tryz.m4 (syOf Tryz.ChiefOne.t42) _ W Tryz.mOk4 (symOk_of rfl ⟨hold_bool (.int _ _) (.atom _ _ rfl) (op_lss_t (by first | omega | assumption)), hold_bool (.atom _ _ rfl) (.int _ _) (op_gtr_f (by first | omega | assumption)), hold_op (.atom _ _ rfl) (.int _ _) o2 (.atom _ _ rfl), hold_op (.atom _ _ rfl) (.int _ _) o3 (.atom _ _ rfl), hold_bool (.atom _ _ rfl) (.int _ _) (op_gtr_f (by first | omega | assumption)), hold_bool (.atom _ _ rfl) (.atom _ _ rfl) (op_neq_f (by first | omega | assumption)), hold_bool (.atom _ _ rfl) (.int _ _) (op_gtr_t (by first | omega | assumption)), hold_bool (.atom _ _ rfl) (.int _ _) (op_eql_f (by first | omega | assumption)), trivial⟩)) (Tryz.ChiefOne.k0 _ _) Tryz.ChiefOne.i42 rfl rfl rowsHold_nil Tryz.ChiefOne.r42 rfl rfl (Tryz.ChiefOne.n25 r0 r1 r2 x0 x1 d2 (by first | assumption | (constructor <;> omega) | trivial) (by first | assumption | (constructor <;> omega) | trivial) (by first | assumption | (constructor <;> omega) | trivial) (by first | omega | assumption) (by first | omega | assumption) (by first | omega | assumption))
  ·
    exact NdGood.fin (E := (Tryz.Es Tryz.m4 (syOf Tryz.ChiefOne.t43))) (extras := []) (rows := []) (by omega) (Tryz.right Tryz.m4 (syOf Tryz.ChiefOne.t43) _ W Tryz.mOk4 (symOk_of rfl ⟨hold_bool (.int _ _) (.atom _ _ rfl) (op_lss_f (by first | omega | assumption)), trivial⟩)) (Tryz.ChiefOne.k0 _ _) Tryz.ChiefOne.i43 rfl rfl rowsHold_nil Tryz.ChiefOne.r43
theorem Tryz.ChiefOne.n19 {W : World} {n0 : Int} {n1 : Int} {n2 : Int} (r0 : R64 n0) (r1 : R64 n1) (r2 : R64 n2) (x0 : Int) (x1 : Int) (x2 : Int) (g0x : R64 x0) (g1x : R64 x1) (g2x : R64 x2) (i0 : (x2 = x0 + (6 : Int))) (i1 : (1 ≤ x0 ∧ x0 ≤ 99990)) (i2 : (1 ≤ x1 ∧ x1 ≤ 12)) : NdGood Tryz.prog Tryz.f3 8 (firstHeap 8 Tryz.gsL) W Tryz.ChiefOne.p0 Tryz.ChiefOne.d19 [(.int .i64 x0), (.int .i64 x1), (.int .i64 x2)] := by
  have ⟨gl0, gh0⟩ := g0x
  have ⟨gl1, gh1⟩ := g1x
  have ⟨gl2, gh2⟩ := g2x
  have ⟨rl0, rh0⟩ := r0
  have ⟨rl1, rh1⟩ := r1
  have ⟨rl2, rh2⟩ := r2
  by_cases q1 : (6 : Int) < x1
  ·
    obtain ⟨d2, e2, g2, o2⟩ := ex_add x2 (1 : Int)
    obtain ⟨d3, e3, g3, o3⟩ := ex_add x0 (6 : Int)
    exact NdGood.next (E := (Tryz.Es Tryz.m4 (syOf Tryz.ChiefOne.t36))) (extras := [(.int .i64 d2), (.int .i64 d3)]) (rows := []) (vals' := [(.int .i64 x0), (.int .i64 x1), (.int .i64 d2)]) (by omega) (Tryz.right Tryz.m4 (syOf Tryz.ChiefOne.t36) _ W Tryz.mOk4 (symOk_of rfl ⟨hold_bool (.int _ _) (.atom _ _ rfl) (op_lss_t (by first | omega | assumption)), hold_bool (.atom _ _ rfl) (.int _ _) (op_gtr_f (by first | omega | assumption)), hold_op (.atom _ _ rfl) (.int _ _) o2 (.atom _ _ rfl), hold_op (.atom _ _ rfl) (.int _ _) o3 (.atom _ _ rfl), hold_bool (.atom _ _ rfl) (.int _ _) (op_gtr_f (by first | omega | assumption)), hold_bool (.atom _ _ rfl) (.atom _ _ rfl) (op_neq_f (by first | omega | assumption)), hold_bool (.atom _ _ rfl) (.int _ _) (op_gtr_t (by first | omega | assumption)), hold_bool (.atom _ _ rfl) (.int _ _) (op_eql_f (by first | omega | assumption)), trivial⟩)) (Tryz.ChiefOne.k0 _ _) Tryz.ChiefOne.i36 rfl rfl rowsHold_nil Tryz.ChiefOne.r36 rfl rfl (Tryz.ChiefOne.n22 r0 r1 r2 x0 x1 d2 (by first | assumption | (constructor <;> omega) | trivial) (by first | assumption | (constructor <;> omega) | trivial) (by first | assumption | (constructor <;> omega) | trivial) (by first | omega | assumption) (by first | omega | assumption) (by first | omega | assumption))
  ·
    exact NdGood.fin (E := (Tryz.Es Tryz.m4 (syOf Tryz.ChiefOne.t37))) (extras := []) (rows := []) (by omega) (Tryz.right Tryz.m4 (syOf Tryz.ChiefOne.t37) _ W Tryz.mOk4 (symOk_of rfl ⟨hold_bool (.int _ _) (.atom _ _ rfl) (op_lss_f (by first | omega | assumption)), trivial⟩)) (Tryz.ChiefOne.k0 _ _) Tryz.ChiefOne.i37 rfl rfl rowsHold_nil Tryz.ChiefOne.r37
theorem Tryz.ChiefOne.n16 {W : World} {n0 : Int} {n1 : Int} {n2 : Int} (r0 : R64 n0) (r1 : R64 n1) (r2 : R64 n2) (x0 : Int) (x1 : Int) (x2 : Int) (g0x : R64 x0) (g1x : R64 x1) (g2x : R64 x2) (i0 : (x2 = x0 + (5 : Int))) (i1 : (1 ≤ x0 ∧ x0 ≤ 99990)) (i2 : (1 ≤ x1 ∧ x1 ≤ 12)) : NdGood Tryz.prog Tryz.f3 8 (firstHeap 8 Tryz.gsL) W Tryz.ChiefOne.p0 Tryz.ChiefOne.d16 [(.int .i64 x0), (.int .i64 x1), (.int .i64 x2)] := by
  have ⟨gl0, gh0⟩ := g0x
  have ⟨gl1, gh1⟩ := g1x
  have ⟨gl2, gh2⟩ := g2x
  have ⟨rl0, rh0⟩ := r0
  have ⟨rl1, rh1⟩ := r1
  have ⟨rl2, rh2⟩ := r2
  by_cases q1 : (5 : Int) < x1
  ·
    obtain ⟨d2, e2, g2, o2⟩ := ex_add x2 (1 : Int)
    obtain ⟨d3, e3, g3, o3⟩ := ex_add x0 (5 : Int)
    exact NdGood.next (E := (Tryz.Es Tryz.m4 (syOf Tryz.ChiefOne.t30))) (extras := [(.int .i64 d2), (.int .i64 d3)]) (rows := []) (vals' := [(.int .i64 x0), (.int .i64 x1), (.int .i64 d2)]) (by omega) (Tryz.right Tryz.m4 (syOf Tryz.ChiefOne.t30) _ W Tryz.mOk4 (symOk_of rfl ⟨hold_bool (.int _ _) (.atom _ _ rfl) (op_lss_t (by first | omega | assumption)), hold_bool (.atom _ _ rfl) (.int _ _) (op_gtr_f (by first | omega | assumption)), hold_op (.atom _ _ rfl) (.int _ _) o2 (.atom _ _ rfl), hold_op (.atom _ _ rfl) (.int _ _) o3 (.atom _ _ rfl), hold_bool (.atom _ _ rfl) (.int _ _) (op_gtr_f (by first | omega | assumption)), hold_bool (.atom _ _ rfl) (.atom _ _ rfl) (op_neq_f (by first | omega | assumption)), hold_bool (.atom _ _ rfl) (.int _ _) (op_gtr_t (by first | omega | assumption)), hold_bool (.atom _ _ rfl) (.int _ _) (op_eql_f (by first | omega | assumption)), trivial⟩)) (Tryz.ChiefOne.k0 _ _) Tryz.ChiefOne.i30 rfl rfl rowsHold_nil Tryz.ChiefOne.r30 rfl rfl (Tryz.ChiefOne.n19 r0 r1 r2 x0 x1 d2 (by first | assumption | (constructor <;> omega) | trivial) (by first | assumption | (constructor <;> omega) | trivial) (by first | assumption | (constructor <;> omega) | trivial) (by first | omega | assumption) (by first | omega | assumption) (by first | omega | assumption))
  ·
    exact NdGood.fin (E := (Tryz.Es Tryz.m4 (syOf Tryz.ChiefOne.t31))) (extras := []) (rows := []) (by omega) (Tryz.right Tryz.m4 (syOf Tryz.ChiefOne.t31) _ W Tryz.mOk4 (symOk_of rfl ⟨hold_bool (.int _ _) (.atom _ _ rfl) (op_lss_f (by first | omega | assumption)), trivial⟩)) (Tryz.ChiefOne.k0 _ _) Tryz.ChiefOne.i31 rfl rfl rowsHold_nil Tryz.ChiefOne.r31
theorem Tryz.ChiefOne.n13 {W : World} {n0 : Int} {n1 : Int} {n2 : Int} (r0 : R64 n0) (r1 : R64 n1) (r2 : R64 n2) (x0 : Int) (x1 : Int) (x2 : Int) (g0x : R64 x0) (g1x : R64 x1) (g2x : R64 x2) (i0 : (x2 = x0 + (4 : Int))) (i1 : (1 ≤ x0 ∧ x0 ≤ 99990)) (i2 : (1 ≤ x1 ∧ x1 ≤ 12)) : NdGood Tryz.prog Tryz.f3 8 (firstHeap 8 Tryz.gsL) W Tryz.ChiefOne.p0 Tryz.ChiefOne.d13 [(.int .i64 x0), (.int .i64 x1), (.int .i64 x2)] := by
  have ⟨gl0, gh0⟩ := g0x
  have ⟨gl1, gh1⟩ := g1x
  have ⟨gl2, gh2⟩ := g2x
  have ⟨rl0, rh0⟩ := r0
  have ⟨rl1, rh1⟩ := r1
  have ⟨rl2, rh2⟩ := r2
  by_cases q1 : (4 : Int) < x1
  ·
    obtain ⟨d2, e2, g2, o2⟩ := ex_add x2 (1 : Int)
    obtain ⟨d3, e3, g3, o3⟩ := ex_add x0 (4 : Int)
    exact NdGood.next (E := (Tryz.Es Tryz.m4 (syOf Tryz.ChiefOne.t24))) (extras := [(.int .i64 d2), (.int .i64 d3)]) (rows := []) (vals' := [(.int .i64 x0), (.int .i64 x1), (.int .i64 d2)]) (by omega) (Tryz.right Tryz.m4 (syOf Tryz.ChiefOne.t24) _ W Tryz.mOk4 (symOk_of rfl ⟨hold_bool (.int _ _) (.atom _ _ rfl) (op_lss_t (by first | omega | assumption)), hold_bool (.atom _ _ rfl) (.int _ _) (op_gtr_f (by first | omega | assumption)), hold_op (.atom _ _ rfl) (.int _ _) o2 (.atom _ _ rfl), hold_op (.atom _ _ rfl) (.int _ _) o3 (.atom _ _ rfl), hold_bool (.atom _ _ rfl) (.int _ _) (op_gtr_f (by first | omega | assumption)), hold_bool (.atom _ _ rfl) (.atom _ _ rfl) (op_neq_f (by first | omega | assumption)), hold_bool (.atom _ _ rfl) (.int _ _) (op_gtr_t (by first | omega | assumption)), hold_bool (.atom _ _ rfl) (.int _ _) (op_eql_f (by first | omega | assumption)), trivial⟩)) (Tryz.ChiefOne.k0 _ _) Tryz.ChiefOne.i24 rfl rfl rowsHold_nil Tryz.ChiefOne.r24 rfl rfl (Tryz.ChiefOne.n16 r0 r1 r2 x0 x1 d2 (by first | assumption | (constructor <;> omega) | trivial) (by first | assumption | (constructor <;> omega) | trivial) (by first | assumption | (constructor <;> omega) | trivial) (by first | omega | assumption) (by first | omega | assumption) (by first | omega | assumption))
  ·
    exact NdGood.fin (E := (Tryz.Es Tryz.m4 (syOf Tryz.ChiefOne.t25))) (extras := []) (rows := []) (by omega) (Tryz.right Tryz.m4 (syOf Tryz.ChiefOne.t25) _ W Tryz.mOk4 (symOk_of rfl ⟨hold_bool (.int _ _) (.atom _ _ rfl) (op_lss_f (by first | omega | assumption)), trivial⟩)) (Tryz.ChiefOne.k0 _ _) Tryz.ChiefOne.i25 rfl rfl rowsHold_nil Tryz.ChiefOne.r25
theorem Tryz.ChiefOne.n10 {W : World} {n0 : Int} {n1 : Int} {n2 : Int} (r0 : R64 n0) (r1 : R64 n1) (r2 : R64 n2) (x0 : Int) (x1 : Int) (x2 : Int) (g0x : R64 x0) (g1x : R64 x1) (g2x : R64 x2) (i0 : (x2 = x0 + (3 : Int))) (i1 : (1 ≤ x0 ∧ x0 ≤ 99990)) (i2 : (1 ≤ x1 ∧ x1 ≤ 12)) : NdGood Tryz.prog Tryz.f3 8 (firstHeap 8 Tryz.gsL) W Tryz.ChiefOne.p0 Tryz.ChiefOne.d10 [(.int .i64 x0), (.int .i64 x1), (.int .i64 x2)] := by
  have ⟨gl0, gh0⟩ := g0x
  have ⟨gl1, gh1⟩ := g1x
  have ⟨gl2, gh2⟩ := g2x
  have ⟨rl0, rh0⟩ := r0
  have ⟨rl1, rh1⟩ := r1
  have ⟨rl2, rh2⟩ := r2
  by_cases q1 : (3 : Int) < x1
  ·
    obtain ⟨d2, e2, g2, o2⟩ := ex_add x2 (1 : Int)
    obtain ⟨d3, e3, g3, o3⟩ := ex_add x0 (3 : Int)
    exact NdGood.next (E := (Tryz.Es Tryz.m4 (syOf Tryz.ChiefOne.t18))) (extras := [(.int .i64 d2), (.int .i64 d3)]) (rows := []) (vals' := [(.int .i64 x0), (.int .i64 x1), (.int .i64 d2)]) (by omega) (Tryz.right Tryz.m4 (syOf Tryz.ChiefOne.t18) _ W Tryz.mOk4 (symOk_of rfl ⟨hold_bool (.int _ _) (.atom _ _ rfl) (op_lss_t (by first | omega | assumption)), hold_bool (.atom _ _ rfl) (.int _ _) (op_gtr_f (by first | omega | assumption)), hold_op (.atom _ _ rfl) (.int _ _) o2 (.atom _ _ rfl), hold_op (.atom _ _ rfl) (.int _ _) o3 (.atom _ _ rfl), hold_bool (.atom _ _ rfl) (.int _ _) (op_gtr_f (by first | omega | assumption)), hold_bool (.atom _ _ rfl) (.atom _ _ rfl) (op_neq_f (by first | omega | assumption)), hold_bool (.atom _ _ rfl) (.int _ _) (op_gtr_t (by first | omega | assumption)), hold_bool (.atom _ _ rfl) (.int _ _) (op_eql_f (by first | omega | assumption)), trivial⟩)) (Tryz.ChiefOne.k0 _ _) Tryz.ChiefOne.i18 rfl rfl rowsHold_nil Tryz.ChiefOne.r18 rfl rfl (Tryz.ChiefOne.n13 r0 r1 r2 x0 x1 d2 (by first | assumption | (constructor <;> omega) | trivial) (by first | assumption | (constructor <;> omega) | trivial) (by first | assumption | (constructor <;> omega) | trivial) (by first | omega | assumption) (by first | omega | assumption) (by first | omega | assumption))
  ·
    exact NdGood.fin (E := (Tryz.Es Tryz.m4 (syOf Tryz.ChiefOne.t19))) (extras := []) (rows := []) (by omega) (Tryz.right Tryz.m4 (syOf Tryz.ChiefOne.t19) _ W Tryz.mOk4 (symOk_of rfl ⟨hold_bool (.int _ _) (.atom _ _ rfl) (op_lss_f (by first | omega | assumption)), trivial⟩)) (Tryz.ChiefOne.k0 _ _) Tryz.ChiefOne.i19 rfl rfl rowsHold_nil Tryz.ChiefOne.r19
theorem Tryz.ChiefOne.n7 {W : World} {n0 : Int} {n1 : Int} {n2 : Int} (r0 : R64 n0) (r1 : R64 n1) (r2 : R64 n2) (x0 : Int) (x1 : Int) (x2 : Int) (g0x : R64 x0) (g1x : R64 x1) (g2x : R64 x2) (i0 : (x2 = x0 + (2 : Int))) (i1 : (1 ≤ x0 ∧ x0 ≤ 99990)) (i2 : (1 ≤ x1 ∧ x1 ≤ 12)) : NdGood Tryz.prog Tryz.f3 8 (firstHeap 8 Tryz.gsL) W Tryz.ChiefOne.p0 Tryz.ChiefOne.d7 [(.int .i64 x0), (.int .i64 x1), (.int .i64 x2)] := by
  have ⟨gl0, gh0⟩ := g0x
  have ⟨gl1, gh1⟩ := g1x
  have ⟨gl2, gh2⟩ := g2x
  have ⟨rl0, rh0⟩ := r0
  have ⟨rl1, rh1⟩ := r1
  have ⟨rl2, rh2⟩ := r2
  by_cases q1 : (2 : Int) < x1
  ·
    obtain ⟨d2, e2, g2, o2⟩ := ex_add x2 (1 : Int)
    obtain ⟨d3, e3, g3, o3⟩ := ex_add x0 (2 : Int)
    exact NdGood.next (E := (Tryz.Es Tryz.m4 (syOf Tryz.ChiefOne.t12))) (extras := [(.int .i64 d2), (.int .i64 d3)]) (rows := []) (vals' := [(.int .i64 x0), (.int .i64 x1), (.int .i64 d2)]) (by omega) (Tryz.right Tryz.m4 (syOf Tryz.ChiefOne.t12) _ W Tryz.mOk4 (symOk_of rfl ⟨hold_bool (.int _ _) (.atom _ _ rfl) (op_lss_t (by first | omega | assumption)), hold_bool (.atom _ _ rfl) (.int _ _) (op_gtr_f (by first | omega | assumption)), hold_op (.atom _ _ rfl) (.int _ _) o2 (.atom _ _ rfl), hold_op (.atom _ _ rfl) (.int _ _) o3 (.atom _ _ rfl), hold_bool (.atom _ _ rfl) (.int _ _) (op_gtr_f (by first | omega | assumption)), hold_bool (.atom _ _ rfl) (.atom _ _ rfl) (op_neq_f (by first | omega | assumption)), hold_bool (.atom _ _ rfl) (.int _ _) (op_gtr_t (by first | omega | assumption)), hold_bool (.atom _ _ rfl) (.int _ _) (op_eql_f (by first | omega | assumption)), trivial⟩)) (Tryz.ChiefOne.k0 _ _) Tryz.ChiefOne.i12 rfl rfl rowsHold_nil Tryz.ChiefOne.r12 rfl rfl (Tryz.ChiefOne.n10 r0 r1 r2 x0 x1 d2 (by first | assumption | (constructor <;> omega) | trivial) (by first | assumption | (constructor <;> omega) | trivial) (by first | assumption | (constructor <;> omega) | trivial) (by first | omega | assumption) (by first | omega | assumption) (by first | omega | assumption))
  ·
    exact NdGood.fin (E := (Tryz.Es Tryz.m4 (syOf Tryz.ChiefOne.t13))) (extras := []) (rows := []) (by omega) (Tryz.right Tryz.m4 (syOf Tryz.ChiefOne.t13) _ W Tryz.mOk4 (symOk_of rfl ⟨hold_bool (.int _ _) (.atom _ _ rfl) (op_lss_f (by first | omega | assumption)), trivial⟩)) (Tryz.ChiefOne.k0 _ _) Tryz.ChiefOne.i13 rfl rfl rowsHold_nil Tryz.ChiefOne.r13
theorem Tryz.ChiefOne.n4 {W : World} {n0 : Int} {n1 : Int} {n2 : Int} (r0 : R64 n0) (r1 : R64 n1) (r2 : R64 n2) (x0 : Int) (x1 : Int) (x2 : Int) (g0x : R64 x0) (g1x : R64 x1) (g2x : R64 x2) (i0 : (x2 = x0 + (1 : Int))) (i1 : (1 ≤ x0 ∧ x0 ≤ 99990)) (i2 : (1 ≤ x1 ∧ x1 ≤ 12)) : NdGood Tryz.prog Tryz.f3 8 (firstHeap 8 Tryz.gsL) W Tryz.ChiefOne.p0 Tryz.ChiefOne.d4 [(.int .i64 x0), (.int .i64 x1), (.int .i64 x2)] := by
  have ⟨gl0, gh0⟩ := g0x
  have ⟨gl1, gh1⟩ := g1x
  have ⟨gl2, gh2⟩ := g2x
  have ⟨rl0, rh0⟩ := r0
  have ⟨rl1, rh1⟩ := r1
  have ⟨rl2, rh2⟩ := r2
  by_cases q1 : (1 : Int) < x1
  ·
    obtain ⟨d2, e2, g2, o2⟩ := ex_add x2 (1 : Int)
    obtain ⟨d3, e3, g3, o3⟩ := ex_add x0 (1 : Int)
    exact NdGood.next (E := (Tryz.Es Tryz.m4 (syOf Tryz.ChiefOne.t6))) (extras := [(.int .i64 d2), (.int .i64 d3)]) (rows := []) (vals' := [(.int .i64 x0), (.int .i64 x1), (.int .i64 d2)]) (by omega) (Tryz.right Tryz.m4 (syOf Tryz.ChiefOne.t6) _ W Tryz.mOk4 (symOk_of rfl ⟨hold_bool (.int _ _) (.atom _ _ rfl) (op_lss_t (by first | omega | assumption)), hold_bool (.atom _ _ rfl) (.int _ _) (op_gtr_f (by first | omega | assumption)), hold_op (.atom _ _ rfl) (.int _ _) o2 (.atom _ _ rfl), hold_op (.atom _ _ rfl) (.int _ _) o3 (.atom _ _ rfl), hold_bool (.atom _ _ rfl) (.int _ _) (op_gtr_f (by first | omega | assumption)), hold_bool (.atom _ _ rfl) (.atom _ _ rfl) (op_neq_f (by first | omega | assumption)), hold_bool (.atom _ _ rfl) (.int _ _) (op_gtr_t (by first | omega | assumption)), hold_bool (.atom _ _ rfl) (.int _ _) (op_eql_f (by first | omega | assumption)), trivial⟩)) (Tryz.ChiefOne.k0 _ _) Tryz.ChiefOne.i6 rfl rfl rowsHold_nil Tryz.ChiefOne.r6 rfl rfl (Tryz.ChiefOne.n7 r0 r1 r2 x0 x1 d2 (by first | assumption | (constructor <;> omega) | trivial) (by first | assumption | (constructor <;> omega) | trivial) (by first | assumption | (constructor <;> omega) | trivial) (by first | omega | assumption) (by first | omega | assumption) (by first | omega | assumption))
  ·
    exact NdGood.fin (E := (Tryz.Es Tryz.m4 (syOf Tryz.ChiefOne.t7))) (extras := []) (rows := []) (by omega) (Tryz.right Tryz.m4 (syOf Tryz.ChiefOne.t7) _ W Tryz.mOk4 (symOk_of rfl ⟨hold_bool (.int _ _) (.atom _ _ rfl) (op_lss_f (by first | omega | assumption)), trivial⟩)) (Tryz.ChiefOne.k0 _ _) Tryz.ChiefOne.i7 rfl rfl rowsHold_nil Tryz.ChiefOne.r7
theorem Tryz.ChiefOne.n1 {W : World} {n0 : Int} {n1 : Int} {n2 : Int} (r0 : R64 n0) (r1 : R64 n1) (r2 : R64 n2) (x0 : Int) (x1 : Int) (g0x : R64 x0) (g1x : R64 x1) (i0 : (x0 = x0 + (0 : Int))) (i1 : (1 ≤ x0 ∧ x0 ≤ 99990)) (i2 : (1 ≤ x1 ∧ x1 ≤ 12)) : NdGood Tryz.prog Tryz.f3 8 (firstHeap 8 Tryz.gsL) W Tryz.ChiefOne.p0 Tryz.ChiefOne.d1 [(.int .i64 x0), (.int .i64 x1)] := by
  have ⟨gl0, gh0⟩ := g0x
  have ⟨gl1, gh1⟩ := g1x
  have ⟨rl0, rh0⟩ := r0
  have ⟨rl1, rh1⟩ := r1
  have ⟨rl2, rh2⟩ := r2
  obtain ⟨d1, e1, g1, o1⟩ := ex_add x0 (1 : Int)
  obtain ⟨d2, e2, g2, o2⟩ := ex_add x0 (0 : Int)
  exact NdGood.next (E := (Tryz.Es Tryz.m4 (syOf Tryz.ChiefOne.t3))) (extras := [(.int .i64 d1), (.int .i64 d2)]) (rows := []) (vals' := [(.int .i64 x0), (.int .i64 x1), (.int .i64 d1)]) (by omega) (Tryz.right Tryz.m4 (syOf Tryz.ChiefOne.t3) _ W Tryz.mOk4 (symOk_of rfl ⟨hold_bool (.int _ _) (.atom _ _ rfl) (op_lss_t (by first | omega | assumption)), hold_bool (.atom _ _ rfl) (.int _ _) (op_gtr_f (by first | omega | assumption)), hold_op (.atom _ _ rfl) (.int _ _) o1 (.atom _ _ rfl), hold_op (.atom _ _ rfl) (.int _ _) o2 (.atom _ _ rfl), hold_bool (.atom _ _ rfl) (.int _ _) (op_gtr_f (by first | omega | assumption)), hold_bool (.atom _ _ rfl) (.atom _ _ rfl) (op_neq_f (by first | omega | assumption)), hold_bool (.atom _ _ rfl) (.int _ _) (op_gtr_t (by first | omega | assumption)), hold_bool (.atom _ _ rfl) (.int _ _) (op_eql_f (by first | omega | assumption)), trivial⟩)) (Tryz.ChiefOne.k0 _ _) Tryz.ChiefOne.i3 rfl rfl rowsHold_nil Tryz.ChiefOne.r3 rfl rfl (Tryz.ChiefOne.n4 r0 r1 r2 x0 x1 d1 (by first | assumption | (constructor <;> omega) | trivial) (by first | assumption | (constructor <;> omega) | trivial) (by first | assumption | (constructor <;> omega) | trivial) (by first | omega | assumption) (by first | omega | assumption) (by first | omega | assumption))
theorem Tryz.ChiefOne.n38 {W : World} {n0 : Int} {n1 : Int} {n2 : Int} (r0 : R64 n0) (r1 : R64 n1) (r2 : R64 n2) (x0 : Int) (x1 : Int) (x2 : Int) (g0x : R64 x0) (g1x : R64 x1) (g2x : R64 x2) (i0 : (x2 = x0 + (12 : Int))) (i1 : (1 ≤ x0 ∧ x0 ≤ 99990)) (i2 : (1 ≤ x1 ∧ x1 ≤ 12)) : NdGood Tryz.prog Tryz.f3 8 (firstHeap 8 Tryz.gsL) W Tryz.ChiefOne.p0 Tryz.ChiefOne.d38 [(.int .i64 x0), (.int .i64 x1), (.int .i64 x2)] := by
  have ⟨gl0, gh0⟩ := g0x
  have ⟨gl1, gh1⟩ := g1x
  have ⟨gl2, gh2⟩ := g2x
  have ⟨rl0, rh0⟩ := r0
  have ⟨rl1, rh1⟩ := r1
  have ⟨rl2, rh2⟩ := r2
  exact NdGood.fin (E := (Tryz.Es Tryz.m4 (syOf Tryz.ChiefOne.t79))) (extras := []) (rows := []) (by omega) (Tryz.right Tryz.m4 (syOf Tryz.ChiefOne.t79) _ W Tryz.mOk4 (symOk_of rfl ⟨hold_bool (.int _ _) (.atom _ _ rfl) (op_lss_f (by first | omega | assumption)), trivial⟩)) (Tryz.ChiefOne.k0 _ _) Tryz.ChiefOne.i79 rfl rfl rowsHold_nil Tryz.ChiefOne.r79
theorem Tryz.ChiefOne.n35 {W : World} {n0 : Int} {n1 : Int} {n2 : Int} (r0 : R64 n0) (r1 : R64 n1) (r2 : R64 n2) (x0 : Int) (x1 : Int) (x2 : Int) (g0x : R64 x0) (g1x : R64 x1) (g2x : R64 x2) (i0 : (x2 = x0 + (11 : Int))) (i1 : (1 ≤ x0 ∧ x0 ≤ 99990)) (i2 : (1 ≤ x1 ∧ x1 ≤ 12)) : NdGood Tryz.prog Tryz.f3 8 (firstHeap 8 Tryz.gsL) W Tryz.ChiefOne.p0 Tryz.ChiefOne.d35 [(.int .i64 x0), (.int .i64 x1), (.int .i64 x2)] := by
  have ⟨gl0, gh0⟩ := g0x
  have ⟨gl1, gh1⟩ := g1x
  have ⟨gl2, gh2⟩ := g2x
  have ⟨rl0, rh0⟩ := r0
  have ⟨rl1, rh1⟩ := r1
  have ⟨rl2, rh2⟩ := r2
  by_cases q1 : (11 : Int) < x1
  ·
    by_cases q2 : (99999 : Int) < x2
    ·
      obtain ⟨d3, e3, g3, o3⟩ := ex_add x0 (11 : Int)
      exact NdGood.fin (E := (Tryz.Es Tryz.m4 (syOf Tryz.ChiefOne.t72))) (extras := [(.int .i64 d3)]) (rows := []) (by omega) (Tryz.right Tryz.m4 (syOf Tryz.ChiefOne.t72) _ W Tryz.mOk4 (symOk_of rfl ⟨hold_bool (.int _ _) (.atom _ _ rfl) (op_lss_t (by first | omega | assumption)), hold_bool (.atom _ _ rfl) (.int _ _) (op_gtr_t (by first | omega | assumption)), hold_op (.atom _ _ rfl) (.int _ _) o3 (.atom _ _ rfl), hold_bool (.atom _ _ rfl) (.int _ _) (op_gtr_t (by first | omega | assumption)), trivial⟩)) (Tryz.ChiefOne.k0 _ _) Tryz.ChiefOne.i72 rfl rfl rowsHold_nil Tryz.ChiefOne.r72
    ·
      obtain ⟨d4, e4, g4, o4⟩ := ex_add x2 (1 : Int)
      obtain ⟨d5, e5, g5, o5⟩ := ex_add x0 (11 : Int)
      exact NdGood.next (E := (Tryz.Es Tryz.m4 (syOf Tryz.ChiefOne.t73))) (extras := [(.int .i64 d4), (.int .i64 d5)]) (rows := []) (vals' := [(.int .i64 x0), (.int .i64 x1), (.int .i64 d4)]) (by omega) (Tryz.right Tryz.m4 (syOf Tryz.ChiefOne.t73) _ W Tryz.mOk4 (symOk_of rfl ⟨hold_bool (.int _ _) (.atom _ _ rfl) (op_lss_t (by first | omega | assumption)), hold_bool (.atom _ _ rfl) (.int _ _) (op_gtr_f (by first | omega | assumption)), hold_op (.atom _ _ rfl) (.int _ _) o4 (.atom _ _ rfl), hold_op (.atom _ _ rfl) (.int _ _) o5 (.atom _ _ rfl), hold_bool (.atom _ _ rfl) (.int _ _) (op_gtr_f (by first | omega | assumption)), hold_bool (.atom _ _ rfl) (.atom _ _ rfl) (op_neq_f (by first | omega | assumption)), hold_bool (.atom _ _ rfl) (.int _ _) (op_gtr_t (by first | omega | assumption)), hold_bool (.atom _ _ rfl) (.int _ _) (op_eql_f (by first | omega | assumption)), trivial⟩)) (Tryz.ChiefOne.k0 _ _) Tryz.ChiefOne.i73 rfl rfl rowsHold_nil Tryz.ChiefOne.r73 rfl rfl (Tryz.ChiefOne.n38 r0 r1 r2 x0 x1 d4 (by first | assumption | (constructor <;> omega) | trivial) (by first | assumption | (constructor <;> omega) | trivial) (by first | assumption | (constructor <;> omega) | trivial) (by first | omega | assumption) (by first | omega | assumption) (by first | omega | assumption))
  ·
    exact NdGood.fin (E := (Tryz.Es Tryz.m4 (syOf Tryz.ChiefOne.t74))) (extras := []) (rows := []) (by omega) (Tryz.right Tryz.m4 (syOf Tryz.ChiefOne.t74) _ W Tryz.mOk4 (symOk_of rfl ⟨hold_bool (.int _ _) (.atom _ _ rfl) (op_lss_f (by first | omega | assumption)), trivial⟩)) (Tryz.ChiefOne.k0 _ _) Tryz.ChiefOne.i74 rfl rfl rowsHold_nil Tryz.ChiefOne.r74
theorem Tryz.ChiefOne.n32 {W : World} {n0 : Int} {n1 : Int} {n2 : Int} (r0 : R64 n0) (r1 : R64 n1) (r2 : R64 n2) (x0 : Int) (x1 : Int) (x2 : Int) (g0x : R64 x0) (g1x : R64 x1) (g2x : R64 x2) (i0 : (x2 = x0 + (10 : Int))) (i1 : (1 ≤ x0 ∧ x0 ≤ 99990)) (i2 : (1 ≤ x1 ∧ x1 ≤ 12)) : NdGood Tryz.prog Tryz.f3 8 (firstHeap 8 Tryz.gsL) W Tryz.ChiefOne.p0 Tryz.ChiefOne.d32 [(.int .i64 x0), (.int .i64 x1), (.int .i64 x2)] := by
  have ⟨gl0, gh0⟩ := g0x
  have ⟨gl1, gh1⟩ := g1x
  have ⟨gl2, gh2⟩ := g2x
  have ⟨rl0, rh0⟩ := r0
  have ⟨rl1, rh1⟩ := r1
  have ⟨rl2, rh2⟩ := r2
  by_cases q1 : (10 : Int) < x1
  ·
    by_cases q2 : (99999 : Int) < x2
    ·
      obtain ⟨d3, e3, g3, o3⟩ := ex_add x0 (10 : Int)
      exact NdGood.fin (E := (Tryz.Es Tryz.m4 (syOf Tryz.ChiefOne.t63))) (extras := [(.int .i64 d3)]) (rows := []) (by omega) (Tryz.right Tryz.m4 (syOf Tryz.ChiefOne.t63) _ W Tryz.mOk4 (symOk_of rfl ⟨hold_bool (.int _ _) (.atom _ _ rfl) (op_lss_t (by first | omega | assumption)), hold_bool (.atom _ _ rfl) (.int _ _) (op_gtr_t (by first | omega | assumption)), hold_op (.atom _ _ rfl) (.int _ _) o3 (.atom _ _ rfl), hold_bool (.atom _ _ rfl) (.int _ _) (op_gtr_t (by first | omega | assumption)), trivial⟩)) (Tryz.ChiefOne.k0 _ _) Tryz.ChiefOne.i63 rfl rfl rowsHold_nil Tryz.ChiefOne.r63
    ·
      obtain ⟨d4, e4, g4, o4⟩ := ex_add x2 (1 : Int)
      obtain ⟨d5, e5, g5, o5⟩ := ex_add x0 (10 : Int)
      exact NdGood.next (E := (Tryz.Es Tryz.m4 (syOf Tryz.ChiefOne.t64))) (extras := [(.int .i64 d4), (.int .i64 d5)]) (rows := []) (vals' := [(.int .i64 x0), (.int .i64 x1), (.int .i64 d4)]) (by omega) (Tryz.right Tryz.m4 (syOf Tryz.ChiefOne.t64) _ W Tryz.mOk4 (symOk_of rfl ⟨hold_bool (.int _ _) (.atom _ _ rfl) (op_lss_t (by first | omega | assumption)), hold_bool (.atom _ _ rfl) (.int _ _) (op_gtr_f (by first | omega | assumption)), hold_op (.atom _ _ rfl) (.int _ _) o4 (.atom _ _ rfl), hold_op (.atom _ _ rfl) (.int _ _) o5 (.atom _ _ rfl), hold_bool (.atom _ _ rfl) (.int _ _) (op_gtr_f (by first | omega | assumption)), hold_bool (.atom _ _ rfl) (.atom _ _ rfl) (op_neq_f (by first | omega | assumption)), hold_bool (.atom _ _ rfl) (.int _ _) (op_gtr_t (by first | omega | assumption)), hold_bool (.atom _ _ rfl) (.int _ _) (op_eql_f (by first | omega | assumption)), trivial⟩)) (Tryz.ChiefOne.k0 _ _) Tryz.ChiefOne.i64 rfl rfl rowsHold_nil Tryz.ChiefOne.r64 rfl rfl (Tryz.ChiefOne.n35 r0 r1 r2 x0 x1 d4 (by first | assumption | (constructor <;> omega) | trivial) (by first | assumption | (constructor <;> omega) | trivial) (by first | assumption | (constructor <;> omega) | trivial) (by first | omega | assumption) (by first | omega | assumption) (by first | omega | assumption))
  ·
    exact NdGood.fin (E := (Tryz.Es Tryz.m4 (syOf Tryz.ChiefOne.t65))) (extras := []) (rows := []) (by omega) (Tryz.right Tryz.m4 (syOf Tryz.ChiefOne.t65) _ W Tryz.mOk4 (symOk_of rfl ⟨hold_bool (.int _ _) (.atom _ _ rfl) (op_lss_f (by first | omega | assumption)), trivial⟩)) (Tryz.ChiefOne.k0 _ _) Tryz.ChiefOne.i65 rfl rfl rowsHold_nil Tryz.ChiefOne.r65
theorem Tryz.ChiefOne.n29 {W : World} {n0 : Int} {n1 : Int} {n2 : Int} (r0 : R64 n0) (r1 : R64 n1) (r2 : R64 n2) (x0 : Int) (x1 : Int) (x2 : Int) (g0x : R64 x0) (g1x : R64 x1) (g2x : R64 x2) (i0 : (x2 = x0 + (9 : Int))) (i1 : (1 ≤ x0 ∧ x0 ≤ 99990)) (i2 : (1 ≤ x1 ∧ x1 ≤ 12)) : NdGood Tryz.prog Tryz.f3 8 (firstHeap 8 Tryz.gsL) W Tryz.ChiefOne.p0 Tryz.ChiefOne.d29 [(.int .i64 x0), (.int .i64 x1), (.int .i64 x2)] := by
  have ⟨gl0, gh0⟩ := g0x
  have ⟨gl1, gh1⟩ := g1x
  have ⟨gl2, gh2⟩ := g2x
  have ⟨rl0, rh0⟩ := r0
  have ⟨rl1, rh1⟩ := r1
  have ⟨rl2, rh2⟩ := r2
  by_cases q1 : (9 : Int) < x1
  ·
    obtain ⟨d2, e2, g2, o2⟩ := ex_add x2 (1 : Int)
    obtain ⟨d3, e3, g3, o3⟩ := ex_add x0 (9 : Int)
    exact NdGood.next (E := (Tryz.Es Tryz.m4 (syOf Tryz.ChiefOne.t56))) (extras := [(.int .i64 d2), (.int .i64 d3)]) (rows := []) (vals' := [(.int .i64 x0), (.int .i64 x1), (.int .i64 d2)]) (by omega) (Tryz.right Tryz.m4 (syOf Tryz.ChiefOne.t56) _ W Tryz.mOk4 (symOk_of rfl ⟨hold_bool (.int _ _) (.atom _ _ rfl) (op_lss_t (by first | omega | assumption)), hold_bool (.atom _ _ rfl) (.int _ _) (op_gtr_f (by first | omega | assumption)), hold_op (.atom _ _ rfl) (.int _ _) o2 (.atom _ _ rfl), hold_op (.atom _ _ rfl) (.int _ _) o3 (.atom _ _ rfl), hold_bool (.atom _ _ rfl) (.int _ _) (op_gtr_f (by first | omega | assumption)), hold_bool (.atom _ _ rfl) (.atom _ _ rfl) (op_neq_f (by first | omega | assumption)), hold_bool (.atom _ _ rfl) (.int _ _) (op_gtr_t (by first | omega | assumption)), hold_bool (.atom _ _ rfl) (.int _ _) (op_eql_f (by first | omega | assumption)), trivial⟩)) (Tryz.ChiefOne.k0 _ _) Tryz.ChiefOne.i56 rfl rfl rowsHold_nil Tryz.ChiefOne.r56 rfl rfl (Tryz.ChiefOne.n32 r0 r1 r2 x0 x1 d2 (by first | assumption | (constructor <;> omega) | trivial) (by first | assumption | (constructor <;> omega) | trivial) (by first | assumption | (constructor <;> omega) | trivial) (by first | omega | assumption) (by first | omega | assumption) (by first | omega | assumption))
  ·
    exact NdGood.fin (E := (Tryz.Es Tryz.m4 (syOf Tryz.ChiefOne.t57))) (extras := []) (rows := []) (by omega) (Tryz.right Tryz.m4 (syOf Tryz.ChiefOne.t57) _ W Tryz.mOk4 (symOk_of rfl ⟨hold_bool (.int _ _) (.atom _ _ rfl) (op_lss_f (by first | omega | assumption)), trivial⟩)) (Tryz.ChiefOne.k0 _ _) Tryz.ChiefOne.i57 rfl rfl rowsHold_nil Tryz.ChiefOne.r57
theorem Tryz.ChiefOne.n26 {W : World} {n0 : Int} {n1 : Int} {n2 : Int} (r0 : R64 n0) (r1 : R64 n1) (r2 : R64 n2) (x0 : Int) (x1 : Int) (x2 : Int) (g0x : R64 x0) (g1x : R64 x1) (g2x : R64 x2) (i0 : (x2 = x0 + (8 : Int))) (i1 : (1 ≤ x0 ∧ x0 ≤ 99990)) (i2 : (1 ≤ x1 ∧ x1 ≤ 12)) : NdGood Tryz.prog Tryz.f3 8 (firstHeap 8 Tryz.gsL) W Tryz.ChiefOne.p0 Tryz.ChiefOne.d26 [(.int .i64 x0), (.int .i64 x1), (.int .i64 x2)] := by
  have ⟨gl0, gh0⟩ := g0x
  have ⟨gl1, gh1⟩ := g1x
  have ⟨gl2, gh2⟩ := g2x
  have ⟨rl0, rh0⟩ := r0
  have ⟨rl1, rh1⟩ := r1
  have ⟨rl2, rh2⟩ := r2
  by_cases q1 : (8 : Int) < x1
  ·
    obtain ⟨d2, e2, g2, o2⟩ := ex_add x2 (1 : Int)
    obtain ⟨d3, e3, g3, o3⟩ := ex_add x0 (8 : Int)
    exact NdGood.next (E := (Tryz.Es Tryz.m4 (syOf Tryz.ChiefOne.t50))) (extras := [(.int .i64 d2), (.int .i64 d3)]) (rows := []) (vals' := [(.int .i64 x0), (.int .i64 x1), (.int .i64 d2)]) (by omega) (Tryz.right Tryz.m4 (syOf Tryz.ChiefOne.t50) _ W Tryz.mOk4 (symOk_of rfl ⟨hold_bool (.int _ _) (.atom _ _ rfl) (op_lss_t (by first | omega | assumption)), hold_bool (.atom _ _ rfl) (.int _ _) (op_gtr_f (by first | omega | assumption)), hold_op (.atom _ _ rfl) (.int _ _) o2 (.atom _ _ rfl), hold_op (.atom _ _ rfl) (.int _ _) o3 (.atom _ _ rfl), hold_bool (.atom _ _ rfl) (.int _ _) (op_gtr_f (by first | omega | assumption)), hold_bool (.atom _ _ rfl) (.atom _ _ rfl) (op_neq_f (by first | omega | assumption)), hold_bool (.atom _ _ rfl) (.int _ _) (op_gtr_t (by first | omega | assumption)), hold_bool (.atom _ _ rfl) (.int _ _) (op_eql_f (by first | omega | assumption)), trivial⟩)) (Tryz.ChiefOne.k0 _ _) Tryz.ChiefOne.i50 rfl rfl rowsHold_nil Tryz.ChiefOne.r50 rfl rfl (Tryz.ChiefOne.n29 r0 r1 r2 x0 x1 d2 (by first | assumption | (constructor <;> omega) | trivial) (by first | assumption | (constructor <;> omega) | trivial) (by first | assumption | (constructor <;> omega) | trivial) (by first | omega | assumption) (by first | omega | assumption) (by first | omega | assumption))
  ·
    exact NdGood.fin (E := (Tryz.Es Tryz.m4 (syOf Tryz.ChiefOne.t51))) (extras := []) (rows := []) (by omega) (Tryz.right Tryz.m4 (syOf Tryz.ChiefOne.t51) _ W Tryz.mOk4 (symOk_of rfl ⟨hold_bool (.int _ _) (.atom _ _ rfl) (op_lss_f (by first | omega | assumption)), trivial⟩)) (Tryz.ChiefOne.k0 _ _) Tryz.ChiefOne.i51 rfl rfl rowsHold_nil Tryz.ChiefOne.r51
theorem Tryz.ChiefOne.n23 {W : World} {n0 : Int} {n1 : Int} {n2 : Int} (r0 : R64 n0) (r1 : R64 n1) (r2 : R64 n2) (x0 : Int) (x1 : Int) (x2 : Int) (g0x : R64 x0) (g1x : R64 x1) (g2x : R64 x2) (i0 : (x2 = x0 + (7 : Int))) (i1 : (1 ≤ x0 ∧ x0 ≤ 99990)) (i2 : (1 ≤ x1 ∧ x1 ≤ 12)) : NdGood Tryz.prog Tryz.f3 8 (firstHeap 8 Tryz.gsL) W Tryz.ChiefOne.p0 Tryz.ChiefOne.d23 [(.int .i64 x0), (.int .i64 x1), (.int .i64 x2)] := by
  have ⟨gl0, gh0⟩ := g0x
  have ⟨gl1, gh1⟩ := g1x
  have ⟨gl2, gh2⟩ := g2x
  have ⟨rl0, rh0⟩ := r0
  have ⟨rl1, rh1⟩ := r1
  have ⟨rl2, rh2⟩ := r2
  by_cases q1 : (7 : Int) < x1
  ·
    obtain ⟨d2, e2, g2, o2⟩ := ex_add x2 (1 : Int)
    obtain ⟨d3, e3, g3, o3⟩ := ex_add x0 (7 : Int)
    exact NdGood.next (E := (Tryz.Es Tryz.m4 (syOf Tryz.ChiefOne.t44))) (extras := [(.int .i64 d2), (.int .i64 d3)]) (rows := []) (vals' := [(.int .i64 x0), (.int .i64 x1), (.int .i64 d2)]) (by omega) (Tryz.right Tryz.m4 (syOf Tryz.ChiefOne.t44) _ W Tryz.mOk4 (symOk_of rfl ⟨hold_bool (.int _ _) (.atom _ _ rfl) (op_lss_t (by first | omega | assumption)), hold_bool (.atom _ _ rfl) (.int _ _) (op_gtr_f (by first | omega | assumption)), hold_op (.atom _ _ rfl) (.int _ _) o2 (.atom _ _ rfl), hold_op (.atom _ _ rfl) (.int _ _) o3 (.atom _ _ rfl), hold_bool (.atom _ _ rfl) (.int _ _) (op_gtr_f (by first | omega | assumption)), hold_bool (.atom _ _ rfl) (.atom _ _ rfl) (op_neq_f (by first | omega | assumption)), hold_bool (.atom _ _ rfl) (.int _ _) (op_gtr_t (by first | omega | assumption)), hold_bool (.atom _ _ rfl) (.int _ _) (op_eql_f (by first | omega | assumption)), trivial⟩)) (Tryz.ChiefOne.k0 _ _) Tryz.ChiefOne.i44 rfl rfl rowsHold_nil Tryz.ChiefOne.r44 rfl rfl (Tryz.ChiefOne.n26 r0 r1 r2 x0 x1 d2 (by first | assumption | (constructor <;> omega) | trivial) (by first | assumption | (constructor <;> omega) | trivial) (by first | assumption | (constructor <;> omega) | trivial) (by first | omega | assumption) (by first | omega | assumption) (by first | omega | assumption))
  ·
    exact NdGood.fin (E := (Tryz.Es Tryz.m4 (syOf Tryz.ChiefOne.t45))) (extras := []) (rows := []) (by omega) (Tryz.right Tryz.m4 (syOf Tryz.ChiefOne.t45) _ W Tryz.mOk4 (symOk_of rfl ⟨hold_bool (.int _ _) (.atom _ _ rfl) (op_lss_f (by first | omega | assumption)), trivial⟩)) (Tryz.ChiefOne.k0 _ _) Tryz.ChiefOne.i45 rfl rfl rowsHold_nil Tryz.ChiefOne.r45
theorem Tryz.ChiefOne.n20 {W : World} {n0 : Int} {n1 : Int} {n2 : Int} (r0 : R64 n0) (r1 : R64 n1) (r2 : R64 n2) (x0 : Int) (x1 : Int) (x2 : Int) (g0x : R64 x0) (g1x : R64 x1) (g2x : R64 x2) (i0 : (x2 = x0 + (6 : Int))) (i1 : (1 ≤ x0 ∧ x0 ≤ 99990)) (i2 : (1 ≤ x1 ∧ x1 ≤ 12)) : NdGood Tryz.prog Tryz.f3 8 (firstHeap 8 Tryz.gsL) W Tryz.ChiefOne.p0 Tryz.ChiefOne.d20 [(.int .i64 x0), (.int .i64 x1), (.int .i64 x2)] := by
  have ⟨gl0, gh0⟩ := g0x
  have ⟨gl1, gh1⟩ := g1x
  have ⟨gl2, gh2⟩ := g2x
  have ⟨rl0, rh0⟩ := r0
  have ⟨rl1, rh1⟩ := r1
  have ⟨rl2, rh2⟩ := r2
  by_cases q1 : (6 : Int) < x1
  ·
    obtain ⟨d2, e2, g2, o2⟩ := ex_add x2 (1 : Int)
    obtain ⟨d3, e3, g3, o3⟩ := ex_add x0 (6 : Int)
    exact NdGood.next (E := (Tryz.Es Tryz.m4 (syOf Tryz.ChiefOne.t38))) (extras := [(.int .i64 d2), (.int .i64 d3)]) (rows := []) (vals' := [(.int .i64 x0), (.int .i64 x1), (.int .i64 d2)]) (by omega) (Tryz.right Tryz.m4 (syOf Tryz.ChiefOne.t38) _ W Tryz.mOk4 (symOk_of rfl ⟨hold_bool (.int _ _) (.atom _ _ rfl) (op_lss_t (by first | omega | assumption)), hold_bool (.atom _ _ rfl) (.int _ _) (op_gtr_f (by first | omega | assumption)), hold_op (.atom _ _ rfl) (.int _ _) o2 (.atom _ _ rfl), hold_op (.atom _ _ rfl) (.int _ _) o3 (.atom _ _ rfl), hold_bool (.atom _ _ rfl) (.int _ _) (op_gtr_f (by first | omega | assumption)), hold_bool (.atom _ _ rfl) (.atom _ _ rfl) (op_neq_f (by first | omega | assumption)), hold_bool (.atom _ _ rfl) (.int _ _) (op_gtr_t (by first | omega | assumption)), hold_bool (.atom _ _ rfl) (.int _ _) (op_eql_f (by first | omega | assumption)), trivial⟩)) (Tryz.ChiefOne.k0 _ _) Tryz.ChiefOne.i38 rfl rfl rowsHold_nil Tryz.ChiefOne.r38 rfl rfl (Tryz.ChiefOne.n23 r0 r1 r2 x0 x1 d2 (by first | assumption | (constructor <;> omega) | trivial) (by first | assumption | (constructor <;> omega) | trivial) (by first | assumption | (constructor <;> omega) | trivial) (by first | omega | assumption) (by first | omega | assumption) (by first | omega | assumption))
  ·
    exact NdGood.fin (E := (Tryz.Es Tryz.m4 (syOf Tryz.ChiefOne.t39))) (extras := []) (rows := []) (by omega) (Tryz.right Tryz.m4 (syOf Tryz.ChiefOne.t39) _ W Tryz.mOk4 (symOk_of rfl ⟨hold_bool (.int _ _) (.atom _ _ rfl) (op_lss_f (by first | omega | assumption)), trivial⟩)) (Tryz.ChiefOne.k0 _ _) Tryz.ChiefOne.i39 rfl rfl rowsHold_nil Tryz.ChiefOne.r39
theorem Tryz.ChiefOne.n17 {W : World} {n0 : Int} {n1 : Int} {n2 : Int} (r0 : R64 n0) (r1 : R64 n1) (r2 : R64 n2) (x0 : Int) (x1 : Int) (x2 : Int) (g0x : R64 x0) (g1x : R64 x1) (g2x : R64 x2) (i0 : (x2 = x0 + (5 : Int))) (i1 : (1 ≤ x0 ∧ x0 ≤ 99990)) (i2 : (1 ≤ x1 ∧ x1 ≤ 12)) : NdGood Tryz.prog Tryz.f3 8 (firstHeap 8 Tryz.gsL) W Tryz.ChiefOne.p0 Tryz.ChiefOne.d17 [(.int .i64 x0), (.int .i64 x1), (.int .i64 x2)] := by
  have ⟨gl0, gh0⟩ := g0x
  have ⟨gl1, gh1⟩ := g1x
  have ⟨gl2, gh2⟩ := g2x
  have ⟨rl0, rh0⟩ := r0
  have ⟨rl1, rh1⟩ := r1
  have ⟨rl2, rh2⟩ := r2
  by_cases q1 : (5 : Int) < x1
  ·
    obtain ⟨d2, e2, g2, o2⟩ := ex_add x2 (1 : Int)
    obtain ⟨d3, e3, g3, o3⟩ := ex_add x0 (5 : Int)
    exact NdGood.next (E := (Tryz.Es Tryz.m4 (syOf Tryz.ChiefOne.t32))) (extras := [(.int .i64 d2), (.int .i64 d3)]) (rows := []) (vals' := [(.int .i64 x0), (.int .i64 x1), (.int .i64 d2)]) (by omega) (Tryz.right Tryz.m4 (syOf Tryz.ChiefOne.t32) _ W Tryz.mOk4 (symOk_of rfl ⟨hold_bool (.int _ _) (.atom _ _ rfl) (op_lss_t (by first | omega | assumption)), hold_bool (.atom _ _ rfl) (.int _ _) (op_gtr_f (by first | omega | assumption)), hold_op (.atom _ _ rfl) (.int _ _) o2 (.atom _ _ rfl), hold_op (.atom _ _ rfl) (.int _ _) o3 (.atom _ _ rfl), hold_bool (.atom _ _ rfl) (.int _ _) (op_gtr_f (by first | omega | assumption)), hold_bool (.atom _ _ rfl) (.atom _ _ rfl) (op_neq_f (by first | omega | assumption)), hold_bool (.atom _ _ rfl) (.int _ _) (op_gtr_t (by first | omega | assumption)), hold_bool (.atom _ _ rfl) (.int _ _) (op_eql_f (by first | omega | assumption)), trivial⟩)) (Tryz.ChiefOne.k0 _ _) Tryz.ChiefOne.i32 rfl rfl rowsHold_nil Tryz.ChiefOne.r32 rfl rfl (Tryz.ChiefOne.n20 r0 r1 r2 x0 x1 d2 (by first | assumption | (constructor <;> omega) | trivial) (by first | assumption | (constructor <;> omega) | trivial) (by first | assumption | (constructor <;> omega) | trivial) (by first | omega | assumption) (by first | omega | assumption) (by first | omega | assumption))
  ·
    exact NdGood.fin (E := (Tryz.Es Tryz.m4 (syOf Tryz.ChiefOne.t33))) (extras := []) (rows := []) (by omega) (Tryz.right Tryz.m4 (syOf Tryz.ChiefOne.t33) _ W Tryz.mOk4 (symOk_of rfl ⟨hold_bool (.int _ _) (.atom _ _ rfl) (op_lss_f (by first | omega | assumption)), trivial⟩)) (Tryz.ChiefOne.k0 _ _) Tryz.ChiefOne.i33 rfl rfl rowsHold_nil Tryz.ChiefOne.r33
theorem Tryz.ChiefOne.n14 {W : World} {n0 : Int} {n1 : Int} {n2 : Int} (r0 : R64 n0) (r1 : R64 n1) (r2 : R64 n2) (x0 : Int) (x1 : Int) (x2 : Int) (g0x : R64 x0) (g1x : R64 x1) (g2x : R64 x2) (i0 : (x2 = x0 + (4 : Int))) (i1 : (1 ≤ x0 ∧ x0 ≤ 99990)) (i2 : (1 ≤ x1 ∧ x1 ≤ 12)) : NdGood Tryz.prog Tryz.f3 8 (firstHeap 8 Tryz.gsL) W Tryz.ChiefOne.p0 Tryz.ChiefOne.d14 [(.int .i64 x0), (.int .i64 x1), (.int .i64 x2)] := by
  have ⟨gl0, gh0⟩ := g0x
  have ⟨gl1, gh1⟩ := g1x
  have ⟨gl2, gh2⟩ := g2x
  have ⟨rl0, rh0⟩ := r0
  have ⟨rl1, rh1⟩ := r1
  have ⟨rl2, rh2⟩ := r2
  by_cases q1 : (4 : Int) < x1
  ·
    obtain ⟨d2, e2, g2, o2⟩ := ex_add x2 (1 : Int)
    obtain ⟨d3, e3, g3, o3⟩ := ex_add x0 (4 : Int)
    exact NdGood.next (E := (Tryz.Es Tryz.m4 (syOf Tryz.ChiefOne.t26))) (extras := [(.int .i64 d2), (.int .i64 d3)]) (rows := []) (vals' := [(.int .i64 x0), (.int .i64 x1), (.int .i64 d2)]) (by omega) (Tryz.right Tryz.m4 (syOf Tryz.ChiefOne.t26) _ W Tryz.mOk4 (symOk_of rfl ⟨hold_bool (.int _ _) (.atom _ _ rfl) (op_lss_t (by first | omega | assumption)), hold_bool (.atom _ _ rfl) (.int _ _) (op_gtr_f (by first | omega | assumption)), hold_op (.atom _ _ rfl) (.int _ _) o2 (.atom _ _ rfl), hold_op (.atom _ _ rfl) (.int _ _) o3 (.atom _ _ rfl), hold_bool (.atom _ _ rfl) (.int _ _) (op_gtr_f (by first | omega | assumption)), hold_bool (.atom _ _ rfl) (.atom _ _ rfl) (op_neq_f (by first | omega | assumption)), hold_bool (.atom _ _ rfl) (.int _ _) (op_gtr_t (by first | omega | assumption)), hold_bool (.atom _ _ rfl) (.int _ _) (op_eql_f (by first | omega | assumption)), trivial⟩)) (Tryz.ChiefOne.k0 _ _) Tryz.ChiefOne.i26 rfl rfl rowsHold_nil Tryz.ChiefOne.r26 rfl rfl (Tryz.ChiefOne.n17 r0 r1 r2 x0 x1 d2 (by first | assumption | (constructor <;> omega) | trivial) (by first | assumption | (constructor <;> omega) | trivial) (by first | assumption | (constructor <;> omega) | trivial) (by first | omega | assumption) (by first | omega | assumption) (by first | omega | assumption))
  ·
    exact NdGood.fin (E := (Tryz.Es Tryz.m4 (syOf Tryz.ChiefOne.t27))) (extras := []) (rows := []) (by omega) (Tryz.right Tryz.m4 (syOf Tryz.ChiefOne.t27) _ W Tryz.mOk4 (symOk_of rfl ⟨hold_bool (.int _ _) (.atom _ _ rfl) (op_lss_f (by first | omega | assumption)), trivial⟩)) (Tryz.ChiefOne.k0 _ _) Tryz.ChiefOne.i27 rfl rfl rowsHold_nil Tryz.ChiefOne.r27
theorem Tryz.ChiefOne.n11 {W : World} {n0 : Int} {n1 : Int} {n2 : Int} (r0 : R64 n0) (r1 : R64 n1) (r2 : R64 n2) (x0 : Int) (x1 : Int) (x2 : Int) (g0x : R64 x0) (g1x : R64 x1) (g2x : R64 x2) (i0 : (x2 = x0 + (3 : Int))) (i1 : (1 ≤ x0 ∧ x0 ≤ 99990)) (i2 : (1 ≤ x1 ∧ x1 ≤ 12)) : NdGood Tryz.prog Tryz.f3 8 (firstHeap 8 Tryz.gsL) W Tryz.ChiefOne.p0 Tryz.ChiefOne.d11 [(.int .i64 x0), (.int .i64 x1), (.int .i64 x2)] := by
  have ⟨gl0, gh0⟩ := g0x
  have ⟨gl1, gh1⟩ := g1x
  have ⟨gl2, gh2⟩ := g2x
  have ⟨rl0, rh0⟩ := r0
  have ⟨rl1, rh1⟩ := r1
  have ⟨rl2, rh2⟩ := r2
  by_cases q1 : (3 : Int) < x1
  ·
    obtain ⟨d2, e2, g2, o2⟩ := ex_add x2 (1 : Int)
    obtain ⟨d3, e3, g3, o3⟩ := ex_add x0 (3 : Int)
    exact NdGood.next (E := (Tryz.Es Tryz.m4 (syOf Tryz.ChiefOne.t20))) (extras := [(.int .i64 d2), (.int .i64 d3)]) (rows := []) (vals' := [(.int .i64 x0), (.int .i64 x1), (.int .i64 d2)]) (by omega) (Tryz.right Tryz.m4 (syOf Tryz.ChiefOne.t20) _ W Tryz.mOk4 (symOk_of rfl ⟨hold_bool (.int _ _) (.atom _ _ rfl) (op_lss_t (by first | omega | assumption)), hold_bool (.atom _ _ rfl) (.int _ _) (op_gtr_f (by first | omega | assumption)), hold_op (.atom _ _ rfl) (.int _ _) o2 (.atom _ _ rfl), hold_op (.atom _ _ rfl) (.int _ _) o3 (.atom _ _ rfl), hold_bool (.atom _ _ rfl) (.int _ _) (op_gtr_f (by first | omega | assumption)), hold_bool (.atom _ _ rfl) (.atom _ _ rfl) (op_neq_f (by first | omega | assumption)), hold_bool (.atom _ _ rfl) (.int _ _) (op_gtr_t (by first | omega | assumption)), hold_bool (.atom _ _ rfl) (.int _ _) (op_eql_f (by first | omega | assumption)), trivial⟩)) (Tryz.ChiefOne.k0 _ _) Tryz.ChiefOne.i20 rfl rfl rowsHold_nil Tryz.ChiefOne.r20 rfl rfl (Tryz.ChiefOne.n14 r0 r1 r2 x0 x1 d2 (by first | assumption | (constructor <;> omega) | trivial) (by first | assumption | (constructor <;> omega) | trivial) (by first | assumption | (constructor <;> omega) | trivial) (by first | omega | assumption) (by first | omega | assumption) (by first | omega | assumption))
  ·
    exact NdGood.fin (E := (Tryz.Es Tryz.m4 (syOf Tryz.ChiefOne.t21))) (extras := []) (rows := []) (by omega) (Tryz.right Tryz.m4 (syOf Tryz.ChiefOne.t21) _ W Tryz.mOk4 (symOk_of rfl ⟨hold_bool (.int _ _) (.atom _ _ rfl) (op_lss_f (by first | omega | assumption)), trivial⟩)) (Tryz.ChiefOne.k0 _ _) Tryz.ChiefOne.i21 rfl rfl rowsHold_nil Tryz.ChiefOne.r21
theorem Tryz.ChiefOne.n8 {W : World} {n0 : Int} {n1 : Int} {n2 : Int} (r0 : R64 n0) (r1 : R64 n1) (r2 : R64 n2) (x0 : Int) (x1 : Int) (x2 : Int) (g0x : R64 x0) (g1x : R64 x1) (g2x : R64 x2) (i0 : (x2 = x0 + (2 : Int))) (i1 : (1 ≤ x0 ∧ x0 ≤ 99990)) (i2 : (1 ≤ x1 ∧ x1 ≤ 12)) : NdGood Tryz.prog Tryz.f3 8 (firstHeap 8 Tryz.gsL) W Tryz.ChiefOne.p0 Tryz.ChiefOne.d8 [(.int .i64 x0), (.int .i64 x1), (.int .i64 x2)] := by
  have ⟨gl0, gh0⟩ := g0x
  have ⟨gl1, gh1⟩ := g1x
  have ⟨gl2, gh2⟩ := g2x
  have ⟨rl0, rh0⟩ := r0
  have ⟨rl1, rh1⟩ := r1
  have ⟨rl2, rh2⟩ := r2
  by_cases q1 : (2 : Int) < x1
  ·
    obtain ⟨d2, e2, g2, o2⟩ := ex_add x2 (1 : Int)
    obtain ⟨d3, e3, g3, o3⟩ := ex_add x0 (2 : Int)
    exact NdGood.next (E := (Tryz.Es Tryz.m4 (syOf Tryz.ChiefOne.t14))) (extras := [(.int .i64 d2), (.int .i64 d3)]) (rows := []) (vals' := [(.int .i64 x0), (.int .i64 x1), (.int .i64 d2)]) (by omega) (Tryz.right Tryz.m4 (syOf Tryz.ChiefOne.t14) _ W Tryz.mOk4 (symOk_of rfl ⟨hold_bool (.int _ _) (.atom _ _ rfl) (op_lss_t (by first | omega | assumption)), hold_bool (.atom _ _ rfl) (.int _ _) (op_gtr_f (by first | omega | assumption)), hold_op (.atom _ _ rfl) (.int _ _) o2 (.atom _ _ rfl), hold_op (.atom _ _ rfl) (.int _ _) o3 (.atom _ _ rfl), hold_bool (.atom _ _ rfl) (.int _ _) (op_gtr_f (by first | omega | assumption)), hold_bool (.atom _ _ rfl) (.atom _ _ rfl) (op_neq_f (by first | omega | assumption)), hold_bool (.atom _ _ rfl) (.int _ _) (op_gtr_t (by first | omega | assumption)), hold_bool (.atom _ _ rfl) (.int _ _) (op_eql_f (by first | omega | assumption)), trivial⟩)) (Tryz.ChiefOne.k0 _ _) Tryz.ChiefOne.i14 rfl rfl rowsHold_nil Tryz.ChiefOne.r14 rfl rfl (Tryz.ChiefOne.n11 r0 r1 r2 x0 x1 d2 (by first | assumption | (constructor <;> omega) | trivial) (by first | assumption | (constructor <;> omega) | trivial) (by first | assumption | (constructor <;> omega) | trivial) (by first | omega | assumption) (by first | omega | assumption) (by first | omega | assumption))
  ·
    exact NdGood.fin (E := (Tryz.Es Tryz.m4 (syOf Tryz.ChiefOne.t15))) (extras := []) (rows := []) (by omega) (Tryz.right Tryz.m4 (syOf Tryz.ChiefOne.t15) _ W Tryz.mOk4 (symOk_of rfl ⟨hold_bool (.int _ _) (.atom _ _ rfl) (op_lss_f (by first | omega | assumption)), trivial⟩)) (Tryz.ChiefOne.k0 _ _) Tryz.ChiefOne.i15 rfl rfl rowsHold_nil Tryz.ChiefOne.r15
theorem Tryz.ChiefOne.n5 {W : World} {n0 : Int} {n1 : Int} {n2 : Int} (r0 : R64 n0) (r1 : R64 n1) (r2 : R64 n2) (x0 : Int) (x1 : Int) (x2 : Int) (g0x : R64 x0) (g1x : R64 x1) (g2x : R64 x2) (i0 : (x2 = x0 + (1 : Int))) (i1 : (1 ≤ x0 ∧ x0 ≤ 99990)) (i2 : (1 ≤ x1 ∧ x1 ≤ 12)) : NdGood Tryz.prog Tryz.f3 8 (firstHeap 8 Tryz.gsL) W Tryz.ChiefOne.p0 Tryz.ChiefOne.d5 [(.int .i64 x0), (.int .i64 x1), (.int .i64 x2)] := by
  have ⟨gl0, gh0⟩ := g0x
  have ⟨gl1, gh1⟩ := g1x
  have ⟨gl2, gh2⟩ := g2x
  have ⟨rl0, rh0⟩ := r0
  have ⟨rl1, rh1⟩ := r1
  have ⟨rl2, rh2⟩ := r2
  by_cases q1 : (1 : Int) < x1
  ·
    obtain ⟨d2, e2, g2, o2⟩ := ex_add x2 (1 : Int)
    obtain ⟨d3, e3, g3, o3⟩ := ex_add x0 (1 : Int)
    exact NdGood.next (E := (Tryz.Es Tryz.m4 (syOf Tryz.ChiefOne.t8))) (extras := [(.int .i64 d2), (.int .i64 d3)]) (rows := []) (vals' := [(.int .i64 x0), (.int .i64 x1), (.int .i64 d2)]) (by omega) (Tryz.right Tryz.m4 (syOf Tryz.ChiefOne.t8) _ W Tryz.mOk4 (symOk_of rfl ⟨hold_bool (.int _ _) (.atom _ _ rfl) (op_lss_t (by first | omega | assumption)), hold_bool (.atom _ _ rfl) (.int _ _) (op_gtr_f (by first | omega | assumption)), hold_op (.atom _ _ rfl) (.int _ _) o2 (.atom _ _ rfl), hold_op (.atom _ _ rfl) (.int _ _) o3 (.atom _ _ rfl), hold_bool (.atom _ _ rfl) (.int _ _) (op_gtr_f (by first | omega | assumption)), hold_bool (.atom _ _ rfl) (.atom _ _ rfl) (op_neq_f (by first | omega | assumption)), hold_bool (.atom _ _ rfl) (.int _ _) (op_gtr_t (by first | omega | assumption)), hold_bool (.atom _ _ rfl) (.int _ _) (op_eql_f (by first | omega | assumption)), trivial⟩)) (Tryz.ChiefOne.k0 _ _) Tryz.ChiefOne.i8 rfl rfl rowsHold_nil Tryz.ChiefOne.r8 rfl rfl (Tryz.ChiefOne.n8 r0 r1 r2 x0 x1 d2 (by first | assumption | (constructor <;> omega) | trivial) (by first | assumption | (constructor <;> omega) | trivial) (by first | assumption | (constructor <;> omega) | trivial) (by first | omega | assumption) (by first | omega | assumption) (by first | omega | assumption))
  ·
    exact NdGood.fin (E := (Tryz.Es Tryz.m4 (syOf Tryz.ChiefOne.t9))) (extras := []) (rows := []) (by omega) (Tryz.right Tryz.m4 (syOf Tryz.ChiefOne.t9) _ W Tryz.mOk4 (symOk_of rfl ⟨hold_bool (.int _ _) (.atom _ _ rfl) (op_lss_f (by first | omega | assumption)), trivial⟩)) (Tryz.ChiefOne.k0 _ _) Tryz.ChiefOne.i9 rfl rfl rowsHold_nil Tryz.ChiefOne.r9
theorem Tryz.ChiefOne.n2 {W : World} {n0 : Int} {n1 : Int} {n2 : Int} (r0 : R64 n0) (r1 : R64 n1) (r2 : R64 n2) (x0 : Int) (x1 : Int) (g0x : R64 x0) (g1x : R64 x1) (i0 : (x0 = x0 + (0 : Int))) (i1 : (1 ≤ x0 ∧ x0 ≤ 99990)) (i2 : (1 ≤ x1 ∧ x1 ≤ 12)) : NdGood Tryz.prog Tryz.f3 8 (firstHeap 8 Tryz.gsL) W Tryz.ChiefOne.p0 Tryz.ChiefOne.d2 [(.int .i64 x0), (.int .i64 x1)] := by
  have ⟨gl0, gh0⟩ := g0x
  have ⟨gl1, gh1⟩ := g1x
  have ⟨rl0, rh0⟩ := r0
  have ⟨rl1, rh1⟩ := r1
  have ⟨rl2, rh2⟩ := r2
  obtain ⟨d1, e1, g1, o1⟩ := ex_add x0 (1 : Int)
  obtain ⟨d2, e2, g2, o2⟩ := ex_add x0 (0 : Int)
  exact NdGood.next (E := (Tryz.Es Tryz.m4 (syOf Tryz.ChiefOne.t4))) (extras := [(.int .i64 d1), (.int .i64 d2)]) (rows := []) (vals' := [(.int .i64 x0), (.int .i64 x1), (.int .i64 d1)]) (by omega) (Tryz.right Tryz.m4 (syOf Tryz.ChiefOne.t4) _ W Tryz.mOk4 (symOk_of rfl ⟨hold_bool (.int _ _) (.atom _ _ rfl) (op_lss_t (by first | omega | assumption)), hold_bool (.atom _ _ rfl) (.int _ _) (op_gtr_f (by first | omega | assumption)), hold_op (.atom _ _ rfl) (.int _ _) o1 (.atom _ _ rfl), hold_op (.atom _ _ rfl) (.int _ _) o2 (.atom _ _ rfl), hold_bool (.atom _ _ rfl) (.int _ _) (op_gtr_f (by first | omega | assumption)), hold_bool (.atom _ _ rfl) (.atom _ _ rfl) (op_neq_f (by first | omega | assumption)), hold_bool (.atom _ _ rfl) (.int _ _) (op_gtr_t (by first | omega | assumption)), hold_bool (.atom _ _ rfl) (.int _ _) (op_eql_f (by first | omega | assumption)), trivial⟩)) (Tryz.ChiefOne.k0 _ _) Tryz.ChiefOne.i4 rfl rfl rowsHold_nil Tryz.ChiefOne.r4 rfl rfl (Tryz.ChiefOne.n5 r0 r1 r2 x0 x1 d1 (by first | assumption | (constructor <;> omega) | trivial) (by first | assumption | (constructor <;> omega) | trivial) (by first | assumption | (constructor <;> omega) | trivial) (by first | omega | assumption) (by first | omega | assumption) (by first | omega | assumption))
theorem Tryz.ChiefOne.n39 {W : World} {n0 : Int} {n1 : Int} {n2 : Int} (r0 : R64 n0) (r1 : R64 n1) (r2 : R64 n2) (x0 : Int) (x1 : Int) (x2 : Int) (g0x : R64 x0) (g1x : R64 x1) (g2x : R64 x2) (i0 : (x2 = x0 + (12 : Int))) (i1 : (1 ≤ x0 ∧ x0 ≤ 99990)) (i2 : (1 ≤ x1 ∧ x1 ≤ 12)) : NdGood Tryz.prog Tryz.f3 8 (firstHeap 8 Tryz.gsL) W Tryz.ChiefOne.p0 Tryz.ChiefOne.d39 [(.int .i64 x0), (.int .i64 x1), (.int .i64 x2)] := by
  have ⟨gl0, gh0⟩ := g0x
  have ⟨gl1, gh1⟩ := g1x
  have ⟨gl2, gh2⟩ := g2x
  have ⟨rl0, rh0⟩ := r0
  have ⟨rl1, rh1⟩ := r1
  have ⟨rl2, rh2⟩ := r2
  exact NdGood.fin (E := (Tryz.Es Tryz.m4 (syOf Tryz.ChiefOne.t80))) (extras := []) (rows := []) (by omega) (Tryz.right Tryz.m4 (syOf Tryz.ChiefOne.t80) _ W Tryz.mOk4 (symOk_of rfl ⟨hold_bool (.int _ _) (.atom _ _ rfl) (op_lss_f (by first | omega | assumption)), trivial⟩)) (Tryz.ChiefOne.k0 _ _) Tryz.ChiefOne.i80 rfl rfl rowsHold_nil Tryz.ChiefOne.r80
theorem Tryz.ChiefOne.n36 {W : World} {n0 : Int} {n1 : Int} {n2 : Int} (r0 : R64 n0) (r1 : R64 n1) (r2 : R64 n2) (x0 : Int) (x1 : Int) (x2 : Int) (g0x : R64 x0) (g1x : R64 x1) (g2x : R64 x2) (i0 : (x2 = x0 + (11 : Int))) (i1 : (1 ≤ x0 ∧ x0 ≤ 99990)) (i2 : (1 ≤ x1 ∧ x1 ≤ 12)) : NdGood Tryz.prog Tryz.f3 8 (firstHeap 8 Tryz.gsL) W Tryz.ChiefOne.p0 Tryz.ChiefOne.d36 [(.int .i64 x0), (.int .i64 x1), (.int .i64 x2)] := by
  have ⟨gl0, gh0⟩ := g0x
  have ⟨gl1, gh1⟩ := g1x
  have ⟨gl2, gh2⟩ := g2x
  have ⟨rl0, rh0⟩ := r0
  have ⟨rl1, rh1⟩ := r1
  have ⟨rl2, rh2⟩ := r2
  by_cases q1 : (11 : Int) < x1
  ·
    by_cases q2 : (99999 : Int) < x2
    ·
      obtain ⟨d3, e3, g3, o3⟩ := ex_add x0 (11 : Int)
      exact NdGood.fin (E := (Tryz.Es Tryz.m4 (syOf Tryz.ChiefOne.t75))) (extras := [(.int .i64 d3)]) (rows := []) (by omega) (Tryz.right Tryz.m4 (syOf Tryz.ChiefOne.t75) _ W Tryz.mOk4 (symOk_of rfl ⟨hold_bool (.int _ _) (.atom _ _ rfl) (op_lss_t (by first | omega | assumption)), hold_bool (.atom _ _ rfl) (.int _ _) (op_gtr_t (by first | omega | assumption)), hold_op (.atom _ _ rfl) (.int _ _) o3 (.atom _ _ rfl), hold_bool (.atom _ _ rfl) (.int _ _) (op_gtr_t (by first | omega | assumption)), trivial⟩)) (Tryz.ChiefOne.k0 _ _) Tryz.ChiefOne.i75 rfl rfl rowsHold_nil Tryz.ChiefOne.r75
    ·
      obtain ⟨d4, e4, g4, o4⟩ := ex_add x2 (1 : Int)
      obtain ⟨d5, e5, g5, o5⟩ := ex_add x0 (11 : Int)
      exact NdGood.next (E := (Tryz.Es Tryz.m4 (syOf Tryz.ChiefOne.t76))) (extras := [(.int .i64 d4), (.int .i64 d5)]) (rows := []) (vals' := [(.int .i64 x0), (.int .i64 x1), (.int .i64 d4)]) (by omega) (Tryz.right Tryz.m4 (syOf Tryz.ChiefOne.t76) _ W Tryz.mOk4 (symOk_of rfl ⟨hold_bool (.int _ _) (.atom _ _ rfl) (op_lss_t (by first | omega | assumption)), hold_bool (.atom _ _ rfl) (.int _ _) (op_gtr_f (by first | omega | assumption)), hold_op (.atom _ _ rfl) (.int _ _) o4 (.atom _ _ rfl), hold_op (.atom _ _ rfl) (.int _ _) o5 (.atom _ _ rfl), hold_bool (.atom _ _ rfl) (.int _ _) (op_gtr_f (by first | omega | assumption)), hold_bool (.atom _ _ rfl) (.atom _ _ rfl) (op_neq_f (by first | omega | assumption)), hold_bool (.atom _ _ rfl) (.int _ _) (op_gtr_t (by first | omega | assumption)), hold_bool (.atom _ _ rfl) (.int _ _) (op_eql_f (by first | omega | assumption)), trivial⟩)) (Tryz.ChiefOne.k0 _ _) Tryz.ChiefOne.i76 rfl rfl rowsHold_nil Tryz.ChiefOne.r76 rfl rfl (Tryz.ChiefOne.n39 r0 r1 r2 x0 x1 d4 (by first | assumption | (constructor <;> omega) | trivial) (by first | assumption | (constructor <;> omega) | trivial) (by first | assumption | (constructor <;> omega) | trivial) (by first | omega | assumption) (by first | omega | assumption) (by first | omega | assumption))
  ·
    exact NdGood.fin (E := (Tryz.Es Tryz.m4 (syOf Tryz.ChiefOne.t77))) (extras := []) (rows := []) (by omega) (Tryz.right Tryz.m4 (syOf Tryz.ChiefOne.t77) _ W Tryz.mOk4 (symOk_of rfl ⟨hold_bool (.int _ _) (.atom _ _ rfl) (op_lss_f (by first | omega | assumption)), trivial⟩)) (Tryz.ChiefOne.k0 _ _) Tryz.ChiefOne.i77 rfl rfl rowsHold_nil Tryz.ChiefOne.r77
theorem Tryz.ChiefOne.n33 {W : World} {n0 : Int} {n1 : Int} {n2 : Int} (r0 : R64 n0) (r1 : R64 n1) (r2 : R64 n2) (x0 : Int) (x1 : Int) (x2 : Int) (g0x : R64 x0) (g1x : R64 x1) (g2x : R64 x2) (i0 : (x2 = x0 + (10 : Int))) (i1 : (1 ≤ x0 ∧ x0 ≤ 99990)) (i2 : (1 ≤ x1 ∧ x1 ≤ 12)) : NdGood Tryz.prog Tryz.f3 8 (firstHeap 8 Tryz.gsL) W Tryz.ChiefOne.p0 Tryz.ChiefOne.d33 [(.int .i64 x0), (.int .i64 x1), (.int .i64 x2)] := by
  have ⟨gl0, gh0⟩ := g0x
  have ⟨gl1, gh1⟩ := g1x
  have ⟨gl2, gh2⟩ := g2x
  have ⟨rl0, rh0⟩ := r0
  have ⟨rl1, rh1⟩ := r1
  have ⟨rl2, rh2⟩ := r2
  by_cases q1 : (10 : Int) < x1
  ·
    by_cases q2 : (99999 : Int) < x2
    ·
      obtain ⟨d3, e3, g3, o3⟩ := ex_add x0 (10 : Int)
      exact NdGood.fin (E := (Tryz.Es Tryz.m4 (syOf Tryz.ChiefOne.t66))) (extras := [(.int .i64 d3)]) (rows := []) (by omega) (Tryz.right Tryz.m4 (syOf Tryz.ChiefOne.t66) _ W Tryz.mOk4 (symOk_of rfl ⟨hold_bool (.int _ _) (.atom _ _ rfl) (op_lss_t (by first | omega | assumption)), hold_bool (.atom _ _ rfl) (.int _ _) (op_gtr_t (by first | omega | assumption)), hold_op (.atom _ _ rfl) (.int _ _) o3 (.atom _ _ rfl), hold_bool (.atom _ _ rfl) (.int _ _) (op_gtr_t (by first | omega | assumption)), trivial⟩)) (Tryz.ChiefOne.k0 _ _) Tryz.ChiefOne.i66 rfl rfl rowsHold_nil Tryz.ChiefOne.r66
    ·
      obtain ⟨d4, e4, g4, o4⟩ := ex_add x2 (1 : Int)
      obtain ⟨d5, e5, g5, o5⟩ := ex_add x0 (10 : Int)
      exact NdGood.next (E := (Tryz.Es Tryz.m4 (syOf Tryz.ChiefOne.t67))) (extras := [(.int .i64 d4), (.int .i64 d5)]) (rows := []) (vals' := [(.int .i64 x0), (.int .i64 x1), (.int .i64 d4)]) (by omega) (Tryz.right Tryz.m4 (syOf Tryz.ChiefOne.t67) _ W Tryz.mOk4 (symOk_of rfl ⟨hold_bool (.int _ _) (.atom _ _ rfl) (op_lss_t (by first | omega | assumption)), hold_bool (.atom _ _ rfl) (.int _ _) (op_gtr_f (by first | omega | assumption)), hold_op (.atom _ _ rfl) (.int _ _) o4 (.atom _ _ rfl), hold_op (.atom _ _ rfl) (.int _ _) o5 (.atom _ _ rfl), hold_bool (.atom _ _ rfl) (.int _ _) (op_gtr_f (by first | omega | assumption)), hold_bool (.atom _ _ rfl) (.atom _ _ rfl) (op_neq_f (by first | omega | assumption)), hold_bool (.atom _ _ rfl) (.int _ _) (op_gtr_t (by first | omega | assumption)), hold_bool (.atom _ _ rfl) (.int _ _) (op_eql_f (by first | omega | assumption)), trivial⟩)) (Tryz.ChiefOne.k0 _ _) Tryz.ChiefOne.i67 rfl rfl rowsHold_nil Tryz.ChiefOne.r67 rfl rfl (Tryz.ChiefOne.n36 r0 r1 r2 x0 x1 d4 (by first | assumption | (constructor <;> omega) | trivial) (by first | assumption | (constructor <;> omega) | trivial) (by first | assumption | (constructor <;> omega) | trivial) (by first | omega | assumption) (by first | omega | assumption) (by first | omega | assumption))
  ·
    exact NdGood.fin (E := (Tryz.Es Tryz.m4 (syOf Tryz.ChiefOne.t68))) (extras := []) (rows := []) (by omega) (Tryz.right Tryz.m4 (syOf Tryz.ChiefOne.t68) _ W Tryz.mOk4 (symOk_of rfl ⟨hold_bool (.int _ _) (.atom _ _ rfl) (op_lss_f (by first | omega | assumption)), trivial⟩)) (Tryz.ChiefOne.k0 _ _) Tryz.ChiefOne.i68 rfl rfl rowsHold_nil Tryz.ChiefOne.r68
theorem Tryz.ChiefOne.n30 {W : World} {n0 : Int} {n1 : Int} {n2 : Int} (r0 : R64 n0) (r1 : R64 n1) (r2 : R64 n2) (x0 : Int) (x1 : Int) (x2 : Int) (g0x : R64 x0) (g1x : R64 x1) (g2x : R64 x2) (i0 : (x2 = x0 + (9 : Int))) (i1 : (1 ≤ x0 ∧ x0 ≤ 99990)) (i2 : (1 ≤ x1 ∧ x1 ≤ 12)) : NdGood Tryz.prog Tryz.f3 8 (firstHeap 8 Tryz.gsL) W Tryz.ChiefOne.p0 Tryz.ChiefOne.d30 [(.int .i64 x0), (.int .i64 x1), (.int .i64 x2)] := by
  have ⟨gl0, gh0⟩ := g0x
  have ⟨gl1, gh1⟩ := g1x
  have ⟨gl2, gh2⟩ := g2x
  have ⟨rl0, rh0⟩ := r0
  have ⟨rl1, rh1⟩ := r1
  have ⟨rl2, rh2⟩ := r2
  by_cases q1 : (9 : Int) < x1
  ·
    obtain ⟨d2, e2, g2, o2⟩ := ex_add x2 (1 : Int)
    obtain ⟨d3, e3, g3, o3⟩ := ex_add x0 (9 : Int)
    exact NdGood.next (E := (Tryz.Es Tryz.m4 (syOf Tryz.ChiefOne.t58))) (extras := [(.int .i64 d2), (.int .i64 d3)]) (rows := []) (vals' := [(.int .i64 x0), (.int .i64 x1), (.int .i64 d2)]) (by omega) (Tryz.right Tryz.m4 (syOf Tryz.ChiefOne.t58) _ W Tryz.mOk4 (symOk_of rfl ⟨hold_bool (.int _ _) (.atom _ _ rfl) (op_lss_t (by first | omega | assumption)), hold_bool (.atom _ _ rfl) (.int _ _) (op_gtr_f (by first | omega | assumption)), hold_op (.atom _ _ rfl) (.int _ _) o2 (.atom _ _ rfl), hold_op (.atom _ _ rfl) (.int _ _) o3 (.atom _ _ rfl), hold_bool (.atom _ _ rfl) (.int _ _) (op_gtr_f (by first | omega | assumption)), hold_bool (.atom _ _ rfl) (.atom _ _ rfl) (op_neq_f (by first | omega | assumption)), hold_bool (.atom _ _ rfl) (.int _ _) (op_gtr_t (by first | omega | assumption)), hold_bool (.atom _ _ rfl) (.int _ _) (op_eql_f (by first | omega | assumption)), trivial⟩)) (Tryz.ChiefOne.k0 _ _) Tryz.ChiefOne.i58 rfl rfl rowsHold_nil Tryz.ChiefOne.r58 rfl rfl (Tryz.ChiefOne.n33 r0 r1 r2 x0 x1 d2 (by first | assumption | (constructor <;> omega) | trivial) (by first | assumption | (constructor <;> omega) | trivial) (by first | assumption | (constructor <;> omega) | trivial) (by first | omega | assumption) (by first | omega | assumption) (by first | omega | assumption))
  ·
    exact NdGood.fin (E := (Tryz.Es Tryz.m4 (syOf Tryz.ChiefOne.t59))) (extras := []) (rows := []) (by omega) (Tryz.right Tryz.m4 (syOf Tryz.ChiefOne.t59) _ W Tryz.mOk4 (symOk_of rfl ⟨hold_bool (.int _ _) (.atom _ _ rfl) (op_lss_f (by first | omega | assumption)), trivial⟩)) (Tryz.ChiefOne.k0 _ _) Tryz.ChiefOne.i59 rfl rfl rowsHold_nil Tryz.ChiefOne.r59
theorem Tryz.ChiefOne.n27 {W : World} {n0 : Int} {n1 : Int} {n2 : Int} (r0 : R64 n0) (r1 : R64 n1) (r2 : R64 n2) (x0 : Int) (x1 : Int) (x2 : Int) (g0x : R64 x0) (g1x : R64 x1) (g2x : R64 x2) (i0 : (x2 = x0 + (8 : Int))) (i1 : (1 ≤ x0 ∧ x0 ≤ 99990)) (i2 : (1 ≤ x1 ∧ x1 ≤ 12)) : NdGood Tryz.prog Tryz.f3 8 (firstHeap 8 Tryz.gsL) W Tryz.ChiefOne.p0 Tryz.ChiefOne.d27 [(.int .i64 x0), (.int .i64 x1), (.int .i64 x2)] := by
  have ⟨gl0, gh0⟩ := g0x
  have ⟨gl1, gh1⟩ := g1x
  have ⟨gl2, gh2⟩ := g2x
  have ⟨rl0, rh0⟩ := r0
  have ⟨rl1, rh1⟩ := r1
  have ⟨rl2, rh2⟩ := r2
  by_cases q1 : (8 : Int) < x1
  ·
    obtain ⟨d2, e2, g2, o2⟩ := ex_add x2 (1 : Int)
    obtain ⟨d3, e3, g3, o3⟩ := ex_add x0 (8 : Int)
    exact NdGood.next (E := (Tryz.Es Tryz.m4 (syOf Tryz.ChiefOne.t52))) (extras := [(.int .i64 d2), (.int .i64 d3)]) (rows := []) (vals' := [(.int .i64 x0), (.int .i64 x1), (.int .i64 d2)]) (by omega) (Tryz.right Tryz.m4 (syOf Tryz.ChiefOne.t52) _ W Tryz.mOk4 (symOk_of rfl ⟨hold_bool (.int _ _) (.atom _ _ rfl) (op_lss_t (by first | omega | assumption)), hold_bool (.atom _ _ rfl) (.int _ _) (op_gtr_f (by first | omega | assumption)), hold_op (.atom _ _ rfl) (.int _ _) o2 (.atom _ _ rfl), hold_op (.atom _ _ rfl) (.int _ _) o3 (.atom _ _ rfl), hold_bool (.atom _ _ rfl) (.int _ _) (op_gtr_f (by first | omega | assumption)), hold_bool (.atom _ _ rfl) (.atom _ _ rfl) (op_neq_f (by first | omega | assumption)), hold_bool (.atom _ _ rfl) (.int _ _) (op_gtr_t (by first | omega | assumption)), hold_bool (.atom _ _ rfl) (.int _ _) (op_eql_f (by first | omega | assumption)), trivial⟩)) (Tryz.ChiefOne.k0 _ _) Tryz.ChiefOne.i52 rfl rfl rowsHold_nil Tryz.ChiefOne.r52 rfl rfl (Tryz.ChiefOne.n30 r0 r1 r2 x0 x1 d2 (by first | assumption | (constructor <;> omega) | trivial) (by first | assumption | (constructor <;> omega) | trivial) (by first | assumption | (constructor <;> omega) | trivial) (by first | omega | assumption) (by first | omega | assumption) (by first | omega | assumption))
  ·
    exact NdGood.fin (E := (Tryz.Es Tryz.m4 (syOf Tryz.ChiefOne.t53))) (extras := []) (rows := []) (by omega) (Tryz.right Tryz.m4 (syOf Tryz.ChiefOne.t53) _ W Tryz.mOk4 (symOk_of rfl ⟨hold_bool (.int _ _) (.atom _ _ rfl) (op_lss_f (by first | omega | assumption)), trivial⟩)) (Tryz.ChiefOne.k0 _ _) Tryz.ChiefOne.i53 rfl rfl rowsHold_nil Tryz.ChiefOne.r53
theorem Tryz.ChiefOne.n24 {W : World} {n0 : Int} {n1 : Int} {n2 : Int} (r0 : R64 n0) (r1 : R64 n1) (r2 : R64 n2) (x0 : Int) (x1 : Int) (x2 : Int) (g0x : R64 x0) (g1x : R64 x1) (g2x : R64 x2) (i0 : (x2 = x0 + (7 : Int))) (i1 : (1 ≤ x0 ∧ x0 ≤ 99990)) (i2 : (1 ≤ x1 ∧ x1 ≤ 12)) : NdGood Tryz.prog Tryz.f3 8 (firstHeap 8 Tryz.gsL) W Tryz.ChiefOne.p0 Tryz.ChiefOne.d24 [(.int .i64 x0), (.int .i64 x1), (.int .i64 x2)] := by
  have ⟨gl0, gh0⟩ := g0x
  have ⟨gl1, gh1⟩ := g1x
  have ⟨gl2, gh2⟩ := g2x
  have ⟨rl0, rh0⟩ := r0
  have ⟨rl1, rh1⟩ := r1
  have ⟨rl2, rh2⟩ := r2
  by_cases q1 : (7 : Int) < x1
  ·
    obtain ⟨d2, e2, g2, o2⟩ := ex_add x2 (1 : Int)
    obtain ⟨d3, e3, g3, o3⟩ := ex_add x0 (7 : Int)
    exact NdGood.next (E := (Tryz.Es Tryz.m4 (syOf Tryz.ChiefOne.t46))) (extras := [(.int .i64 d2), (.int .i64 d3)]) (rows := []) (vals' := [(.int .i64 x0), (.int .i64 x1), (.int .i64 d2)]) (by omega) (Tryz.right Tryz.m4 (syOf Tryz.ChiefOne.t46) _ W Tryz.mOk4 (symOk_of rfl ⟨hold_bool (.int _ _) (.atom _ _ rfl) (op_lss_t (by first | omega | assumption)), hold_bool (.atom _ _ rfl) (.int _ _) (op_gtr_f (by first | omega | assumption)), hold_op (.atom _ _ rfl) (.int _ _) o2 (.atom _ _ rfl), hold_op (.atom _ _ rfl) (.int _ _) o3 (.atom _ _ rfl), hold_bool (.atom _ _ rfl) (.int _ _) (op_gtr_f (by first | omega | assumption)), hold_bool (.atom _ _ rfl) (.atom _ _ rfl) (op_neq_f (by first | omega | assumption)), hold_bool (.atom _ _ rfl) (.int _ _) (op_gtr_t (by first | omega | assumption)), hold_bool (.atom _ _ rfl) (.int _ _) (op_eql_f (by first | omega | assumption)), trivial⟩)) (Tryz.ChiefOne.k0 _ _) Tryz.ChiefOne.i46 rfl rfl rowsHold_nil Tryz.ChiefOne.r46 rfl rfl (Tryz.ChiefOne.n27 r0 r1 r2 x0 x1 d2 (by first | assumption | (constructor <;> omega) | trivial) (by first | assumption | (constructor <;> omega) | trivial) (by first | assumption | (constructor <;> omega) | trivial) (by first | omega | assumption) (by first | omega | assumption) (by first | omega | assumption))
  ·
    exact NdGood.fin (E := (Tryz.Es Tryz.m4 (syOf Tryz.ChiefOne.t47))) (extras := []) (rows := []) (by omega) (Tryz.right Tryz.m4 (syOf Tryz.ChiefOne.t47) _ W Tryz.mOk4 (symOk_of rfl ⟨hold_bool (.int _ _) (.atom _ _ rfl) (op_lss_f (by first | omega | assumption)), trivial⟩)) (Tryz.ChiefOne.k0 _ _) Tryz.ChiefOne.i47 rfl rfl rowsHold_nil Tryz.ChiefOne.r47
theorem Tryz.ChiefOne.n21 {W : World} {n0 : Int} {n1 : Int} {n2 : Int} (r0 : R64 n0) (r1 : R64 n1) (r2 : R64 n2) (x0 : Int) (x1 : Int) (x2 : Int) (g0x : R64 x0) (g1x : R64 x1) (g2x : R64 x2) (i0 : (x2 = x0 + (6 : Int))) (i1 : (1 ≤ x0 ∧ x0 ≤ 99990)) (i2 : (1 ≤ x1 ∧ x1 ≤ 12)) : NdGood Tryz.prog Tryz.f3 8 (firstHeap 8 Tryz.gsL) W Tryz.ChiefOne.p0 Tryz.ChiefOne.d21 [(.int .i64 x0), (.int .i64 x1), (.int .i64 x2)] := by
  have ⟨gl0, gh0⟩ := g0x
  have ⟨gl1, gh1⟩ := g1x
  have ⟨gl2, gh2⟩ := g2x
  have ⟨rl0, rh0⟩ := r0
  have ⟨rl1, rh1⟩ := r1
  have ⟨rl2, rh2⟩ := r2
  by_cases q1 : (6 : Int) < x1
  ·
    obtain ⟨d2, e2, g2, o2⟩ := ex_add x2 (1 : Int)
    obtain ⟨d3, e3, g3, o3⟩ := ex_add x0 (6 : Int)
    exact NdGood.next (E := (Tryz.Es Tryz.m4 (syOf Tryz.ChiefOne.t40))) (extras := [(.int .i64 d2), (.int .i64 d3)]) (rows := []) (vals' := [(.int .i64 x0), (.int .i64 x1), (.int .i64 d2)]) (by omega) (Tryz.right Tryz.m4 (syOf Tryz.ChiefOne.t40) _ W Tryz.mOk4 (symOk_of rfl ⟨hold_bool (.int _ _) (.atom _ _ rfl) (op_lss_t (by first | omega | assumption)), hold_bool (.atom _ _ rfl) (.int _ _) (op_gtr_f (by first | omega | assumption)), hold_op (.atom _ _ rfl) (.int _ _) o2 (.atom _ _ rfl), hold_op (.atom _ _ rfl) (.int _ _) o3 (.atom _ _ rfl), hold_bool (.atom _ _ rfl) (.int _ _) (op_gtr_f (by first | omega | assumption)), hold_bool (.atom _ _ rfl) (.atom _ _ rfl) (op_neq_f (by first | omega | assumption)), hold_bool (.atom _ _ rfl) (.int _ _) (op_gtr_t (by first | omega | assumption)), hold_bool (.atom _ _ rfl) (.int _ _) (op_eql_f (by first | omega | assumption)), trivial⟩)) (Tryz.ChiefOne.k0 _ _) Tryz.ChiefOne.i40 rfl rfl rowsHold_nil Tryz.ChiefOne.r40 rfl rfl (Tryz.ChiefOne.n24 r0 r1 r2 x0 x1 d2 (by first | assumption | (constructor <;> omega) | trivial) (by first | assumption | (constructor <;> omega) | trivial) (by first | assumption | (constructor <;> omega) | trivial) (by first | omega | assumption) (by first | omega | assumption) (by first | omega | assumption))
  ·
    exact NdGood.fin (E := (Tryz.Es Tryz.m4 (syOf Tryz.ChiefOne.t41))) (extras := []) (rows := []) (by omega) (Tryz.right Tryz.m4 (syOf Tryz.ChiefOne.t41) _ W Tryz.mOk4 (symOk_of rfl ⟨hold_bool (.int _ _) (.atom _ _ rfl) (op_lss_f (by first | omega | assumption)), trivial⟩)) (Tryz.ChiefOne.k0 _ _) Tryz.ChiefOne.i41 rfl rfl rowsHold_nil Tryz.ChiefOne.r41
theorem Tryz.ChiefOne.n18 {W : World} {n0 : Int} {n1 : Int} {n2 : Int} (r0 : R64 n0) (r1 : R64 n1) (r2 : R64 n2) (x0 : Int) (x1 : Int) (x2 : Int) (g0x : R64 x0) (g1x : R64 x1) (g2x : R64 x2) (i0 : (x2 = x0 + (5 : Int))) (i1 : (1 ≤ x0 ∧ x0 ≤ 99990)) (i2 : (1 ≤ x1 ∧ x1 ≤ 12)) : NdGood Tryz.prog Tryz.f3 8 (firstHeap 8 Tryz.gsL) W Tryz.ChiefOne.p0 Tryz.ChiefOne.d18 [(.int .i64 x0), (.int .i64 x1), (.int .i64 x2)] := by
  have ⟨gl0, gh0⟩ := g0x
  have ⟨gl1, gh1⟩ := g1x
  have ⟨gl2, gh2⟩ := g2x
  have ⟨rl0, rh0⟩ := r0
  have ⟨rl1, rh1⟩ := r1
  have ⟨rl2, rh2⟩ := r2
  by_cases q1 : (5 : Int) < x1
  ·
    obtain ⟨d2, e2, g2, o2⟩ := ex_add x2 (1 : Int)
    obtain ⟨d3, e3, g3, o3⟩ := ex_add x0 (5 : Int)
    exact NdGood.next (E := (Tryz.Es Tryz.m4 (syOf Tryz.ChiefOne.t34))) (extras := [(.int .i64 d2), (.int .i64 d3)]) (rows := []) (vals' := [(.int .i64 x0), (.int .i64 x1), (.int .i64 d2)]) (by omega) (Tryz.right Tryz.m4 (syOf Tryz.ChiefOne.t34) _ W Tryz.mOk4 (symOk_of rfl ⟨hold_bool (.int _ _) (.atom _ _ rfl) (op_lss_t (by first | omega | assumption)), hold_bool (.atom _ _ rfl) (.int _ _) (op_gtr_f (by first | omega | assumption)), hold_op (.atom _ _ rfl) (.int _ _) o2 (.atom _ _ rfl), hold_op (.atom _ _ rfl) (.int _ _) o3 (.atom _ _ rfl), hold_bool (.atom _ _ rfl) (.int _ _) (op_gtr_f (by first | omega | assumption)), hold_bool (.atom _ _ rfl) (.atom _ _ rfl) (op_neq_f (by first | omega | assumption)), hold_bool (.atom _ _ rfl) (.int _ _) (op_gtr_t (by first | omega | assumption)), hold_bool (.atom _ _ rfl) (.int _ _) (op_eql_f (by first | omega | assumption)), trivial⟩)) (Tryz.ChiefOne.k0 _ _) Tryz.ChiefOne.i34 rfl rfl rowsHold_nil Tryz.ChiefOne.r34 rfl rfl (Tryz.ChiefOne.n21 r0 r1 r2 x0 x1 d2 (by first | assumption | (constructor <;> omega) | trivial) (by first | assumption | (constructor <;> omega) | trivial) (by first | assumption | (constructor <;> omega) | trivial) (by first | omega | assumption) (by first | omega | assumption) (by first | omega | assumption))
  ·
    exact NdGood.fin (E := (Tryz.Es Tryz.m4 (syOf Tryz.ChiefOne.t35))) (extras := []) (rows := []) (by omega) (Tryz.right Tryz.m4 (syOf Tryz.ChiefOne.t35) _ W Tryz.mOk4 (symOk_of rfl ⟨hold_bool (.int _ _) (.atom _ _ rfl) (op_lss_f (by first | omega | assumption)), trivial⟩)) (Tryz.ChiefOne.k0 _ _) Tryz.ChiefOne.i35 rfl rfl rowsHold_nil Tryz.ChiefOne.r35
theorem Tryz.ChiefOne.n15 {W : World} {n0 : Int} {n1 : Int} {n2 : Int} (r0 : R64 n0) (r1 : R64 n1) (r2 : R64 n2) (x0 : Int) (x1 : Int) (x2 : Int) (g0x : R64 x0) (g1x : R64 x1) (g2x : R64 x2) (i0 : (x2 = x0 + (4 : Int))) (i1 : (1 ≤ x0 ∧ x0 ≤ 99990)) (i2 : (1 ≤ x1 ∧ x1 ≤ 12)) : NdGood Tryz.prog Tryz.f3 8 (firstHeap 8 Tryz.gsL) W Tryz.ChiefOne.p0 Tryz.ChiefOne.d15 [(.int .i64 x0), (.int .i64 x1), (.int .i64 x2)] := by
  have ⟨gl0, gh0⟩ := g0x
  have ⟨gl1, gh1⟩ := g1x
  have ⟨gl2, gh2⟩ := g2x
  have ⟨rl0, rh0⟩ := r0
  have ⟨rl1, rh1⟩ := r1
  have ⟨rl2, rh2⟩ := r2
  by_cases q1 : (4 : Int) < x1
  ·
    obtain ⟨d2, e2, g2, o2⟩ := ex_add x2 (1 : Int)
    obtain ⟨d3, e3, g3, o3⟩ := ex_add x0 (4 : Int)
    exact NdGood.next (E := (Tryz.Es Tryz.m4 (syOf Tryz.ChiefOne.t28))) (extras := [(.int .i64 d2), (.int .i64 d3)]) (rows := []) (vals' := [(.int .i64 x0), (.int .i64 x1), (.int .i64 d2)]) (by omega) (Tryz.right Tryz.m4 (syOf Tryz.ChiefOne.t28) _ W Tryz.mOk4 (symOk_of rfl ⟨hold_bool (.int _ _) (.atom _ _ rfl) (op_lss_t (by first | omega | assumption)), hold_bool (.atom _ _ rfl) (.int _ _) (op_gtr_f (by first | omega | assumption)), hold_op (.atom _ _ rfl) (.int _ _) o2 (.atom _ _ rfl), hold_op (.atom _ _ rfl) (.int _ _) o3 (.atom _ _ rfl), hold_bool (.atom _ _ rfl) (.int _ _) (op_gtr_f (by first | omega | assumption)), hold_bool (.atom _ _ rfl) (.atom _ _ rfl) (op_neq_f (by first | omega | assumption)), hold_bool (.atom _ _ rfl) (.int _ _) (op_gtr_t (by first | omega | assumption)), hold_bool (.atom _ _ rfl) (.int _ _) (op_eql_f (by first | omega | assumption)), trivial⟩)) (Tryz.ChiefOne.k0 _ _) Tryz.ChiefOne.i28 rfl rfl rowsHold_nil Tryz.ChiefOne.r28 rfl rfl (Tryz.ChiefOne.n18 r0 r1 r2 x0 x1 d2 (by first | assumption | (constructor <;> omega) | trivial) (by first | assumption | (constructor <;> omega) | trivial) (by first | assumption | (constructor <;> omega) | trivial) (by first | omega | assumption) (by first | omega | assumption) (by first | omega | assumption))
  ·
    exact NdGood.fin (E := (Tryz.Es Tryz.m4 (syOf Tryz.ChiefOne.t29))) (extras := []) (rows := []) (by omega) (Tryz.right Tryz.m4 (syOf Tryz.ChiefOne.t29) _ W Tryz.mOk4 (symOk_of rfl ⟨hold_bool (.int _ _) (.atom _ _ rfl) (op_lss_f (by first | omega | assumption)), trivial⟩)) (Tryz.ChiefOne.k0 _ _) Tryz.ChiefOne.i29 rfl rfl rowsHold_nil Tryz.ChiefOne.r29
theorem Tryz.ChiefOne.n12 {W : World} {n0 : Int} {n1 : Int} {n2 : Int} (r0 : R64 n0) (r1 : R64 n1) (r2 : R64 n2) (x0 : Int) (x1 : Int) (x2 : Int) (g0x : R64 x0) (g1x : R64 x1) (g2x : R64 x2) (i0 : (x2 = x0 + (3 : Int))) (i1 : (1 ≤ x0 ∧ x0 ≤ 99990)) (i2 : (1 ≤ x1 ∧ x1 ≤ 12)) : NdGood Tryz.prog Tryz.f3 8 (firstHeap 8 Tryz.gsL) W Tryz.ChiefOne.p0 Tryz.ChiefOne.d12 [(.int .i64 x0), (.int .i64 x1), (.int .i64 x2)] := by
  have ⟨gl0, gh0⟩ := g0x
  have ⟨gl1, gh1⟩ := g1x
  have ⟨gl2, gh2⟩ := g2x
  have ⟨rl0, rh0⟩ := r0
  have ⟨rl1, rh1⟩ := r1
  have ⟨rl2, rh2⟩ := r2
  by_cases q1 : (3 : Int) < x1
  ·
    obtain ⟨d2, e2, g2, o2⟩ := ex_add x2 (1 : Int)
    obtain ⟨d3, e3, g3, o3⟩ := ex_add x0 (3 : Int)
    exact NdGood.next (E := (Tryz.Es Tryz.m4 (syOf Tryz.ChiefOne.t22))) (extras := [(.int .i64 d2), (.int .i64 d3)]) (rows := []) (vals' := [(.int .i64 x0), (.int .i64 x1), (.int .i64 d2)]) (by omega) (Tryz.right Tryz.m4 (syOf Tryz.ChiefOne.t22) _ W Tryz.mOk4 (symOk_of rfl ⟨hold_bool (.int _ _) (.atom _ _ rfl) (op_lss_t (by first | omega | assumption)), hold_bool (.atom _ _ rfl) (.int _ _) (op_gtr_f (by first | omega | assumption)), hold_op (.atom _ _ rfl) (.int _ _) o2 (.atom _ _ rfl), hold_op (.atom _ _ rfl) (.int _ _) o3 (.atom _ _ rfl), hold_bool (.atom _ _ rfl) (.int _ _) (op_gtr_f (by first | omega | assumption)), hold_bool (.atom _ _ rfl) (.atom _ _ rfl) (op_neq_f (by first | omega | assumption)), hold_bool (.atom _ _ rfl) (.int _ _) (op_gtr_t (by first | omega | assumption)), hold_bool (.atom _ _ rfl) (.int _ _) (op_eql_f (by first | omega | assumption)), trivial⟩)) (Tryz.ChiefOne.k0 _ _) Tryz.ChiefOne.i22 rfl rfl rowsHold_nil Tryz.ChiefOne.r22 rfl rfl (Tryz.ChiefOne.n15 r0 r1 r2 x0 x1 d2 (by first | assumption | (constructor <;> omega) | trivial) (by first | assumption | (constructor <;> omega) | trivial) (by first | assumption | (constructor <;> omega) | trivial) (by first | omega | assumption) (by first | omega | assumption) (by first | omega | assumption))
  ·
    exact NdGood.fin (E := (Tryz.Es Tryz.m4 (syOf Tryz.ChiefOne.t23))) (extras := []) (rows := []) (by omega) (Tryz.right Tryz.m4 (syOf Tryz.ChiefOne.t23) _ W Tryz.mOk4 (symOk_of rfl ⟨hold_bool (.int _ _) (.atom _ _ rfl) (op_lss_f (by first | omega | assumption)), trivial⟩)) (Tryz.ChiefOne.k0 _ _) Tryz.ChiefOne.i23 rfl rfl rowsHold_nil Tryz.ChiefOne.r23
theorem Tryz.ChiefOne.n9 {W : World} {n0 : Int} {n1 : Int} {n2 : Int} (r0 : R64 n0) (r1 : R64 n1) (r2 : R64 n2) (x0 : Int) (x1 : Int) (x2 : Int) (g0x : R64 x0) (g1x : R64 x1) (g2x : R64 x2) (i0 : (x2 = x0 + (2 : Int))) (i1 : (1 ≤ x0 ∧ x0 ≤ 99990)) (i2 : (1 ≤ x1 ∧ x1 ≤ 12)) : NdGood Tryz.prog Tryz.f3 8 (firstHeap 8 Tryz.gsL) W Tryz.ChiefOne.p0 Tryz.ChiefOne.d9 [(.int .i64 x0), (.int .i64 x1), (.int .i64 x2)] := by
  have ⟨gl0, gh0⟩ := g0x
  have ⟨gl1, gh1⟩ := g1x
  have ⟨gl2, gh2⟩ := g2x
  have ⟨rl0, rh0⟩ := r0
  have ⟨rl1, rh1⟩ := r1
  have ⟨rl2, rh2⟩ := r2
  by_cases q1 : (2 : Int) < x1
  ·
    obtain ⟨d2, e2, g2, o2⟩ := ex_add x2 (1 : Int)
    obtain ⟨d3, e3, g3, o3⟩ := ex_add x0 (2 : Int)
    exact NdGood.next (E := (Tryz.Es Tryz.m4 (syOf Tryz.ChiefOne.t16))) (extras := [(.int .i64 d2), (.int .i64 d3)]) (rows := []) (vals' := [(.int .i64 x0), (.int .i64 x1), (.int .i64 d2)]) (by omega) (Tryz.right Tryz.m4 (syOf Tryz.ChiefOne.t16) _ W Tryz.mOk4 (symOk_of rfl ⟨hold_bool (.int _ _) (.atom _ _ rfl) (op_lss_t (by first | omega | assumption)), hold_bool (.atom _ _ rfl) (.int _ _) (op_gtr_f (by first | omega | assumption)), hold_op (.atom _ _ rfl) (.int _ _) o2 (.atom _ _ rfl), hold_op (.atom _ _ rfl) (.int _ _) o3 (.atom _ _ rfl), hold_bool (.atom _ _ rfl) (.int _ _) (op_gtr_f (by first | omega | assumption)), hold_bool (.atom _ _ rfl) (.atom _ _ rfl) (op_neq_f (by first | omega | assumption)), hold_bool (.atom _ _ rfl) (.int _ _) (op_gtr_t (by first | omega | assumption)), hold_bool (.atom _ _ rfl) (.int _ _) (op_eql_f (by first | omega | assumption)), trivial⟩)) (Tryz.ChiefOne.k0 _ _) Tryz.ChiefOne.i16 rfl rfl rowsHold_nil Tryz.ChiefOne.r16 rfl rfl (Tryz.ChiefOne.n12 r0 r1 r2 x0 x1 d2 (by first | assumption | (constructor <;> omega) | trivial) (by first | assumption | (constructor <;> omega) | trivial) (by first | assumption | (constructor <;> omega) | trivial) (by first | omega | assumption) (by first | omega | assumption) (by first | omega | assumption))
  ·
    exact NdGood.fin (E := (Tryz.Es Tryz.m4 (syOf Tryz.ChiefOne.t17))) (extras := []) (rows := []) (by omega) (Tryz.right Tryz.m4 (syOf Tryz.ChiefOne.t17) _ W Tryz.mOk4 (symOk_of rfl ⟨hold_bool (.int _ _) (.atom _ _ rfl) (op_lss_f (by first | omega | assumption)), trivial⟩)) (Tryz.ChiefOne.k0 _ _) Tryz.ChiefOne.i17 rfl rfl rowsHold_nil Tryz.ChiefOne.r17
theorem Tryz.ChiefOne.n6 {W : World} {n0 : Int} {n1 : Int} {n2 : Int} (r0 : R64 n0) (r1 : R64 n1) (r2 : R64 n2) (x0 : Int) (x1 : Int) (x2 : Int) (g0x : R64 x0) (g1x : R64 x1) (g2x : R64 x2) (i0 : (x2 = x0 + (1 : Int))) (i1 : (1 ≤ x0 ∧ x0 ≤ 99990)) (i2 : (1 ≤ x1 ∧ x1 ≤ 12)) : NdGood Tryz.prog Tryz.f3 8 (firstHeap 8 Tryz.gsL) W Tryz.ChiefOne.p0 Tryz.ChiefOne.d6 [(.int .i64 x0), (.int .i64 x1), (.int .i64 x2)] := by
  have ⟨gl0, gh0⟩ := g0x
  have ⟨gl1, gh1⟩ := g1x
  have ⟨gl2, gh2⟩ := g2x
  have ⟨rl0, rh0⟩ := r0
  have ⟨rl1, rh1⟩ := r1
  have ⟨rl2, rh2⟩ := r2
  by_cases q1 : (1 : Int) < x1
  ·
    obtain ⟨d2, e2, g2, o2⟩ := ex_add x2 (1 : Int)
    obtain ⟨d3, e3, g3, o3⟩ := ex_add x0 (1 : Int)
    exact NdGood.next (E := (Tryz.Es Tryz.m4 (syOf Tryz.ChiefOne.t10))) (extras := [(.int .i64 d2), (.int .i64 d3)]) (rows := []) (vals' := [(.int .i64 x0), (.int .i64 x1), (.int .i64 d2)]) (by omega) (Tryz.right Tryz.m4 (syOf Tryz.ChiefOne.t10) _ W Tryz.mOk4 (symOk_of rfl ⟨hold_bool (.int _ _) (.atom _ _ rfl) (op_lss_t (by first | omega | assumption)), hold_bool (.atom _ _ rfl) (.int _ _) (op_gtr_f (by first | omega | assumption)), hold_op (.atom _ _ rfl) (.int _ _) o2 (.atom _ _ rfl), hold_op (.atom _ _ rfl) (.int _ _) o3 (.atom _ _ rfl), hold_bool (.atom _ _ rfl) (.int _ _) (op_gtr_f (by first | omega | assumption)), hold_bool (.atom _ _ rfl) (.atom _ _ rfl) (op_neq_f (by first | omega | assumption)), hold_bool (.atom _ _ rfl) (.int _ _) (op_gtr_t (by first | omega | assumption)), hold_bool (.atom _ _ rfl) (.int _ _) (op_eql_f (by first | omega | assumption)), trivial⟩)) (Tryz.ChiefOne.k0 _ _) Tryz.ChiefOne.i10 rfl rfl rowsHold_nil Tryz.ChiefOne.r10 rfl rfl (Tryz.ChiefOne.n9 r0 r1 r2 x0 x1 d2 (by first | assumption | (constructor <;> omega) | trivial) (by first | assumption | (constructor <;> omega) | trivial) (by first | assumption | (constructor <;> omega) | trivial) (by first | omega | assumption) (by first | omega | assumption) (by first | omega | assumption))
  ·
    exact NdGood.fin (E := (Tryz.Es Tryz.m4 (syOf Tryz.ChiefOne.t11))) (extras := []) (rows := []) (by omega) (Tryz.right Tryz.m4 (syOf Tryz.ChiefOne.t11) _ W Tryz.mOk4 (symOk_of rfl ⟨hold_bool (.int _ _) (.atom _ _ rfl) (op_lss_f (by first | omega | assumption)), trivial⟩)) (Tryz.ChiefOne.k0 _ _) Tryz.ChiefOne.i11 rfl rfl rowsHold_nil Tryz.ChiefOne.r11
theorem Tryz.ChiefOne.n3 {W : World} {n0 : Int} {n1 : Int} {n2 : Int} (r0 : R64 n0) (r1 : R64 n1) (r2 : R64 n2) (x0 : Int) (x1 : Int) (g0x : R64 x0) (g1x : R64 x1) (i0 : (x0 = x0 + (0 : Int))) (i1 : (1 ≤ x0 ∧ x0 ≤ 99990)) (i2 : (1 ≤ x1 ∧ x1 ≤ 12)) : NdGood Tryz.prog Tryz.f3 8 (firstHeap 8 Tryz.gsL) W Tryz.ChiefOne.p0 Tryz.ChiefOne.d3 [(.int .i64 x0), (.int .i64 x1)] := by
  have ⟨gl0, gh0⟩ := g0x
  have ⟨gl1, gh1⟩ := g1x
  have ⟨rl0, rh0⟩ := r0
  have ⟨rl1, rh1⟩ := r1
  have ⟨rl2, rh2⟩ := r2
  obtain ⟨d1, e1, g1, o1⟩ := ex_add x0 (1 : Int)
  obtain ⟨d2, e2, g2, o2⟩ := ex_add x0 (0 : Int)
  exact NdGood.next (E := (Tryz.Es Tryz.m4 (syOf Tryz.ChiefOne.t5))) (extras := [(.int .i64 d1), (.int .i64 d2)]) (rows := []) (vals' := [(.int .i64 x0), (.int .i64 x1), (.int .i64 d1)]) (by omega) (Tryz.right Tryz.m4 (syOf Tryz.ChiefOne.t5) _ W Tryz.mOk4 (symOk_of rfl ⟨hold_bool (.int _ _) (.atom _ _ rfl) (op_lss_t (by first | omega | assumption)), hold_bool (.atom _ _ rfl) (.int _ _) (op_gtr_f (by first | omega | assumption)), hold_op (.atom _ _ rfl) (.int _ _) o1 (.atom _ _ rfl), hold_op (.atom _ _ rfl) (.int _ _) o2 (.atom _ _ rfl), hold_bool (.atom _ _ rfl) (.int _ _) (op_gtr_f (by first | omega | assumption)), hold_bool (.atom _ _ rfl) (.atom _ _ rfl) (op_neq_f (by first | omega | assumption)), hold_bool (.atom _ _ rfl) (.int _ _) (op_gtr_t (by first | omega | assumption)), hold_bool (.atom _ _ rfl) (.int _ _) (op_eql_f (by first | omega | assumption)), trivial⟩)) (Tryz.ChiefOne.k0 _ _) Tryz.ChiefOne.i5 rfl rfl rowsHold_nil Tryz.ChiefOne.r5 rfl rfl (Tryz.ChiefOne.n6 r0 r1 r2 x0 x1 d1 (by first | assumption | (constructor <;> omega) | trivial) (by first | assumption | (constructor <;> omega) | trivial) (by first | assumption | (constructor <;> omega) | trivial) (by first | omega | assumption) (by first | omega | assumption) (by first | omega | assumption))
theorem Tryz.ChiefOne.n0 {W : World} {n0 : Int} {n1 : Int} {n2 : Int} (r0 : R64 n0) (r1 : R64 n1) (r2 : R64 n2) : NdGood Tryz.prog Tryz.f3 8 (firstHeap 8 Tryz.gsL) W Tryz.ChiefOne.pS Tryz.ChiefOne.d0 [(.int .i64 n0), (.int .i64 n1), (.int .i64 n2)] := by
  have ⟨rl0, rh0⟩ := r0
  have ⟨rl1, rh1⟩ := r1
  have ⟨rl2, rh2⟩ := r2
  obtain ⟨d1, ⟨y1, e1, z1, u1, w1⟩, g1, o1⟩ := ex_rem n0 (3 : Int) (by omega) (by omega)
  obtain ⟨d2, e2, g2, o2⟩ := ex_add d1 (3 : Int)
  obtain ⟨d3, ⟨y3, e3, z3, u3, w3⟩, g3, o3⟩ := ex_rem d2 (3 : Int) (by omega) (by omega)
  rcases (show d3 = 0 ∨ d3 = 1 ∨ d3 = 2 by omega) with k3 | k3 | k3
  ·
    obtain ⟨d4, ⟨y4, e4, z4, u4, w4⟩, g4, o4⟩ := ex_rem n1 (99990 : Int) (by omega) (by omega)
    obtain ⟨d5, e5, g5, o5⟩ := ex_add d4 (99990 : Int)
    obtain ⟨d6, ⟨y6, e6, z6, u6, w6⟩, g6, o6⟩ := ex_rem d5 (99990 : Int) (by omega) (by omega)
    obtain ⟨d7, e7, g7, o7⟩ := ex_add (1 : Int) d6
    obtain ⟨d8, ⟨y8, e8, z8, u8, w8⟩, g8, o8⟩ := ex_rem n2 (12 : Int) (by omega) (by omega)
    obtain ⟨d9, e9, g9, o9⟩ := ex_add d8 (12 : Int)
    obtain ⟨d10, ⟨y10, e10, z10, u10, w10⟩, g10, o10⟩ := ex_rem d9 (12 : Int) (by omega) (by omega)
    obtain ⟨d11, e11, g11, o11⟩ := ex_add (1 : Int) d10
    exact NdGood.next (E := (Tryz.Es Tryz.m4 (syOf Tryz.ChiefOne.t0))) (extras := [(.int .i64 d1), (.int .i64 d2), (.int .i64 d4), (.int .i64 d5), (.int .i64 d6), (.int .i64 d7), (.int .i64 d8), (.int .i64 d9), (.int .i64 d10), (.int .i64 d11)]) (rows := []) (vals' := [(.int .i64 d7), (.int .i64 d11)]) (by omega) (Tryz.right Tryz.m4 (syOf Tryz.ChiefOne.t0) _ W Tryz.mOk4 (symOk_of rfl ⟨hold_op (.atom _ _ rfl) (.int _ _) (o1 .i64) (.atom _ _ rfl), hold_op (.atom _ _ rfl) (.int _ _) o2 (.atom _ _ rfl), hold_op (.atom _ _ rfl) (.int _ _) (by have := (o3 .i64); rw [k3] at this; exact this) (.int _ _), hold_op (.atom _ _ rfl) (.int _ _) (o4 .i64) (.atom _ _ rfl), hold_op (.atom _ _ rfl) (.int _ _) o5 (.atom _ _ rfl), hold_op (.atom _ _ rfl) (.int _ _) (o6 .i64) (.atom _ _ rfl), hold_op (.int _ _) (.atom _ _ rfl) o7 (.atom _ _ rfl), hold_op (.atom _ _ rfl) (.int _ _) (o8 .i64) (.atom _ _ rfl), hold_op (.atom _ _ rfl) (.int _ _) o9 (.atom _ _ rfl), hold_op (.atom _ _ rfl) (.int _ _) (o10 .i64) (.atom _ _ rfl), hold_op (.int _ _) (.atom _ _ rfl) o11 (.atom _ _ rfl), hold_bool (.atom _ _ rfl) (.int _ _) (op_lss_f (by first | omega | assumption)), hold_bool (.atom _ _ rfl) (.int _ _) (op_gtr_f (by first | omega | assumption)), trivial⟩)) (Tryz.ChiefOne.kS _ _) Tryz.ChiefOne.i0 rfl rfl rowsHold_nil Tryz.ChiefOne.r0 rfl rfl (Tryz.ChiefOne.n1 r0 r1 r2 d7 d11 (by first | assumption | (constructor <;> omega) | trivial) (by first | assumption | (constructor <;> omega) | trivial) (by first | omega | assumption) (by first | omega | assumption) (by first | omega | assumption))
  ·
    obtain ⟨d12, ⟨y12, e12, z12, u12, w12⟩, g12, o12⟩ := ex_rem n1 (99990 : Int) (by omega) (by omega)
    obtain ⟨d13, e13, g13, o13⟩ := ex_add d12 (99990 : Int)
    obtain ⟨d14, ⟨y14, e14, z14, u14, w14⟩, g14, o14⟩ := ex_rem d13 (99990 : Int) (by omega) (by omega)
    obtain ⟨d15, e15, g15, o15⟩ := ex_add (1 : Int) d14
    obtain ⟨d16, ⟨y16, e16, z16, u16, w16⟩, g16, o16⟩ := ex_rem n2 (12 : Int) (by omega) (by omega)
    obtain ⟨d17, e17, g17, o17⟩ := ex_add d16 (12 : Int)
    obtain ⟨d18, ⟨y18, e18, z18, u18, w18⟩, g18, o18⟩ := ex_rem d17 (12 : Int) (by omega) (by omega)
    obtain ⟨d19, e19, g19, o19⟩ := ex_add (1 : Int) d18
    exact NdGood.next (E := (Tryz.Es Tryz.m4 (syOf Tryz.ChiefOne.t1))) (extras := [(.int .i64 d1), (.int .i64 d2), (.int .i64 d12), (.int .i64 d13), (.int .i64 d14), (.int .i64 d15), (.int .i64 d16), (.int .i64 d17), (.int .i64 d18), (.int .i64 d19)]) (rows := []) (vals' := [(.int .i64 d15), (.int .i64 d19)]) (by omega) (Tryz.right Tryz.m4 (syOf Tryz.ChiefOne.t1) _ W Tryz.mOk4 (symOk_of rfl ⟨hold_op (.atom _ _ rfl) (.int _ _) (o1 .i64) (.atom _ _ rfl), hold_op (.atom _ _ rfl) (.int _ _) o2 (.atom _ _ rfl), hold_op (.atom _ _ rfl) (.int _ _) (by have := (o3 .i64); rw [k3] at this; exact this) (.int _ _), hold_op (.atom _ _ rfl) (.int _ _) (o12 .i64) (.atom _ _ rfl), hold_op (.atom _ _ rfl) (.int _ _) o13 (.atom _ _ rfl), hold_op (.atom _ _ rfl) (.int _ _) (o14 .i64) (.atom _ _ rfl), hold_op (.int _ _) (.atom _ _ rfl) o15 (.atom _ _ rfl), hold_op (.atom _ _ rfl) (.int _ _) (o16 .i64) (.atom _ _ rfl), hold_op (.atom _ _ rfl) (.int _ _) o17 (.atom _ _ rfl), hold_op (.atom _ _ rfl) (.int _ _) (o18 .i64) (.atom _ _ rfl), hold_op (.int _ _) (.atom _ _ rfl) o19 (.atom _ _ rfl), hold_bool (.atom _ _ rfl) (.int _ _) (op_lss_f (by first | omega | assumption)), hold_bool (.atom _ _ rfl) (.int _ _) (op_gtr_f (by first | omega | assumption)), trivial⟩)) (Tryz.ChiefOne.kS _ _) Tryz.ChiefOne.i1 rfl rfl rowsHold_nil Tryz.ChiefOne.r1 rfl rfl (Tryz.ChiefOne.n2 r0 r1 r2 d15 d19 (by first | assumption | (constructor <;> omega) | trivial) (by first | assumption | (constructor <;> omega) | trivial) (by first | omega | assumption) (by first | omega | assumption) (by first | omega | assumption))
  ·
    obtain ⟨d20, ⟨y20, e20, z20, u20, w20⟩, g20, o20⟩ := ex_rem n1 (99990 : Int) (by omega) (by omega)
    obtain ⟨d21, e21, g21, o21⟩ := ex_add d20 (99990 : Int)
    obtain ⟨d22, ⟨y22, e22, z22, u22, w22⟩, g22, o22⟩ := ex_rem d21 (99990 : Int) (by omega) (by omega)
    obtain ⟨d23, e23, g23, o23⟩ := ex_add (1 : Int) d22
    obtain ⟨d24, ⟨y24, e24, z24, u24, w24⟩, g24, o24⟩ := ex_rem n2 (12 : Int) (by omega) (by omega)
    obtain ⟨d25, e25, g25, o25⟩ := ex_add d24 (12 : Int)
    obtain ⟨d26, ⟨y26, e26, z26, u26, w26⟩, g26, o26⟩ := ex_rem d25 (12 : Int) (by omega) (by omega)
    obtain ⟨d27, e27, g27, o27⟩ := ex_add (1 : Int) d26
    exact NdGood.next (E := (Tryz.Es Tryz.m4 (syOf Tryz.ChiefOne.t2))) (extras := [(.int .i64 d1), (.int .i64 d2), (.int .i64 d20), (.int .i64 d21), (.int .i64 d22), (.int .i64 d23), (.int .i64 d24), (.int .i64 d25), (.int .i64 d26), (.int .i64 d27)]) (rows := []) (vals' := [(.int .i64 d23), (.int .i64 d27)]) (by omega) (Tryz.right Tryz.m4 (syOf Tryz.ChiefOne.t2) _ W Tryz.mOk4 (symOk_of rfl ⟨hold_op (.atom _ _ rfl) (.int _ _) (o1 .i64) (.atom _ _ rfl), hold_op (.atom _ _ rfl) (.int _ _) o2 (.atom _ _ rfl), hold_op (.atom _ _ rfl) (.int _ _) (by have := (o3 .i64); rw [k3] at this; exact this) (.int _ _), hold_op (.atom _ _ rfl) (.int _ _) (o20 .i64) (.atom _ _ rfl), hold_op (.atom _ _ rfl) (.int _ _) o21 (.atom _ _ rfl), hold_op (.atom _ _ rfl) (.int _ _) (o22 .i64) (.atom _ _ rfl), hold_op (.int _ _) (.atom _ _ rfl) o23 (.atom _ _ rfl), hold_op (.atom _ _ rfl) (.int _ _) (o24 .i64) (.atom _ _ rfl), hold_op (.atom _ _ rfl) (.int _ _) o25 (.atom _ _ rfl), hold_op (.atom _ _ rfl) (.int _ _) (o26 .i64) (.atom _ _ rfl), hold_op (.int _ _) (.atom _ _ rfl) o27 (.atom _ _ rfl), hold_bool (.atom _ _ rfl) (.int _ _) (op_lss_f (by first | omega | assumption)), hold_bool (.atom _ _ rfl) (.int _ _) (op_gtr_f (by first | omega | assumption)), trivial⟩)) (Tryz.ChiefOne.kS _ _) Tryz.ChiefOne.i2 rfl rfl rowsHold_nil Tryz.ChiefOne.r2 rfl rfl (Tryz.ChiefOne.n3 r0 r1 r2 d23 d27 (by first | assumption | (constructor <;> omega) | trivial) (by first | assumption | (constructor <;> omega) | trivial) (by first | omega | assumption) (by first | omega | assumption) (by first | omega | assumption))
end Go.Proofs
