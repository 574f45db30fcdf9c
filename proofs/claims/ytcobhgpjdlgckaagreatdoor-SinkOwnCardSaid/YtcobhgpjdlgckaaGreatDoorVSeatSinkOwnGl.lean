/- The law, node by node; hence from its start, for every input. No conditions. -/
import Derived.Test.YtcobhgpjdlgckaaGreatDoorVSeatSinkOwnR1
import Derived.Test.YtcobhgpjdlgckaaGreatDoorVSeatSinkOwnR2
set_option linter.all false
namespace Go.Proofs
open Go Go.Vsx Go.RowKit
set_option maxRecDepth 1000000
set_option maxHeartbeats 4000000
set_option linter.unusedVariables false
theorem Tryz.SinkOwn.r64a {x : Int} (h : R64 x) : -9223372036854775808 ≤ x ∧ x < 9223372036854775808 := h

theorem Tryz.SinkOwn.n11 {W : World} {a0 : Option Addr} {m0 c0 : Nat} {f0q0 : Nat → Int} (h0 : SlcOk W a0 m0 c0 1 (fun i => [.int .i64 (f0q0 i)])) (b0 : (m0 : Int) < 9223372036854775808) (r0q0 : ∀ i, R64 (f0q0 i)) : NdGood Tryz.prog Tryz.f5 8 (firstHeap 8 Tryz.gsL) W Tryz.SinkOwn.p0 Tryz.SinkOwn.d11 [(.slice a0 m0 c0), (.int .i64 (f0q0 0)), (.int .i64 (f0q0 1)), (.int .i64 (f0q0 2)), (.int .i64 (f0q0 3)), (.int .i64 (f0q0 4)), (.int .i64 (f0q0 5)), (.int .i64 (f0q0 6)), (.int .i64 (f0q0 7)), (.int .i64 (f0q0 8)), (.int .i64 (f0q0 9))] := by
  by_cases q1 : (10 : Int) < (m0 : Int)
  ·
    obtain ⟨d2, e2, g2, o2⟩ := ex_add (f0q0 0) (9 : Int)
    obtain ⟨d3, e3, g3, o3⟩ := ex_add (f0q0 1) (9 : Int)
    obtain ⟨d4, e4, g4, o4⟩ := ex_add (f0q0 2) (9 : Int)
    obtain ⟨d5, e5, g5, o5⟩ := ex_add (f0q0 3) (9 : Int)
    obtain ⟨d6, e6, g6, o6⟩ := ex_add (f0q0 4) (9 : Int)
    obtain ⟨d7, e7, g7, o7⟩ := ex_add (f0q0 5) (9 : Int)
    obtain ⟨d8, e8, g8, o8⟩ := ex_add (f0q0 6) (9 : Int)
    obtain ⟨d9, e9, g9, o9⟩ := ex_add (f0q0 7) (9 : Int)
    obtain ⟨d10, e10, g10, o10⟩ := ex_add (f0q0 8) (9 : Int)
    obtain ⟨d11, e11, g11, o11⟩ := ex_add (f0q0 9) (9 : Int)
    obtain ⟨d12, e12, g12, o12⟩ := ex_add (f0q0 0) (7 : Int)
    obtain ⟨d13, e13, g13, o13⟩ := ex_add (f0q0 1) (7 : Int)
    obtain ⟨d14, e14, g14, o14⟩ := ex_add (f0q0 2) (7 : Int)
    obtain ⟨d15, e15, g15, o15⟩ := ex_add (f0q0 3) (7 : Int)
    obtain ⟨d16, e16, g16, o16⟩ := ex_add (f0q0 4) (7 : Int)
    obtain ⟨d17, e17, g17, o17⟩ := ex_add (f0q0 5) (7 : Int)
    obtain ⟨d18, e18, g18, o18⟩ := ex_add (f0q0 6) (7 : Int)
    obtain ⟨d19, e19, g19, o19⟩ := ex_add (f0q0 7) (7 : Int)
    obtain ⟨d20, e20, g20, o20⟩ := ex_add (f0q0 8) (7 : Int)
    obtain ⟨d21, e21, g21, o21⟩ := ex_add (f0q0 9) (7 : Int)
    exact NdGood.fin (E := (Tryz.Es Tryz.m4 (syOf Tryz.SinkOwn.t21))) (extras := [(.int .i64 (m0 : Int)), (.int .i64 d2), (.int .i64 d3), (.int .i64 d4), (.int .i64 d5), (.int .i64 d6), (.int .i64 d7), (.int .i64 d8), (.int .i64 d9), (.int .i64 d10), (.int .i64 d11), (.int .i64 d12), (.int .i64 d13), (.int .i64 d14), (.int .i64 d15), (.int .i64 d16), (.int .i64 d17), (.int .i64 d18), (.int .i64 d19), (.int .i64 d20), (.int .i64 d21)]) (rows := []) (by omega) (Tryz.right Tryz.m4 (syOf Tryz.SinkOwn.t21) _ W Tryz.mOk4 (symOk_of rfl ⟨hold_len (.atom _ _ rfl) (.atom _ _ rfl), hold_bool (.int _ _) (.atom _ _ rfl) (op_lss_t (by first | omega | assumption)), hold_op (.atom _ _ rfl) (.int _ _) o2 (.atom _ _ rfl), hold_op (.atom _ _ rfl) (.int _ _) o3 (.atom _ _ rfl), hold_op (.atom _ _ rfl) (.int _ _) o4 (.atom _ _ rfl), hold_op (.atom _ _ rfl) (.int _ _) o5 (.atom _ _ rfl), hold_op (.atom _ _ rfl) (.int _ _) o6 (.atom _ _ rfl), hold_op (.atom _ _ rfl) (.int _ _) o7 (.atom _ _ rfl), hold_op (.atom _ _ rfl) (.int _ _) o8 (.atom _ _ rfl), hold_op (.atom _ _ rfl) (.int _ _) o9 (.atom _ _ rfl), hold_op (.atom _ _ rfl) (.int _ _) o10 (.atom _ _ rfl), hold_op (.atom _ _ rfl) (.int _ _) o11 (.atom _ _ rfl), hold_op (.atom _ _ rfl) (.int _ _) o12 (.atom _ _ rfl), hold_op (.atom _ _ rfl) (.int _ _) o13 (.atom _ _ rfl), hold_op (.atom _ _ rfl) (.int _ _) o14 (.atom _ _ rfl), hold_op (.atom _ _ rfl) (.int _ _) o15 (.atom _ _ rfl), hold_op (.atom _ _ rfl) (.int _ _) o16 (.atom _ _ rfl), hold_op (.atom _ _ rfl) (.int _ _) o17 (.atom _ _ rfl), hold_op (.atom _ _ rfl) (.int _ _) o18 (.atom _ _ rfl), hold_op (.atom _ _ rfl) (.int _ _) o19 (.atom _ _ rfl), hold_op (.atom _ _ rfl) (.int _ _) o20 (.atom _ _ rfl), hold_op (.atom _ _ rfl) (.int _ _) o21 (.atom _ _ rfl), hold_bool (.atom _ _ rfl) (.atom _ _ rfl) (op_neq_f rfl), hold_bool (.atom _ _ rfl) (.atom _ _ rfl) (op_neq_f rfl), hold_bool (.atom _ _ rfl) (.atom _ _ rfl) (op_neq_f rfl), hold_bool (.atom _ _ rfl) (.atom _ _ rfl) (op_neq_f rfl), hold_bool (.atom _ _ rfl) (.atom _ _ rfl) (op_neq_f rfl), hold_bool (.atom _ _ rfl) (.atom _ _ rfl) (op_neq_f rfl), hold_bool (.atom _ _ rfl) (.atom _ _ rfl) (op_neq_f rfl), hold_bool (.atom _ _ rfl) (.atom _ _ rfl) (op_neq_f rfl), hold_bool (.atom _ _ rfl) (.atom _ _ rfl) (op_neq_f rfl), hold_bool (.atom _ _ rfl) (.atom _ _ rfl) (op_neq_f rfl), trivial⟩)) (Tryz.SinkOwn.k0 _ _) Tryz.SinkOwn.i21 rfl rfl rowsHold_nil Tryz.SinkOwn.r21
  ·
    obtain ⟨d22, e22, g22, o22⟩ := ex_add (f0q0 0) (9 : Int)
    obtain ⟨d23, e23, g23, o23⟩ := ex_add (f0q0 1) (9 : Int)
    obtain ⟨d24, e24, g24, o24⟩ := ex_add (f0q0 2) (9 : Int)
    obtain ⟨d25, e25, g25, o25⟩ := ex_add (f0q0 3) (9 : Int)
    obtain ⟨d26, e26, g26, o26⟩ := ex_add (f0q0 4) (9 : Int)
    obtain ⟨d27, e27, g27, o27⟩ := ex_add (f0q0 5) (9 : Int)
    obtain ⟨d28, e28, g28, o28⟩ := ex_add (f0q0 6) (9 : Int)
    obtain ⟨d29, e29, g29, o29⟩ := ex_add (f0q0 7) (9 : Int)
    obtain ⟨d30, e30, g30, o30⟩ := ex_add (f0q0 8) (9 : Int)
    obtain ⟨d31, e31, g31, o31⟩ := ex_add (f0q0 9) (9 : Int)
    obtain ⟨d32, e32, g32, o32⟩ := ex_add (f0q0 0) (7 : Int)
    obtain ⟨d33, e33, g33, o33⟩ := ex_add (f0q0 1) (7 : Int)
    obtain ⟨d34, e34, g34, o34⟩ := ex_add (f0q0 2) (7 : Int)
    obtain ⟨d35, e35, g35, o35⟩ := ex_add (f0q0 3) (7 : Int)
    obtain ⟨d36, e36, g36, o36⟩ := ex_add (f0q0 4) (7 : Int)
    obtain ⟨d37, e37, g37, o37⟩ := ex_add (f0q0 5) (7 : Int)
    obtain ⟨d38, e38, g38, o38⟩ := ex_add (f0q0 6) (7 : Int)
    obtain ⟨d39, e39, g39, o39⟩ := ex_add (f0q0 7) (7 : Int)
    obtain ⟨d40, e40, g40, o40⟩ := ex_add (f0q0 8) (7 : Int)
    obtain ⟨d41, e41, g41, o41⟩ := ex_add (f0q0 9) (7 : Int)
    exact NdGood.fin (E := (Tryz.Es Tryz.m4 (syOf Tryz.SinkOwn.t22))) (extras := [(.int .i64 (m0 : Int)), (.int .i64 d22), (.int .i64 d23), (.int .i64 d24), (.int .i64 d25), (.int .i64 d26), (.int .i64 d27), (.int .i64 d28), (.int .i64 d29), (.int .i64 d30), (.int .i64 d31), (.int .i64 d32), (.int .i64 d33), (.int .i64 d34), (.int .i64 d35), (.int .i64 d36), (.int .i64 d37), (.int .i64 d38), (.int .i64 d39), (.int .i64 d40), (.int .i64 d41)]) (rows := []) (by omega) (Tryz.right Tryz.m4 (syOf Tryz.SinkOwn.t22) _ W Tryz.mOk4 (symOk_of rfl ⟨hold_len (.atom _ _ rfl) (.atom _ _ rfl), hold_bool (.int _ _) (.atom _ _ rfl) (op_lss_f (by first | omega | assumption)), hold_op (.atom _ _ rfl) (.int _ _) o22 (.atom _ _ rfl), hold_op (.atom _ _ rfl) (.int _ _) o23 (.atom _ _ rfl), hold_op (.atom _ _ rfl) (.int _ _) o24 (.atom _ _ rfl), hold_op (.atom _ _ rfl) (.int _ _) o25 (.atom _ _ rfl), hold_op (.atom _ _ rfl) (.int _ _) o26 (.atom _ _ rfl), hold_op (.atom _ _ rfl) (.int _ _) o27 (.atom _ _ rfl), hold_op (.atom _ _ rfl) (.int _ _) o28 (.atom _ _ rfl), hold_op (.atom _ _ rfl) (.int _ _) o29 (.atom _ _ rfl), hold_op (.atom _ _ rfl) (.int _ _) o30 (.atom _ _ rfl), hold_op (.atom _ _ rfl) (.int _ _) o31 (.atom _ _ rfl), hold_op (.atom _ _ rfl) (.int _ _) o32 (.atom _ _ rfl), hold_op (.atom _ _ rfl) (.int _ _) o33 (.atom _ _ rfl), hold_op (.atom _ _ rfl) (.int _ _) o34 (.atom _ _ rfl), hold_op (.atom _ _ rfl) (.int _ _) o35 (.atom _ _ rfl), hold_op (.atom _ _ rfl) (.int _ _) o36 (.atom _ _ rfl), hold_op (.atom _ _ rfl) (.int _ _) o37 (.atom _ _ rfl), hold_op (.atom _ _ rfl) (.int _ _) o38 (.atom _ _ rfl), hold_op (.atom _ _ rfl) (.int _ _) o39 (.atom _ _ rfl), hold_op (.atom _ _ rfl) (.int _ _) o40 (.atom _ _ rfl), hold_op (.atom _ _ rfl) (.int _ _) o41 (.atom _ _ rfl), hold_bool (.atom _ _ rfl) (.atom _ _ rfl) (op_neq_f rfl), hold_bool (.atom _ _ rfl) (.atom _ _ rfl) (op_neq_f rfl), hold_bool (.atom _ _ rfl) (.atom _ _ rfl) (op_neq_f rfl), hold_bool (.atom _ _ rfl) (.atom _ _ rfl) (op_neq_f rfl), hold_bool (.atom _ _ rfl) (.atom _ _ rfl) (op_neq_f rfl), hold_bool (.atom _ _ rfl) (.atom _ _ rfl) (op_neq_f rfl), hold_bool (.atom _ _ rfl) (.atom _ _ rfl) (op_neq_f rfl), hold_bool (.atom _ _ rfl) (.atom _ _ rfl) (op_neq_f rfl), hold_bool (.atom _ _ rfl) (.atom _ _ rfl) (op_neq_f rfl), hold_bool (.atom _ _ rfl) (.atom _ _ rfl) (op_neq_f rfl), trivial⟩)) (Tryz.SinkOwn.k0 _ _) Tryz.SinkOwn.i22 rfl rfl rowsHold_nil Tryz.SinkOwn.r22
theorem Tryz.SinkOwn.n10 {W : World} {a0 : Option Addr} {m0 c0 : Nat} {f0q0 : Nat → Int} (h0 : SlcOk W a0 m0 c0 1 (fun i => [.int .i64 (f0q0 i)])) (b0 : (m0 : Int) < 9223372036854775808) (r0q0 : ∀ i, R64 (f0q0 i)) : NdGood Tryz.prog Tryz.f5 8 (firstHeap 8 Tryz.gsL) W Tryz.SinkOwn.p0 Tryz.SinkOwn.d10 [(.slice a0 m0 c0), (.int .i64 (f0q0 0)), (.int .i64 (f0q0 1)), (.int .i64 (f0q0 2)), (.int .i64 (f0q0 3)), (.int .i64 (f0q0 4)), (.int .i64 (f0q0 5)), (.int .i64 (f0q0 6)), (.int .i64 (f0q0 7)), (.int .i64 (f0q0 8))] := by
  by_cases q1 : (9 : Int) < (m0 : Int)
  ·
    have l2 : 9 < m0 := by omega
    obtain ⟨p2, v2⟩ := h0.elem l2
    have w2q0 := r0q0 9
    exact NdGood.next (E := (Tryz.Es Tryz.m4 (syOf Tryz.SinkOwn.t19))) (extras := [(.int .i64 (f0q0 9)), (.int .i64 (m0 : Int))]) (rows := [p2]) (vals' := [(.slice a0 m0 c0), (.int .i64 (f0q0 0)), (.int .i64 (f0q0 1)), (.int .i64 (f0q0 2)), (.int .i64 (f0q0 3)), (.int .i64 (f0q0 4)), (.int .i64 (f0q0 5)), (.int .i64 (f0q0 6)), (.int .i64 (f0q0 7)), (.int .i64 (f0q0 8)), (.int .i64 (f0q0 9))]) (by omega) (Tryz.right Tryz.m4 (syOf Tryz.SinkOwn.t19) _ W Tryz.mOk4 (symOk_of rfl ⟨hold_len (.atom _ _ rfl) (.atom _ _ rfl), hold_bool (.int _ _) (.atom _ _ rfl) (op_lss_t (by first | omega | assumption)), hold_idx v2 l2 (.atom _ _ rfl) (.int _ _) (by omega) rfl, trivial⟩)) (Tryz.SinkOwn.k0 _ _) Tryz.SinkOwn.i19 rfl rfl (rowsHold_cons (Elem.row v2 (VL.cons (.atom _ _ rfl) VL.nil)) rowsHold_nil) Tryz.SinkOwn.r19 rfl rfl (Tryz.SinkOwn.n11 h0 b0 r0q0 )
  ·
    obtain ⟨d3, e3, g3, o3⟩ := ex_add (f0q0 0) (9 : Int)
    obtain ⟨d4, e4, g4, o4⟩ := ex_add (f0q0 1) (9 : Int)
    obtain ⟨d5, e5, g5, o5⟩ := ex_add (f0q0 2) (9 : Int)
    obtain ⟨d6, e6, g6, o6⟩ := ex_add (f0q0 3) (9 : Int)
    obtain ⟨d7, e7, g7, o7⟩ := ex_add (f0q0 4) (9 : Int)
    obtain ⟨d8, e8, g8, o8⟩ := ex_add (f0q0 5) (9 : Int)
    obtain ⟨d9, e9, g9, o9⟩ := ex_add (f0q0 6) (9 : Int)
    obtain ⟨d10, e10, g10, o10⟩ := ex_add (f0q0 7) (9 : Int)
    obtain ⟨d11, e11, g11, o11⟩ := ex_add (f0q0 8) (9 : Int)
    obtain ⟨d12, e12, g12, o12⟩ := ex_add (f0q0 0) (7 : Int)
    obtain ⟨d13, e13, g13, o13⟩ := ex_add (f0q0 1) (7 : Int)
    obtain ⟨d14, e14, g14, o14⟩ := ex_add (f0q0 2) (7 : Int)
    obtain ⟨d15, e15, g15, o15⟩ := ex_add (f0q0 3) (7 : Int)
    obtain ⟨d16, e16, g16, o16⟩ := ex_add (f0q0 4) (7 : Int)
    obtain ⟨d17, e17, g17, o17⟩ := ex_add (f0q0 5) (7 : Int)
    obtain ⟨d18, e18, g18, o18⟩ := ex_add (f0q0 6) (7 : Int)
    obtain ⟨d19, e19, g19, o19⟩ := ex_add (f0q0 7) (7 : Int)
    obtain ⟨d20, e20, g20, o20⟩ := ex_add (f0q0 8) (7 : Int)
    exact NdGood.fin (E := (Tryz.Es Tryz.m4 (syOf Tryz.SinkOwn.t20))) (extras := [(.int .i64 (m0 : Int)), (.int .i64 d3), (.int .i64 d4), (.int .i64 d5), (.int .i64 d6), (.int .i64 d7), (.int .i64 d8), (.int .i64 d9), (.int .i64 d10), (.int .i64 d11), (.int .i64 d12), (.int .i64 d13), (.int .i64 d14), (.int .i64 d15), (.int .i64 d16), (.int .i64 d17), (.int .i64 d18), (.int .i64 d19), (.int .i64 d20)]) (rows := []) (by omega) (Tryz.right Tryz.m4 (syOf Tryz.SinkOwn.t20) _ W Tryz.mOk4 (symOk_of rfl ⟨hold_len (.atom _ _ rfl) (.atom _ _ rfl), hold_bool (.int _ _) (.atom _ _ rfl) (op_lss_f (by first | omega | assumption)), hold_op (.atom _ _ rfl) (.int _ _) o3 (.atom _ _ rfl), hold_op (.atom _ _ rfl) (.int _ _) o4 (.atom _ _ rfl), hold_op (.atom _ _ rfl) (.int _ _) o5 (.atom _ _ rfl), hold_op (.atom _ _ rfl) (.int _ _) o6 (.atom _ _ rfl), hold_op (.atom _ _ rfl) (.int _ _) o7 (.atom _ _ rfl), hold_op (.atom _ _ rfl) (.int _ _) o8 (.atom _ _ rfl), hold_op (.atom _ _ rfl) (.int _ _) o9 (.atom _ _ rfl), hold_op (.atom _ _ rfl) (.int _ _) o10 (.atom _ _ rfl), hold_op (.atom _ _ rfl) (.int _ _) o11 (.atom _ _ rfl), hold_op (.atom _ _ rfl) (.int _ _) o12 (.atom _ _ rfl), hold_op (.atom _ _ rfl) (.int _ _) o13 (.atom _ _ rfl), hold_op (.atom _ _ rfl) (.int _ _) o14 (.atom _ _ rfl), hold_op (.atom _ _ rfl) (.int _ _) o15 (.atom _ _ rfl), hold_op (.atom _ _ rfl) (.int _ _) o16 (.atom _ _ rfl), hold_op (.atom _ _ rfl) (.int _ _) o17 (.atom _ _ rfl), hold_op (.atom _ _ rfl) (.int _ _) o18 (.atom _ _ rfl), hold_op (.atom _ _ rfl) (.int _ _) o19 (.atom _ _ rfl), hold_op (.atom _ _ rfl) (.int _ _) o20 (.atom _ _ rfl), hold_bool (.atom _ _ rfl) (.atom _ _ rfl) (op_neq_f rfl), hold_bool (.atom _ _ rfl) (.atom _ _ rfl) (op_neq_f rfl), hold_bool (.atom _ _ rfl) (.atom _ _ rfl) (op_neq_f rfl), hold_bool (.atom _ _ rfl) (.atom _ _ rfl) (op_neq_f rfl), hold_bool (.atom _ _ rfl) (.atom _ _ rfl) (op_neq_f rfl), hold_bool (.atom _ _ rfl) (.atom _ _ rfl) (op_neq_f rfl), hold_bool (.atom _ _ rfl) (.atom _ _ rfl) (op_neq_f rfl), hold_bool (.atom _ _ rfl) (.atom _ _ rfl) (op_neq_f rfl), hold_bool (.atom _ _ rfl) (.atom _ _ rfl) (op_neq_f rfl), trivial⟩)) (Tryz.SinkOwn.k0 _ _) Tryz.SinkOwn.i20 rfl rfl rowsHold_nil Tryz.SinkOwn.r20
theorem Tryz.SinkOwn.n9 {W : World} {a0 : Option Addr} {m0 c0 : Nat} {f0q0 : Nat → Int} (h0 : SlcOk W a0 m0 c0 1 (fun i => [.int .i64 (f0q0 i)])) (b0 : (m0 : Int) < 9223372036854775808) (r0q0 : ∀ i, R64 (f0q0 i)) : NdGood Tryz.prog Tryz.f5 8 (firstHeap 8 Tryz.gsL) W Tryz.SinkOwn.p0 Tryz.SinkOwn.d9 [(.slice a0 m0 c0), (.int .i64 (f0q0 0)), (.int .i64 (f0q0 1)), (.int .i64 (f0q0 2)), (.int .i64 (f0q0 3)), (.int .i64 (f0q0 4)), (.int .i64 (f0q0 5)), (.int .i64 (f0q0 6)), (.int .i64 (f0q0 7))] := by
  by_cases q1 : (8 : Int) < (m0 : Int)
  ·
    have l2 : 8 < m0 := by omega
    obtain ⟨p2, v2⟩ := h0.elem l2
    have w2q0 := r0q0 8
    exact NdGood.next (E := (Tryz.Es Tryz.m4 (syOf Tryz.SinkOwn.t17))) (extras := [(.int .i64 (f0q0 8)), (.int .i64 (m0 : Int))]) (rows := [p2]) (vals' := [(.slice a0 m0 c0), (.int .i64 (f0q0 0)), (.int .i64 (f0q0 1)), (.int .i64 (f0q0 2)), (.int .i64 (f0q0 3)), (.int .i64 (f0q0 4)), (.int .i64 (f0q0 5)), (.int .i64 (f0q0 6)), (.int .i64 (f0q0 7)), (.int .i64 (f0q0 8))]) (by omega) (Tryz.right Tryz.m4 (syOf Tryz.SinkOwn.t17) _ W Tryz.mOk4 (symOk_of rfl ⟨hold_len (.atom _ _ rfl) (.atom _ _ rfl), hold_bool (.int _ _) (.atom _ _ rfl) (op_lss_t (by first | omega | assumption)), hold_idx v2 l2 (.atom _ _ rfl) (.int _ _) (by omega) rfl, trivial⟩)) (Tryz.SinkOwn.k0 _ _) Tryz.SinkOwn.i17 rfl rfl (rowsHold_cons (Elem.row v2 (VL.cons (.atom _ _ rfl) VL.nil)) rowsHold_nil) Tryz.SinkOwn.r17 rfl rfl (Tryz.SinkOwn.n10 h0 b0 r0q0 )
  ·
    obtain ⟨d3, e3, g3, o3⟩ := ex_add (f0q0 0) (9 : Int)
    obtain ⟨d4, e4, g4, o4⟩ := ex_add (f0q0 1) (9 : Int)
    obtain ⟨d5, e5, g5, o5⟩ := ex_add (f0q0 2) (9 : Int)
    obtain ⟨d6, e6, g6, o6⟩ := ex_add (f0q0 3) (9 : Int)
    obtain ⟨d7, e7, g7, o7⟩ := ex_add (f0q0 4) (9 : Int)
    obtain ⟨d8, e8, g8, o8⟩ := ex_add (f0q0 5) (9 : Int)
    obtain ⟨d9, e9, g9, o9⟩ := ex_add (f0q0 6) (9 : Int)
    obtain ⟨d10, e10, g10, o10⟩ := ex_add (f0q0 7) (9 : Int)
    obtain ⟨d11, e11, g11, o11⟩ := ex_add (f0q0 0) (7 : Int)
    obtain ⟨d12, e12, g12, o12⟩ := ex_add (f0q0 1) (7 : Int)
    obtain ⟨d13, e13, g13, o13⟩ := ex_add (f0q0 2) (7 : Int)
    obtain ⟨d14, e14, g14, o14⟩ := ex_add (f0q0 3) (7 : Int)
    obtain ⟨d15, e15, g15, o15⟩ := ex_add (f0q0 4) (7 : Int)
    obtain ⟨d16, e16, g16, o16⟩ := ex_add (f0q0 5) (7 : Int)
    obtain ⟨d17, e17, g17, o17⟩ := ex_add (f0q0 6) (7 : Int)
    obtain ⟨d18, e18, g18, o18⟩ := ex_add (f0q0 7) (7 : Int)
    exact NdGood.fin (E := (Tryz.Es Tryz.m4 (syOf Tryz.SinkOwn.t18))) (extras := [(.int .i64 (m0 : Int)), (.int .i64 d3), (.int .i64 d4), (.int .i64 d5), (.int .i64 d6), (.int .i64 d7), (.int .i64 d8), (.int .i64 d9), (.int .i64 d10), (.int .i64 d11), (.int .i64 d12), (.int .i64 d13), (.int .i64 d14), (.int .i64 d15), (.int .i64 d16), (.int .i64 d17), (.int .i64 d18)]) (rows := []) (by omega) (Tryz.right Tryz.m4 (syOf Tryz.SinkOwn.t18) _ W Tryz.mOk4 (symOk_of rfl ⟨hold_len (.atom _ _ rfl) (.atom _ _ rfl), hold_bool (.int _ _) (.atom _ _ rfl) (op_lss_f (by first | omega | assumption)), hold_op (.atom _ _ rfl) (.int _ _) o3 (.atom _ _ rfl), hold_op (.atom _ _ rfl) (.int _ _) o4 (.atom _ _ rfl), hold_op (.atom _ _ rfl) (.int _ _) o5 (.atom _ _ rfl), hold_op (.atom _ _ rfl) (.int _ _) o6 (.atom _ _ rfl), hold_op (.atom _ _ rfl) (.int _ _) o7 (.atom _ _ rfl), hold_op (.atom _ _ rfl) (.int _ _) o8 (.atom _ _ rfl), hold_op (.atom _ _ rfl) (.int _ _) o9 (.atom _ _ rfl), hold_op (.atom _ _ rfl) (.int _ _) o10 (.atom _ _ rfl), hold_op (.atom _ _ rfl) (.int _ _) o11 (.atom _ _ rfl), hold_op (.atom _ _ rfl) (.int _ _) o12 (.atom _ _ rfl), hold_op (.atom _ _ rfl) (.int _ _) o13 (.atom _ _ rfl), hold_op (.atom _ _ rfl) (.int _ _) o14 (.atom _ _ rfl), hold_op (.atom _ _ rfl) (.int _ _) o15 (.atom _ _ rfl), hold_op (.atom _ _ rfl) (.int _ _) o16 (.atom _ _ rfl), hold_op (.atom _ _ rfl) (.int _ _) o17 (.atom _ _ rfl), hold_op (.atom _ _ rfl) (.int _ _) o18 (.atom _ _ rfl), hold_bool (.atom _ _ rfl) (.atom _ _ rfl) (op_neq_f rfl), hold_bool (.atom _ _ rfl) (.atom _ _ rfl) (op_neq_f rfl), hold_bool (.atom _ _ rfl) (.atom _ _ rfl) (op_neq_f rfl), hold_bool (.atom _ _ rfl) (.atom _ _ rfl) (op_neq_f rfl), hold_bool (.atom _ _ rfl) (.atom _ _ rfl) (op_neq_f rfl), hold_bool (.atom _ _ rfl) (.atom _ _ rfl) (op_neq_f rfl), hold_bool (.atom _ _ rfl) (.atom _ _ rfl) (op_neq_f rfl), hold_bool (.atom _ _ rfl) (.atom _ _ rfl) (op_neq_f rfl), trivial⟩)) (Tryz.SinkOwn.k0 _ _) Tryz.SinkOwn.i18 rfl rfl rowsHold_nil Tryz.SinkOwn.r18
theorem Tryz.SinkOwn.n8 {W : World} {a0 : Option Addr} {m0 c0 : Nat} {f0q0 : Nat → Int} (h0 : SlcOk W a0 m0 c0 1 (fun i => [.int .i64 (f0q0 i)])) (b0 : (m0 : Int) < 9223372036854775808) (r0q0 : ∀ i, R64 (f0q0 i)) : NdGood Tryz.prog Tryz.f5 8 (firstHeap 8 Tryz.gsL) W Tryz.SinkOwn.p0 Tryz.SinkOwn.d8 [(.slice a0 m0 c0), (.int .i64 (f0q0 0)), (.int .i64 (f0q0 1)), (.int .i64 (f0q0 2)), (.int .i64 (f0q0 3)), (.int .i64 (f0q0 4)), (.int .i64 (f0q0 5)), (.int .i64 (f0q0 6))] := by
  by_cases q1 : (7 : Int) < (m0 : Int)
  ·
    have l2 : 7 < m0 := by omega
    obtain ⟨p2, v2⟩ := h0.elem l2
    have w2q0 := r0q0 7
    exact NdGood.next (E := (Tryz.Es Tryz.m4 (syOf Tryz.SinkOwn.t15))) (extras := [(.int .i64 (f0q0 7)), (.int .i64 (m0 : Int))]) (rows := [p2]) (vals' := [(.slice a0 m0 c0), (.int .i64 (f0q0 0)), (.int .i64 (f0q0 1)), (.int .i64 (f0q0 2)), (.int .i64 (f0q0 3)), (.int .i64 (f0q0 4)), (.int .i64 (f0q0 5)), (.int .i64 (f0q0 6)), (.int .i64 (f0q0 7))]) (by omega) (Tryz.right Tryz.m4 (syOf Tryz.SinkOwn.t15) _ W Tryz.mOk4 (symOk_of rfl ⟨hold_len (.atom _ _ rfl) (.atom _ _ rfl), hold_bool (.int _ _) (.atom _ _ rfl) (op_lss_t (by first | omega | assumption)), hold_idx v2 l2 (.atom _ _ rfl) (.int _ _) (by omega) rfl, trivial⟩)) (Tryz.SinkOwn.k0 _ _) Tryz.SinkOwn.i15 rfl rfl (rowsHold_cons (Elem.row v2 (VL.cons (.atom _ _ rfl) VL.nil)) rowsHold_nil) Tryz.SinkOwn.r15 rfl rfl (Tryz.SinkOwn.n9 h0 b0 r0q0 )
  ·
    obtain ⟨d3, e3, g3, o3⟩ := ex_add (f0q0 0) (9 : Int)
    obtain ⟨d4, e4, g4, o4⟩ := ex_add (f0q0 1) (9 : Int)
    obtain ⟨d5, e5, g5, o5⟩ := ex_add (f0q0 2) (9 : Int)
    obtain ⟨d6, e6, g6, o6⟩ := ex_add (f0q0 3) (9 : Int)
    obtain ⟨d7, e7, g7, o7⟩ := ex_add (f0q0 4) (9 : Int)
    obtain ⟨d8, e8, g8, o8⟩ := ex_add (f0q0 5) (9 : Int)
    obtain ⟨d9, e9, g9, o9⟩ := ex_add (f0q0 6) (9 : Int)
    obtain ⟨d10, e10, g10, o10⟩ := ex_add (f0q0 0) (7 : Int)
    obtain ⟨d11, e11, g11, o11⟩ := ex_add (f0q0 1) (7 : Int)
    obtain ⟨d12, e12, g12, o12⟩ := ex_add (f0q0 2) (7 : Int)
    obtain ⟨d13, e13, g13, o13⟩ := ex_add (f0q0 3) (7 : Int)
    obtain ⟨d14, e14, g14, o14⟩ := ex_add (f0q0 4) (7 : Int)
    obtain ⟨d15, e15, g15, o15⟩ := ex_add (f0q0 5) (7 : Int)
    obtain ⟨d16, e16, g16, o16⟩ := ex_add (f0q0 6) (7 : Int)
    exact NdGood.fin (E := (Tryz.Es Tryz.m4 (syOf Tryz.SinkOwn.t16))) (extras := [(.int .i64 (m0 : Int)), (.int .i64 d3), (.int .i64 d4), (.int .i64 d5), (.int .i64 d6), (.int .i64 d7), (.int .i64 d8), (.int .i64 d9), (.int .i64 d10), (.int .i64 d11), (.int .i64 d12), (.int .i64 d13), (.int .i64 d14), (.int .i64 d15), (.int .i64 d16)]) (rows := []) (by omega) (Tryz.right Tryz.m4 (syOf Tryz.SinkOwn.t16) _ W Tryz.mOk4 (symOk_of rfl ⟨hold_len (.atom _ _ rfl) (.atom _ _ rfl), hold_bool (.int _ _) (.atom _ _ rfl) (op_lss_f (by first | omega | assumption)), hold_op (.atom _ _ rfl) (.int _ _) o3 (.atom _ _ rfl), hold_op (.atom _ _ rfl) (.int _ _) o4 (.atom _ _ rfl), hold_op (.atom _ _ rfl) (.int _ _) o5 (.atom _ _ rfl), hold_op (.atom _ _ rfl) (.int _ _) o6 (.atom _ _ rfl), hold_op (.atom _ _ rfl) (.int _ _) o7 (.atom _ _ rfl), hold_op (.atom _ _ rfl) (.int _ _) o8 (.atom _ _ rfl), hold_op (.atom _ _ rfl) (.int _ _) o9 (.atom _ _ rfl), hold_op (.atom _ _ rfl) (.int _ _) o10 (.atom _ _ rfl), hold_op (.atom _ _ rfl) (.int _ _) o11 (.atom _ _ rfl), hold_op (.atom _ _ rfl) (.int _ _) o12 (.atom _ _ rfl), hold_op (.atom _ _ rfl) (.int _ _) o13 (.atom _ _ rfl), hold_op (.atom _ _ rfl) (.int _ _) o14 (.atom _ _ rfl), hold_op (.atom _ _ rfl) (.int _ _) o15 (.atom _ _ rfl), hold_op (.atom _ _ rfl) (.int _ _) o16 (.atom _ _ rfl), hold_bool (.atom _ _ rfl) (.atom _ _ rfl) (op_neq_f rfl), hold_bool (.atom _ _ rfl) (.atom _ _ rfl) (op_neq_f rfl), hold_bool (.atom _ _ rfl) (.atom _ _ rfl) (op_neq_f rfl), hold_bool (.atom _ _ rfl) (.atom _ _ rfl) (op_neq_f rfl), hold_bool (.atom _ _ rfl) (.atom _ _ rfl) (op_neq_f rfl), hold_bool (.atom _ _ rfl) (.atom _ _ rfl) (op_neq_f rfl), hold_bool (.atom _ _ rfl) (.atom _ _ rfl) (op_neq_f rfl), trivial⟩)) (Tryz.SinkOwn.k0 _ _) Tryz.SinkOwn.i16 rfl rfl rowsHold_nil Tryz.SinkOwn.r16
theorem Tryz.SinkOwn.n7 {W : World} {a0 : Option Addr} {m0 c0 : Nat} {f0q0 : Nat → Int} (h0 : SlcOk W a0 m0 c0 1 (fun i => [.int .i64 (f0q0 i)])) (b0 : (m0 : Int) < 9223372036854775808) (r0q0 : ∀ i, R64 (f0q0 i)) : NdGood Tryz.prog Tryz.f5 8 (firstHeap 8 Tryz.gsL) W Tryz.SinkOwn.p0 Tryz.SinkOwn.d7 [(.slice a0 m0 c0), (.int .i64 (f0q0 0)), (.int .i64 (f0q0 1)), (.int .i64 (f0q0 2)), (.int .i64 (f0q0 3)), (.int .i64 (f0q0 4)), (.int .i64 (f0q0 5))] := by
  by_cases q1 : (6 : Int) < (m0 : Int)
  ·
    have l2 : 6 < m0 := by omega
    obtain ⟨p2, v2⟩ := h0.elem l2
    have w2q0 := r0q0 6
    exact NdGood.next (E := (Tryz.Es Tryz.m4 (syOf Tryz.SinkOwn.t13))) (extras := [(.int .i64 (f0q0 6)), (.int .i64 (m0 : Int))]) (rows := [p2]) (vals' := [(.slice a0 m0 c0), (.int .i64 (f0q0 0)), (.int .i64 (f0q0 1)), (.int .i64 (f0q0 2)), (.int .i64 (f0q0 3)), (.int .i64 (f0q0 4)), (.int .i64 (f0q0 5)), (.int .i64 (f0q0 6))]) (by omega) (Tryz.right Tryz.m4 (syOf Tryz.SinkOwn.t13) _ W Tryz.mOk4 (symOk_of rfl ⟨hold_len (.atom _ _ rfl) (.atom _ _ rfl), hold_bool (.int _ _) (.atom _ _ rfl) (op_lss_t (by first | omega | assumption)), hold_idx v2 l2 (.atom _ _ rfl) (.int _ _) (by omega) rfl, trivial⟩)) (Tryz.SinkOwn.k0 _ _) Tryz.SinkOwn.i13 rfl rfl (rowsHold_cons (Elem.row v2 (VL.cons (.atom _ _ rfl) VL.nil)) rowsHold_nil) Tryz.SinkOwn.r13 rfl rfl (Tryz.SinkOwn.n8 h0 b0 r0q0 )
  ·
    obtain ⟨d3, e3, g3, o3⟩ := ex_add (f0q0 0) (9 : Int)
    obtain ⟨d4, e4, g4, o4⟩ := ex_add (f0q0 1) (9 : Int)
    obtain ⟨d5, e5, g5, o5⟩ := ex_add (f0q0 2) (9 : Int)
    obtain ⟨d6, e6, g6, o6⟩ := ex_add (f0q0 3) (9 : Int)
    obtain ⟨d7, e7, g7, o7⟩ := ex_add (f0q0 4) (9 : Int)
    obtain ⟨d8, e8, g8, o8⟩ := ex_add (f0q0 5) (9 : Int)
    obtain ⟨d9, e9, g9, o9⟩ := ex_add (f0q0 0) (7 : Int)
    obtain ⟨d10, e10, g10, o10⟩ := ex_add (f0q0 1) (7 : Int)
    obtain ⟨d11, e11, g11, o11⟩ := ex_add (f0q0 2) (7 : Int)
    obtain ⟨d12, e12, g12, o12⟩ := ex_add (f0q0 3) (7 : Int)
    obtain ⟨d13, e13, g13, o13⟩ := ex_add (f0q0 4) (7 : Int)
    obtain ⟨d14, e14, g14, o14⟩ := ex_add (f0q0 5) (7 : Int)
    exact NdGood.fin (E := (Tryz.Es Tryz.m4 (syOf Tryz.SinkOwn.t14))) (extras := [(.int .i64 (m0 : Int)), (.int .i64 d3), (.int .i64 d4), (.int .i64 d5), (.int .i64 d6), (.int .i64 d7), (.int .i64 d8), (.int .i64 d9), (.int .i64 d10), (.int .i64 d11), (.int .i64 d12), (.int .i64 d13), (.int .i64 d14)]) (rows := []) (by omega) (Tryz.right Tryz.m4 (syOf Tryz.SinkOwn.t14) _ W Tryz.mOk4 (symOk_of rfl ⟨hold_len (.atom _ _ rfl) (.atom _ _ rfl), hold_bool (.int _ _) (.atom _ _ rfl) (op_lss_f (by first | omega | assumption)), hold_op (.atom _ _ rfl) (.int _ _) o3 (.atom _ _ rfl), hold_op (.atom _ _ rfl) (.int _ _) o4 (.atom _ _ rfl), hold_op (.atom _ _ rfl) (.int _ _) o5 (.atom _ _ rfl), hold_op (.atom _ _ rfl) (.int _ _) o6 (.atom _ _ rfl), hold_op (.atom _ _ rfl) (.int _ _) o7 (.atom _ _ rfl), hold_op (.atom _ _ rfl) (.int _ _) o8 (.atom _ _ rfl), hold_op (.atom _ _ rfl) (.int _ _) o9 (.atom _ _ rfl), hold_op (.atom _ _ rfl) (.int _ _) o10 (.atom _ _ rfl), hold_op (.atom _ _ rfl) (.int _ _) o11 (.atom _ _ rfl), hold_op (.atom _ _ rfl) (.int _ _) o12 (.atom _ _ rfl), hold_op (.atom _ _ rfl) (.int _ _) o13 (.atom _ _ rfl), hold_op (.atom _ _ rfl) (.int _ _) o14 (.atom _ _ rfl), hold_bool (.atom _ _ rfl) (.atom _ _ rfl) (op_neq_f rfl), hold_bool (.atom _ _ rfl) (.atom _ _ rfl) (op_neq_f rfl), hold_bool (.atom _ _ rfl) (.atom _ _ rfl) (op_neq_f rfl), hold_bool (.atom _ _ rfl) (.atom _ _ rfl) (op_neq_f rfl), hold_bool (.atom _ _ rfl) (.atom _ _ rfl) (op_neq_f rfl), hold_bool (.atom _ _ rfl) (.atom _ _ rfl) (op_neq_f rfl), trivial⟩)) (Tryz.SinkOwn.k0 _ _) Tryz.SinkOwn.i14 rfl rfl rowsHold_nil Tryz.SinkOwn.r14
theorem Tryz.SinkOwn.n6 {W : World} {a0 : Option Addr} {m0 c0 : Nat} {f0q0 : Nat → Int} (h0 : SlcOk W a0 m0 c0 1 (fun i => [.int .i64 (f0q0 i)])) (b0 : (m0 : Int) < 9223372036854775808) (r0q0 : ∀ i, R64 (f0q0 i)) : NdGood Tryz.prog Tryz.f5 8 (firstHeap 8 Tryz.gsL) W Tryz.SinkOwn.p0 Tryz.SinkOwn.d6 [(.slice a0 m0 c0), (.int .i64 (f0q0 0)), (.int .i64 (f0q0 1)), (.int .i64 (f0q0 2)), (.int .i64 (f0q0 3)), (.int .i64 (f0q0 4))] := by
  by_cases q1 : (5 : Int) < (m0 : Int)
  ·
    have l2 : 5 < m0 := by omega
    obtain ⟨p2, v2⟩ := h0.elem l2
    have w2q0 := r0q0 5
    exact NdGood.next (E := (Tryz.Es Tryz.m4 (syOf Tryz.SinkOwn.t11))) (extras := [(.int .i64 (f0q0 5)), (.int .i64 (m0 : Int))]) (rows := [p2]) (vals' := [(.slice a0 m0 c0), (.int .i64 (f0q0 0)), (.int .i64 (f0q0 1)), (.int .i64 (f0q0 2)), (.int .i64 (f0q0 3)), (.int .i64 (f0q0 4)), (.int .i64 (f0q0 5))]) (by omega) (Tryz.right Tryz.m4 (syOf Tryz.SinkOwn.t11) _ W Tryz.mOk4 (symOk_of rfl ⟨hold_len (.atom _ _ rfl) (.atom _ _ rfl), hold_bool (.int _ _) (.atom _ _ rfl) (op_lss_t (by first | omega | assumption)), hold_idx v2 l2 (.atom _ _ rfl) (.int _ _) (by omega) rfl, trivial⟩)) (Tryz.SinkOwn.k0 _ _) Tryz.SinkOwn.i11 rfl rfl (rowsHold_cons (Elem.row v2 (VL.cons (.atom _ _ rfl) VL.nil)) rowsHold_nil) Tryz.SinkOwn.r11 rfl rfl (Tryz.SinkOwn.n7 h0 b0 r0q0 )
  ·
    obtain ⟨d3, e3, g3, o3⟩ := ex_add (f0q0 0) (9 : Int)
    obtain ⟨d4, e4, g4, o4⟩ := ex_add (f0q0 1) (9 : Int)
    obtain ⟨d5, e5, g5, o5⟩ := ex_add (f0q0 2) (9 : Int)
    obtain ⟨d6, e6, g6, o6⟩ := ex_add (f0q0 3) (9 : Int)
    obtain ⟨d7, e7, g7, o7⟩ := ex_add (f0q0 4) (9 : Int)
    obtain ⟨d8, e8, g8, o8⟩ := ex_add (f0q0 0) (7 : Int)
    obtain ⟨d9, e9, g9, o9⟩ := ex_add (f0q0 1) (7 : Int)
    obtain ⟨d10, e10, g10, o10⟩ := ex_add (f0q0 2) (7 : Int)
    obtain ⟨d11, e11, g11, o11⟩ := ex_add (f0q0 3) (7 : Int)
    obtain ⟨d12, e12, g12, o12⟩ := ex_add (f0q0 4) (7 : Int)
    exact NdGood.fin (E := (Tryz.Es Tryz.m4 (syOf Tryz.SinkOwn.t12))) (extras := [(.int .i64 (m0 : Int)), (.int .i64 d3), (.int .i64 d4), (.int .i64 d5), (.int .i64 d6), (.int .i64 d7), (.int .i64 d8), (.int .i64 d9), (.int .i64 d10), (.int .i64 d11), (.int .i64 d12)]) (rows := []) (by omega) (Tryz.right Tryz.m4 (syOf Tryz.SinkOwn.t12) _ W Tryz.mOk4 (symOk_of rfl ⟨hold_len (.atom _ _ rfl) (.atom _ _ rfl), hold_bool (.int _ _) (.atom _ _ rfl) (op_lss_f (by first | omega | assumption)), hold_op (.atom _ _ rfl) (.int _ _) o3 (.atom _ _ rfl), hold_op (.atom _ _ rfl) (.int _ _) o4 (.atom _ _ rfl), hold_op (.atom _ _ rfl) (.int _ _) o5 (.atom _ _ rfl), hold_op (.atom _ _ rfl) (.int _ _) o6 (.atom _ _ rfl), hold_op (.atom _ _ rfl) (.int _ _) o7 (.atom _ _ rfl), hold_op (.atom _ _ rfl) (.int _ _) o8 (.atom _ _ rfl), hold_op (.atom _ _ rfl) (.int _ _) o9 (.atom _ _ rfl), hold_op (.atom _ _ rfl) (.int _ _) o10 (.atom _ _ rfl), hold_op (.atom _ _ rfl) (.int _ _) o11 (.atom _ _ rfl), hold_op (.atom _ _ rfl) (.int _ _) o12 (.atom _ _ rfl), hold_bool (.atom _ _ rfl) (.atom _ _ rfl) (op_neq_f rfl), hold_bool (.atom _ _ rfl) (.atom _ _ rfl) (op_neq_f rfl), hold_bool (.atom _ _ rfl) (.atom _ _ rfl) (op_neq_f rfl), hold_bool (.atom _ _ rfl) (.atom _ _ rfl) (op_neq_f rfl), hold_bool (.atom _ _ rfl) (.atom _ _ rfl) (op_neq_f rfl), trivial⟩)) (Tryz.SinkOwn.k0 _ _) Tryz.SinkOwn.i12 rfl rfl rowsHold_nil Tryz.SinkOwn.r12
theorem Tryz.SinkOwn.n5 {W : World} {a0 : Option Addr} {m0 c0 : Nat} {f0q0 : Nat → Int} (h0 : SlcOk W a0 m0 c0 1 (fun i => [.int .i64 (f0q0 i)])) (b0 : (m0 : Int) < 9223372036854775808) (r0q0 : ∀ i, R64 (f0q0 i)) : NdGood Tryz.prog Tryz.f5 8 (firstHeap 8 Tryz.gsL) W Tryz.SinkOwn.p0 Tryz.SinkOwn.d5 [(.slice a0 m0 c0), (.int .i64 (f0q0 0)), (.int .i64 (f0q0 1)), (.int .i64 (f0q0 2)), (.int .i64 (f0q0 3))] := by
  by_cases q1 : (4 : Int) < (m0 : Int)
  ·
    have l2 : 4 < m0 := by omega
    obtain ⟨p2, v2⟩ := h0.elem l2
    have w2q0 := r0q0 4
    exact NdGood.next (E := (Tryz.Es Tryz.m4 (syOf Tryz.SinkOwn.t9))) (extras := [(.int .i64 (f0q0 4)), (.int .i64 (m0 : Int))]) (rows := [p2]) (vals' := [(.slice a0 m0 c0), (.int .i64 (f0q0 0)), (.int .i64 (f0q0 1)), (.int .i64 (f0q0 2)), (.int .i64 (f0q0 3)), (.int .i64 (f0q0 4))]) (by omega) (Tryz.right Tryz.m4 (syOf Tryz.SinkOwn.t9) _ W Tryz.mOk4 (symOk_of rfl ⟨hold_len (.atom _ _ rfl) (.atom _ _ rfl), hold_bool (.int _ _) (.atom _ _ rfl) (op_lss_t (by first | omega | assumption)), hold_idx v2 l2 (.atom _ _ rfl) (.int _ _) (by omega) rfl, trivial⟩)) (Tryz.SinkOwn.k0 _ _) Tryz.SinkOwn.i9 rfl rfl (rowsHold_cons (Elem.row v2 (VL.cons (.atom _ _ rfl) VL.nil)) rowsHold_nil) Tryz.SinkOwn.r9 rfl rfl (Tryz.SinkOwn.n6 h0 b0 r0q0 )
  ·
    obtain ⟨d3, e3, g3, o3⟩ := ex_add (f0q0 0) (9 : Int)
    obtain ⟨d4, e4, g4, o4⟩ := ex_add (f0q0 1) (9 : Int)
    obtain ⟨d5, e5, g5, o5⟩ := ex_add (f0q0 2) (9 : Int)
    obtain ⟨d6, e6, g6, o6⟩ := ex_add (f0q0 3) (9 : Int)
    obtain ⟨d7, e7, g7, o7⟩ := ex_add (f0q0 0) (7 : Int)
    obtain ⟨d8, e8, g8, o8⟩ := ex_add (f0q0 1) (7 : Int)
    obtain ⟨d9, e9, g9, o9⟩ := ex_add (f0q0 2) (7 : Int)
    obtain ⟨d10, e10, g10, o10⟩ := ex_add (f0q0 3) (7 : Int)
    exact NdGood.fin (E := (Tryz.Es Tryz.m4 (syOf Tryz.SinkOwn.t10))) (extras := [(.int .i64 (m0 : Int)), (.int .i64 d3), (.int .i64 d4), (.int .i64 d5), (.int .i64 d6), (.int .i64 d7), (.int .i64 d8), (.int .i64 d9), (.int .i64 d10)]) (rows := []) (by omega) (Tryz.right Tryz.m4 (syOf Tryz.SinkOwn.t10) _ W Tryz.mOk4 (symOk_of rfl ⟨hold_len (.atom _ _ rfl) (.atom _ _ rfl), hold_bool (.int _ _) (.atom _ _ rfl) (op_lss_f (by first | omega | assumption)), hold_op (.atom _ _ rfl) (.int _ _) o3 (.atom _ _ rfl), hold_op (.atom _ _ rfl) (.int _ _) o4 (.atom _ _ rfl), hold_op (.atom _ _ rfl) (.int _ _) o5 (.atom _ _ rfl), hold_op (.atom _ _ rfl) (.int _ _) o6 (.atom _ _ rfl), hold_op (.atom _ _ rfl) (.int _ _) o7 (.atom _ _ rfl), hold_op (.atom _ _ rfl) (.int _ _) o8 (.atom _ _ rfl), hold_op (.atom _ _ rfl) (.int _ _) o9 (.atom _ _ rfl), hold_op (.atom _ _ rfl) (.int _ _) o10 (.atom _ _ rfl), hold_bool (.atom _ _ rfl) (.atom _ _ rfl) (op_neq_f rfl), hold_bool (.atom _ _ rfl) (.atom _ _ rfl) (op_neq_f rfl), hold_bool (.atom _ _ rfl) (.atom _ _ rfl) (op_neq_f rfl), hold_bool (.atom _ _ rfl) (.atom _ _ rfl) (op_neq_f rfl), trivial⟩)) (Tryz.SinkOwn.k0 _ _) Tryz.SinkOwn.i10 rfl rfl rowsHold_nil Tryz.SinkOwn.r10
theorem Tryz.SinkOwn.n4 {W : World} {a0 : Option Addr} {m0 c0 : Nat} {f0q0 : Nat → Int} (h0 : SlcOk W a0 m0 c0 1 (fun i => [.int .i64 (f0q0 i)])) (b0 : (m0 : Int) < 9223372036854775808) (r0q0 : ∀ i, R64 (f0q0 i)) : NdGood Tryz.prog Tryz.f5 8 (firstHeap 8 Tryz.gsL) W Tryz.SinkOwn.p0 Tryz.SinkOwn.d4 [(.slice a0 m0 c0), (.int .i64 (f0q0 0)), (.int .i64 (f0q0 1)), (.int .i64 (f0q0 2))] := by
  by_cases q1 : (3 : Int) < (m0 : Int)
  ·
    have l2 : 3 < m0 := by omega
    obtain ⟨p2, v2⟩ := h0.elem l2
    have w2q0 := r0q0 3
    exact NdGood.next (E := (Tryz.Es Tryz.m4 (syOf Tryz.SinkOwn.t7))) (extras := [(.int .i64 (f0q0 3)), (.int .i64 (m0 : Int))]) (rows := [p2]) (vals' := [(.slice a0 m0 c0), (.int .i64 (f0q0 0)), (.int .i64 (f0q0 1)), (.int .i64 (f0q0 2)), (.int .i64 (f0q0 3))]) (by omega) (Tryz.right Tryz.m4 (syOf Tryz.SinkOwn.t7) _ W Tryz.mOk4 (symOk_of rfl ⟨hold_len (.atom _ _ rfl) (.atom _ _ rfl), hold_bool (.int _ _) (.atom _ _ rfl) (op_lss_t (by first | omega | assumption)), hold_idx v2 l2 (.atom _ _ rfl) (.int _ _) (by omega) rfl, trivial⟩)) (Tryz.SinkOwn.k0 _ _) Tryz.SinkOwn.i7 rfl rfl (rowsHold_cons (Elem.row v2 (VL.cons (.atom _ _ rfl) VL.nil)) rowsHold_nil) Tryz.SinkOwn.r7 rfl rfl (Tryz.SinkOwn.n5 h0 b0 r0q0 )
  ·
    obtain ⟨d3, e3, g3, o3⟩ := ex_add (f0q0 0) (9 : Int)
    obtain ⟨d4, e4, g4, o4⟩ := ex_add (f0q0 1) (9 : Int)
    obtain ⟨d5, e5, g5, o5⟩ := ex_add (f0q0 2) (9 : Int)
    obtain ⟨d6, e6, g6, o6⟩ := ex_add (f0q0 0) (7 : Int)
    obtain ⟨d7, e7, g7, o7⟩ := ex_add (f0q0 1) (7 : Int)
    obtain ⟨d8, e8, g8, o8⟩ := ex_add (f0q0 2) (7 : Int)
    exact NdGood.fin (E := (Tryz.Es Tryz.m4 (syOf Tryz.SinkOwn.t8))) (extras := [(.int .i64 (m0 : Int)), (.int .i64 d3), (.int .i64 d4), (.int .i64 d5), (.int .i64 d6), (.int .i64 d7), (.int .i64 d8)]) (rows := []) (by omega) (Tryz.right Tryz.m4 (syOf Tryz.SinkOwn.t8) _ W Tryz.mOk4 (symOk_of rfl ⟨hold_len (.atom _ _ rfl) (.atom _ _ rfl), hold_bool (.int _ _) (.atom _ _ rfl) (op_lss_f (by first | omega | assumption)), hold_op (.atom _ _ rfl) (.int _ _) o3 (.atom _ _ rfl), hold_op (.atom _ _ rfl) (.int _ _) o4 (.atom _ _ rfl), hold_op (.atom _ _ rfl) (.int _ _) o5 (.atom _ _ rfl), hold_op (.atom _ _ rfl) (.int _ _) o6 (.atom _ _ rfl), hold_op (.atom _ _ rfl) (.int _ _) o7 (.atom _ _ rfl), hold_op (.atom _ _ rfl) (.int _ _) o8 (.atom _ _ rfl), hold_bool (.atom _ _ rfl) (.atom _ _ rfl) (op_neq_f rfl), hold_bool (.atom _ _ rfl) (.atom _ _ rfl) (op_neq_f rfl), hold_bool (.atom _ _ rfl) (.atom _ _ rfl) (op_neq_f rfl), trivial⟩)) (Tryz.SinkOwn.k0 _ _) Tryz.SinkOwn.i8 rfl rfl rowsHold_nil Tryz.SinkOwn.r8
theorem Tryz.SinkOwn.n3 {W : World} {a0 : Option Addr} {m0 c0 : Nat} {f0q0 : Nat → Int} (h0 : SlcOk W a0 m0 c0 1 (fun i => [.int .i64 (f0q0 i)])) (b0 : (m0 : Int) < 9223372036854775808) (r0q0 : ∀ i, R64 (f0q0 i)) : NdGood Tryz.prog Tryz.f5 8 (firstHeap 8 Tryz.gsL) W Tryz.SinkOwn.p0 Tryz.SinkOwn.d3 [(.slice a0 m0 c0), (.int .i64 (f0q0 0)), (.int .i64 (f0q0 1))] := by
  by_cases q1 : (2 : Int) < (m0 : Int)
  ·
    have l2 : 2 < m0 := by omega
    obtain ⟨p2, v2⟩ := h0.elem l2
    have w2q0 := r0q0 2
    exact NdGood.next (E := (Tryz.Es Tryz.m4 (syOf Tryz.SinkOwn.t5))) (extras := [(.int .i64 (f0q0 2)), (.int .i64 (m0 : Int))]) (rows := [p2]) (vals' := [(.slice a0 m0 c0), (.int .i64 (f0q0 0)), (.int .i64 (f0q0 1)), (.int .i64 (f0q0 2))]) (by omega) (Tryz.right Tryz.m4 (syOf Tryz.SinkOwn.t5) _ W Tryz.mOk4 (symOk_of rfl ⟨hold_len (.atom _ _ rfl) (.atom _ _ rfl), hold_bool (.int _ _) (.atom _ _ rfl) (op_lss_t (by first | omega | assumption)), hold_idx v2 l2 (.atom _ _ rfl) (.int _ _) (by omega) rfl, trivial⟩)) (Tryz.SinkOwn.k0 _ _) Tryz.SinkOwn.i5 rfl rfl (rowsHold_cons (Elem.row v2 (VL.cons (.atom _ _ rfl) VL.nil)) rowsHold_nil) Tryz.SinkOwn.r5 rfl rfl (Tryz.SinkOwn.n4 h0 b0 r0q0 )
  ·
    obtain ⟨d3, e3, g3, o3⟩ := ex_add (f0q0 0) (9 : Int)
    obtain ⟨d4, e4, g4, o4⟩ := ex_add (f0q0 1) (9 : Int)
    obtain ⟨d5, e5, g5, o5⟩ := ex_add (f0q0 0) (7 : Int)
    obtain ⟨d6, e6, g6, o6⟩ := ex_add (f0q0 1) (7 : Int)
    exact NdGood.fin (E := (Tryz.Es Tryz.m4 (syOf Tryz.SinkOwn.t6))) (extras := [(.int .i64 (m0 : Int)), (.int .i64 d3), (.int .i64 d4), (.int .i64 d5), (.int .i64 d6)]) (rows := []) (by omega) (Tryz.right Tryz.m4 (syOf Tryz.SinkOwn.t6) _ W Tryz.mOk4 (symOk_of rfl ⟨hold_len (.atom _ _ rfl) (.atom _ _ rfl), hold_bool (.int _ _) (.atom _ _ rfl) (op_lss_f (by first | omega | assumption)), hold_op (.atom _ _ rfl) (.int _ _) o3 (.atom _ _ rfl), hold_op (.atom _ _ rfl) (.int _ _) o4 (.atom _ _ rfl), hold_op (.atom _ _ rfl) (.int _ _) o5 (.atom _ _ rfl), hold_op (.atom _ _ rfl) (.int _ _) o6 (.atom _ _ rfl), hold_bool (.atom _ _ rfl) (.atom _ _ rfl) (op_neq_f rfl), hold_bool (.atom _ _ rfl) (.atom _ _ rfl) (op_neq_f rfl), trivial⟩)) (Tryz.SinkOwn.k0 _ _) Tryz.SinkOwn.i6 rfl rfl rowsHold_nil Tryz.SinkOwn.r6
theorem Tryz.SinkOwn.n2 {W : World} {a0 : Option Addr} {m0 c0 : Nat} {f0q0 : Nat → Int} (h0 : SlcOk W a0 m0 c0 1 (fun i => [.int .i64 (f0q0 i)])) (b0 : (m0 : Int) < 9223372036854775808) (r0q0 : ∀ i, R64 (f0q0 i)) : NdGood Tryz.prog Tryz.f5 8 (firstHeap 8 Tryz.gsL) W Tryz.SinkOwn.p0 Tryz.SinkOwn.d2 [(.slice a0 m0 c0), (.int .i64 (f0q0 0))] := by
  by_cases q1 : (1 : Int) < (m0 : Int)
  ·
    have l2 : 1 < m0 := by omega
    obtain ⟨p2, v2⟩ := h0.elem l2
    have w2q0 := r0q0 1
    exact NdGood.next (E := (Tryz.Es Tryz.m4 (syOf Tryz.SinkOwn.t3))) (extras := [(.int .i64 (f0q0 1)), (.int .i64 (m0 : Int))]) (rows := [p2]) (vals' := [(.slice a0 m0 c0), (.int .i64 (f0q0 0)), (.int .i64 (f0q0 1))]) (by omega) (Tryz.right Tryz.m4 (syOf Tryz.SinkOwn.t3) _ W Tryz.mOk4 (symOk_of rfl ⟨hold_len (.atom _ _ rfl) (.atom _ _ rfl), hold_bool (.int _ _) (.atom _ _ rfl) (op_lss_t (by first | omega | assumption)), hold_idx v2 l2 (.atom _ _ rfl) (.int _ _) (by omega) rfl, trivial⟩)) (Tryz.SinkOwn.k0 _ _) Tryz.SinkOwn.i3 rfl rfl (rowsHold_cons (Elem.row v2 (VL.cons (.atom _ _ rfl) VL.nil)) rowsHold_nil) Tryz.SinkOwn.r3 rfl rfl (Tryz.SinkOwn.n3 h0 b0 r0q0 )
  ·
    obtain ⟨d3, e3, g3, o3⟩ := ex_add (f0q0 0) (9 : Int)
    obtain ⟨d4, e4, g4, o4⟩ := ex_add (f0q0 0) (7 : Int)
    exact NdGood.fin (E := (Tryz.Es Tryz.m4 (syOf Tryz.SinkOwn.t4))) (extras := [(.int .i64 (m0 : Int)), (.int .i64 d3), (.int .i64 d4)]) (rows := []) (by omega) (Tryz.right Tryz.m4 (syOf Tryz.SinkOwn.t4) _ W Tryz.mOk4 (symOk_of rfl ⟨hold_len (.atom _ _ rfl) (.atom _ _ rfl), hold_bool (.int _ _) (.atom _ _ rfl) (op_lss_f (by first | omega | assumption)), hold_op (.atom _ _ rfl) (.int _ _) o3 (.atom _ _ rfl), hold_op (.atom _ _ rfl) (.int _ _) o4 (.atom _ _ rfl), hold_bool (.atom _ _ rfl) (.atom _ _ rfl) (op_neq_f rfl), trivial⟩)) (Tryz.SinkOwn.k0 _ _) Tryz.SinkOwn.i4 rfl rfl rowsHold_nil Tryz.SinkOwn.r4
theorem Tryz.SinkOwn.n1 {W : World} {a0 : Option Addr} {m0 c0 : Nat} {f0q0 : Nat → Int} (h0 : SlcOk W a0 m0 c0 1 (fun i => [.int .i64 (f0q0 i)])) (b0 : (m0 : Int) < 9223372036854775808) (r0q0 : ∀ i, R64 (f0q0 i)) : NdGood Tryz.prog Tryz.f5 8 (firstHeap 8 Tryz.gsL) W Tryz.SinkOwn.p0 Tryz.SinkOwn.d1 [(.slice a0 m0 c0)] := by
  by_cases q1 : (0 : Int) < (m0 : Int)
  ·
    have l2 : 0 < m0 := by omega
    obtain ⟨p2, v2⟩ := h0.elem l2
    have w2q0 := r0q0 0
    exact NdGood.next (E := (Tryz.Es Tryz.m4 (syOf Tryz.SinkOwn.t1))) (extras := [(.int .i64 (f0q0 0)), (.int .i64 (m0 : Int))]) (rows := [p2]) (vals' := [(.slice a0 m0 c0), (.int .i64 (f0q0 0))]) (by omega) (Tryz.right Tryz.m4 (syOf Tryz.SinkOwn.t1) _ W Tryz.mOk4 (symOk_of rfl ⟨hold_len (.atom _ _ rfl) (.atom _ _ rfl), hold_bool (.int _ _) (.atom _ _ rfl) (op_lss_t (by first | omega | assumption)), hold_idx v2 l2 (.atom _ _ rfl) (.int _ _) (by omega) rfl, trivial⟩)) (Tryz.SinkOwn.k0 _ _) Tryz.SinkOwn.i1 rfl rfl (rowsHold_cons (Elem.row v2 (VL.cons (.atom _ _ rfl) VL.nil)) rowsHold_nil) Tryz.SinkOwn.r1 rfl rfl (Tryz.SinkOwn.n2 h0 b0 r0q0 )
  ·
    exact NdGood.fin (E := (Tryz.Es Tryz.m4 (syOf Tryz.SinkOwn.t2))) (extras := [(.int .i64 (m0 : Int))]) (rows := []) (by omega) (Tryz.right Tryz.m4 (syOf Tryz.SinkOwn.t2) _ W Tryz.mOk4 (symOk_of rfl ⟨hold_len (.atom _ _ rfl) (.atom _ _ rfl), hold_bool (.int _ _) (.atom _ _ rfl) (op_lss_f (by first | omega | assumption)), trivial⟩)) (Tryz.SinkOwn.k0 _ _) Tryz.SinkOwn.i2 rfl rfl rowsHold_nil Tryz.SinkOwn.r2
theorem Tryz.SinkOwn.n0 {W : World} {a0 : Option Addr} {m0 c0 : Nat} {f0q0 : Nat → Int} (h0 : SlcOk W a0 m0 c0 1 (fun i => [.int .i64 (f0q0 i)])) (b0 : (m0 : Int) < 9223372036854775808) (r0q0 : ∀ i, R64 (f0q0 i)) : NdGood Tryz.prog Tryz.f5 8 (firstHeap 8 Tryz.gsL) W Tryz.SinkOwn.pS Tryz.SinkOwn.d0 [(.slice a0 m0 c0)] := by
  exact NdGood.next (E := (Tryz.Es Tryz.m4 (syOf Tryz.SinkOwn.t0))) (extras := []) (rows := []) (vals' := [(.slice a0 m0 c0)]) (by omega) (Tryz.right Tryz.m4 (syOf Tryz.SinkOwn.t0) _ W Tryz.mOk4 (symOk_of rfl trivial)) (Tryz.SinkOwn.kS _ _) Tryz.SinkOwn.i0 rfl rfl rowsHold_nil Tryz.SinkOwn.r0 rfl rfl (Tryz.SinkOwn.n1 h0 b0 r0q0 )
end Go.Proofs
