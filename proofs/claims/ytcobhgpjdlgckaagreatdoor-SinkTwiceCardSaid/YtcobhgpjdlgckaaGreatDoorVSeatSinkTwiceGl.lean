/- The law, node by node, further. No conditions. -/
import Derived.Test.YtcobhgpjdlgckaaGreatDoorVSeatSinkTwiceGa
set_option linter.all false
namespace Go.Proofs
open Go Go.Vsx Go.RowKit
set_option maxRecDepth 1000000
set_option maxHeartbeats 4000000
set_option linter.unusedVariables false

theorem Zw.n14 {W : World} {a0 : Option Addr} {m0 c0 : Nat} {f0q0 : Nat → Int} {n1 : Int} (h0 : SlcOk W a0 m0 c0 1 (fun i => [.int .i64 (f0q0 i)])) (b0 : (m0 : Int) < 9223372036854775808) (r0q0 : ∀ i, R64 (f0q0 i)) (r1 : R64 n1) (j0 : ((13 : Int) ≤ (m0 : Int))) : NdGood Tryz.prog Tryz.f7 8 (firstHeap 8 Tryz.gsL) W Zw.p0 Zw.d14 [(.slice a0 m0 c0), (.int .i64 n1), (.int .i64 (f0q0 0)), (.int .i64 (f0q0 3)), (.int .i64 (f0q0 6)), (.int .i64 (f0q0 9)), (.int .i64 (f0q0 12)), (.int .i64 (f0q0 1)), (.int .i64 (f0q0 4)), (.int .i64 (f0q0 7)), (.int .i64 (f0q0 10)), (.int .i64 (f0q0 2)), (.int .i64 (f0q0 5)), (.int .i64 (f0q0 8)), (.int .i64 (f0q0 11))] := by
  have ⟨rl1, rh1⟩ := r1
  by_cases q1 : (13 : Int) < (m0 : Int)
  ·
    have l2 : 13 < m0 := by omega
    obtain ⟨p2, v2⟩ := h0.elem l2
    have w2q0 := r0q0 13
    exact Zw.nx Zw.t66 [(.int .i64 (f0q0 13)), (.int .i64 (m0 : Int))] [p2] [(.slice a0 m0 c0), (.int .i64 n1), (.int .i64 (f0q0 0)), (.int .i64 (f0q0 3)), (.int .i64 (f0q0 6)), (.int .i64 (f0q0 9)), (.int .i64 (f0q0 12)), (.int .i64 (f0q0 1)), (.int .i64 (f0q0 4)), (.int .i64 (f0q0 7)), (.int .i64 (f0q0 10)), (.int .i64 (f0q0 13)), (.int .i64 (f0q0 2)), (.int .i64 (f0q0 5)), (.int .i64 (f0q0 8)), (.int .i64 (f0q0 11))] (Zw.k0 _) ⟨hold_len (.atom _ _ rfl) (.atom _ _ rfl), hold_bool (.int _ _) (.atom _ _ rfl) (op_lss_t q1), hold_idx v2 l2 (.atom _ _ rfl) (.int _ _) (by omega) rfl, trivial⟩ Zw.i66 rfl rfl (rowsHold_cons (Elem.row v2 (VL.cons (.atom _ _ rfl) VL.nil)) rowsHold_nil) Zw.r66 rfl rfl (Zw.n15 h0 b0 r0q0 r1 (by first | omega | assumption))
  ·
    obtain ⟨d3, ⟨y3, e3, z3, u3, w3⟩, g3, o3⟩ := ex_rem n1 (4 : Int) (by omega) (by omega)
    obtain ⟨d4, e4, g4, o4⟩ := ex_add d3 (4 : Int)
    obtain ⟨d5, ⟨y5, e5, z5, u5, w5⟩, g5, o5⟩ := ex_rem d4 (4 : Int) (by omega) (by omega)
    rcases (show d5 = 0 ∨ d5 = 1 ∨ d5 = 2 ∨ d5 = 3 by omega) with k5 | k5 | k5 | k5
    ·
      have l6 : 0 < m0 := by omega
      obtain ⟨p6, v6⟩ := h0.elem l6
      have w6q0 := r0q0 0
      have l7 : 3 < m0 := by omega
      obtain ⟨p7, v7⟩ := h0.elem l7
      have w7q0 := r0q0 3
      have l8 : 6 < m0 := by omega
      obtain ⟨p8, v8⟩ := h0.elem l8
      have w8q0 := r0q0 6
      have l9 : 9 < m0 := by omega
      obtain ⟨p9, v9⟩ := h0.elem l9
      have w9q0 := r0q0 9
      have l10 : 12 < m0 := by omega
      obtain ⟨p10, v10⟩ := h0.elem l10
      have w10q0 := r0q0 12
      have l11 : 1 < m0 := by omega
      obtain ⟨p11, v11⟩ := h0.elem l11
      have w11q0 := r0q0 1
      have l12 : 4 < m0 := by omega
      obtain ⟨p12, v12⟩ := h0.elem l12
      have w12q0 := r0q0 4
      have l13 : 7 < m0 := by omega
      obtain ⟨p13, v13⟩ := h0.elem l13
      have w13q0 := r0q0 7
      have l14 : 10 < m0 := by omega
      obtain ⟨p14, v14⟩ := h0.elem l14
      have w14q0 := r0q0 10
      obtain ⟨d15, e15, g15, o15⟩ := ex_sub (m0 : Int) (2 : Int)
      exact Zw.fx Zw.t67 [(.int .i64 (m0 : Int)), (.int .i64 d3), (.int .i64 d4), (.int .i64 d15)] [p6, p7, p8, p9, p10, p11, p12, p13, p14] (Zw.k0 _) ⟨hold_len (.atom _ _ rfl) (.atom _ _ rfl), hold_bool (.int _ _) (.atom _ _ rfl) (op_lss_f (Int.not_lt.1 q1)), hold_op (.atom _ _ rfl) (.int _ _) (o3 .i64) (.atom _ _ rfl), hold_op (.atom _ _ rfl) (.int _ _) o4 (.atom _ _ rfl), hold_op (.atom _ _ rfl) (.int _ _) (by have := (o5 .i64); rw [k5] at this; exact this) (.int _ _), hold_bool (.int _ _) (.atom _ _ rfl) (op_lss_t (by first | omega | assumption)), hold_idx v6 l6 (.atom _ _ rfl) (.int _ _) (by omega) rfl, hold_bool (.int _ _) (.atom _ _ rfl) (op_lss_t (by first | omega | assumption)), hold_idx v7 l7 (.atom _ _ rfl) (.int _ _) (by omega) rfl, hold_bool (.int _ _) (.atom _ _ rfl) (op_lss_t (by first | omega | assumption)), hold_idx v8 l8 (.atom _ _ rfl) (.int _ _) (by omega) rfl, hold_bool (.int _ _) (.atom _ _ rfl) (op_lss_t (by first | omega | assumption)), hold_idx v9 l9 (.atom _ _ rfl) (.int _ _) (by omega) rfl, hold_bool (.int _ _) (.atom _ _ rfl) (op_lss_t (by first | omega | assumption)), hold_idx v10 l10 (.atom _ _ rfl) (.int _ _) (by omega) rfl, hold_bool (.int _ _) (.atom _ _ rfl) (op_lss_f (by first | omega | assumption)), hold_bool (.int _ _) (.atom _ _ rfl) (op_lss_t (by first | omega | assumption)), hold_idx v11 l11 (.atom _ _ rfl) (.int _ _) (by omega) rfl, hold_bool (.int _ _) (.atom _ _ rfl) (op_lss_t (by first | omega | assumption)), hold_idx v12 l12 (.atom _ _ rfl) (.int _ _) (by omega) rfl, hold_bool (.int _ _) (.atom _ _ rfl) (op_lss_t (by first | omega | assumption)), hold_idx v13 l13 (.atom _ _ rfl) (.int _ _) (by omega) rfl, hold_bool (.int _ _) (.atom _ _ rfl) (op_lss_t (by first | omega | assumption)), hold_idx v14 l14 (.atom _ _ rfl) (.int _ _) (by omega) rfl, hold_bool (.atom _ _ rfl) (.atom _ _ rfl) (op_neq_f rfl), hold_bool (.atom _ _ rfl) (.atom _ _ rfl) (op_neq_f rfl), hold_bool (.atom _ _ rfl) (.atom _ _ rfl) (op_neq_f rfl), hold_bool (.atom _ _ rfl) (.atom _ _ rfl) (op_neq_f rfl), hold_bool (.atom _ _ rfl) (.atom _ _ rfl) (op_neq_f rfl), hold_bool (.atom _ _ rfl) (.atom _ _ rfl) (op_neq_f rfl), hold_bool (.atom _ _ rfl) (.atom _ _ rfl) (op_neq_f rfl), hold_bool (.atom _ _ rfl) (.atom _ _ rfl) (op_neq_f rfl), hold_bool (.atom _ _ rfl) (.atom _ _ rfl) (op_neq_f rfl), hold_op (.atom _ _ rfl) (.int _ _) o15 (.atom _ _ rfl), hold_mx_r (.int _ _) (.atom _ _ rfl) (by omega), hold_mn_l (.int _ _) (.atom _ _ rfl) (by omega), trivial⟩ Zw.i67 rfl rfl (rowsHold_cons (Elem.row v6 (VL.cons (.atom _ _ rfl) VL.nil)) (rowsHold_cons (Elem.row v7 (VL.cons (.atom _ _ rfl) VL.nil)) (rowsHold_cons (Elem.row v8 (VL.cons (.atom _ _ rfl) VL.nil)) (rowsHold_cons (Elem.row v9 (VL.cons (.atom _ _ rfl) VL.nil)) (rowsHold_cons (Elem.row v10 (VL.cons (.atom _ _ rfl) VL.nil)) (rowsHold_cons (Elem.row v11 (VL.cons (.atom _ _ rfl) VL.nil)) (rowsHold_cons (Elem.row v12 (VL.cons (.atom _ _ rfl) VL.nil)) (rowsHold_cons (Elem.row v13 (VL.cons (.atom _ _ rfl) VL.nil)) (rowsHold_cons (Elem.row v14 (VL.cons (.atom _ _ rfl) VL.nil)) rowsHold_nil))))))))) Zw.r67
    ·
      have l16 : 0 < m0 := by omega
      obtain ⟨p16, v16⟩ := h0.elem l16
      have w16q0 := r0q0 0
      have l17 : 3 < m0 := by omega
      obtain ⟨p17, v17⟩ := h0.elem l17
      have w17q0 := r0q0 3
      have l18 : 6 < m0 := by omega
      obtain ⟨p18, v18⟩ := h0.elem l18
      have w18q0 := r0q0 6
      have l19 : 9 < m0 := by omega
      obtain ⟨p19, v19⟩ := h0.elem l19
      have w19q0 := r0q0 9
      have l20 : 12 < m0 := by omega
      obtain ⟨p20, v20⟩ := h0.elem l20
      have w20q0 := r0q0 12
      have l21 : 1 < m0 := by omega
      obtain ⟨p21, v21⟩ := h0.elem l21
      have w21q0 := r0q0 1
      have l22 : 4 < m0 := by omega
      obtain ⟨p22, v22⟩ := h0.elem l22
      have w22q0 := r0q0 4
      have l23 : 7 < m0 := by omega
      obtain ⟨p23, v23⟩ := h0.elem l23
      have w23q0 := r0q0 7
      have l24 : 10 < m0 := by omega
      obtain ⟨p24, v24⟩ := h0.elem l24
      have w24q0 := r0q0 10
      obtain ⟨d25, e25, g25, o25⟩ := ex_sub (m0 : Int) (2 : Int)
      exact Zw.fx Zw.t68 [(.int .i64 (m0 : Int)), (.int .i64 d3), (.int .i64 d4), (.int .i64 d25)] [p16, p17, p18, p19, p20, p21, p22, p23, p24] (Zw.k0 _) ⟨hold_len (.atom _ _ rfl) (.atom _ _ rfl), hold_bool (.int _ _) (.atom _ _ rfl) (op_lss_f (Int.not_lt.1 q1)), hold_op (.atom _ _ rfl) (.int _ _) (o3 .i64) (.atom _ _ rfl), hold_op (.atom _ _ rfl) (.int _ _) o4 (.atom _ _ rfl), hold_op (.atom _ _ rfl) (.int _ _) (by have := (o5 .i64); rw [k5] at this; exact this) (.int _ _), hold_bool (.int _ _) (.atom _ _ rfl) (op_lss_t (by first | omega | assumption)), hold_idx v16 l16 (.atom _ _ rfl) (.int _ _) (by omega) rfl, hold_bool (.int _ _) (.atom _ _ rfl) (op_lss_t (by first | omega | assumption)), hold_idx v17 l17 (.atom _ _ rfl) (.int _ _) (by omega) rfl, hold_bool (.int _ _) (.atom _ _ rfl) (op_lss_t (by first | omega | assumption)), hold_idx v18 l18 (.atom _ _ rfl) (.int _ _) (by omega) rfl, hold_bool (.int _ _) (.atom _ _ rfl) (op_lss_t (by first | omega | assumption)), hold_idx v19 l19 (.atom _ _ rfl) (.int _ _) (by omega) rfl, hold_bool (.int _ _) (.atom _ _ rfl) (op_lss_t (by first | omega | assumption)), hold_idx v20 l20 (.atom _ _ rfl) (.int _ _) (by omega) rfl, hold_bool (.int _ _) (.atom _ _ rfl) (op_lss_f (by first | omega | assumption)), hold_bool (.int _ _) (.atom _ _ rfl) (op_lss_t (by first | omega | assumption)), hold_idx v21 l21 (.atom _ _ rfl) (.int _ _) (by omega) rfl, hold_bool (.int _ _) (.atom _ _ rfl) (op_lss_t (by first | omega | assumption)), hold_idx v22 l22 (.atom _ _ rfl) (.int _ _) (by omega) rfl, hold_bool (.int _ _) (.atom _ _ rfl) (op_lss_t (by first | omega | assumption)), hold_idx v23 l23 (.atom _ _ rfl) (.int _ _) (by omega) rfl, hold_bool (.int _ _) (.atom _ _ rfl) (op_lss_t (by first | omega | assumption)), hold_idx v24 l24 (.atom _ _ rfl) (.int _ _) (by omega) rfl, hold_bool (.atom _ _ rfl) (.atom _ _ rfl) (op_neq_f rfl), hold_bool (.atom _ _ rfl) (.atom _ _ rfl) (op_neq_f rfl), hold_bool (.atom _ _ rfl) (.atom _ _ rfl) (op_neq_f rfl), hold_bool (.atom _ _ rfl) (.atom _ _ rfl) (op_neq_f rfl), hold_bool (.atom _ _ rfl) (.atom _ _ rfl) (op_neq_f rfl), hold_bool (.atom _ _ rfl) (.atom _ _ rfl) (op_neq_f rfl), hold_bool (.atom _ _ rfl) (.atom _ _ rfl) (op_neq_f rfl), hold_bool (.atom _ _ rfl) (.atom _ _ rfl) (op_neq_f rfl), hold_bool (.atom _ _ rfl) (.atom _ _ rfl) (op_neq_f rfl), hold_op (.atom _ _ rfl) (.int _ _) o25 (.atom _ _ rfl), hold_mx_r (.int _ _) (.atom _ _ rfl) (by omega), hold_mn_l (.int _ _) (.atom _ _ rfl) (by omega), trivial⟩ Zw.i68 rfl rfl (rowsHold_cons (Elem.row v16 (VL.cons (.atom _ _ rfl) VL.nil)) (rowsHold_cons (Elem.row v17 (VL.cons (.atom _ _ rfl) VL.nil)) (rowsHold_cons (Elem.row v18 (VL.cons (.atom _ _ rfl) VL.nil)) (rowsHold_cons (Elem.row v19 (VL.cons (.atom _ _ rfl) VL.nil)) (rowsHold_cons (Elem.row v20 (VL.cons (.atom _ _ rfl) VL.nil)) (rowsHold_cons (Elem.row v21 (VL.cons (.atom _ _ rfl) VL.nil)) (rowsHold_cons (Elem.row v22 (VL.cons (.atom _ _ rfl) VL.nil)) (rowsHold_cons (Elem.row v23 (VL.cons (.atom _ _ rfl) VL.nil)) (rowsHold_cons (Elem.row v24 (VL.cons (.atom _ _ rfl) VL.nil)) rowsHold_nil))))))))) Zw.r68
    ·
      have l26 : 0 < m0 := by omega
      obtain ⟨p26, v26⟩ := h0.elem l26
      have w26q0 := r0q0 0
      have l27 : 3 < m0 := by omega
      obtain ⟨p27, v27⟩ := h0.elem l27
      have w27q0 := r0q0 3
      have l28 : 6 < m0 := by omega
      obtain ⟨p28, v28⟩ := h0.elem l28
      have w28q0 := r0q0 6
      have l29 : 9 < m0 := by omega
      obtain ⟨p29, v29⟩ := h0.elem l29
      have w29q0 := r0q0 9
      have l30 : 12 < m0 := by omega
      obtain ⟨p30, v30⟩ := h0.elem l30
      have w30q0 := r0q0 12
      have l31 : 1 < m0 := by omega
      obtain ⟨p31, v31⟩ := h0.elem l31
      have w31q0 := r0q0 1
      have l32 : 4 < m0 := by omega
      obtain ⟨p32, v32⟩ := h0.elem l32
      have w32q0 := r0q0 4
      have l33 : 7 < m0 := by omega
      obtain ⟨p33, v33⟩ := h0.elem l33
      have w33q0 := r0q0 7
      have l34 : 10 < m0 := by omega
      obtain ⟨p34, v34⟩ := h0.elem l34
      have w34q0 := r0q0 10
      obtain ⟨d35, e35, g35, o35⟩ := ex_sub (m0 : Int) (2 : Int)
      exact Zw.fx Zw.t69 [(.int .i64 (m0 : Int)), (.int .i64 d3), (.int .i64 d4), (.int .i64 d35)] [p26, p27, p28, p29, p30, p31, p32, p33, p34] (Zw.k0 _) ⟨hold_len (.atom _ _ rfl) (.atom _ _ rfl), hold_bool (.int _ _) (.atom _ _ rfl) (op_lss_f (Int.not_lt.1 q1)), hold_op (.atom _ _ rfl) (.int _ _) (o3 .i64) (.atom _ _ rfl), hold_op (.atom _ _ rfl) (.int _ _) o4 (.atom _ _ rfl), hold_op (.atom _ _ rfl) (.int _ _) (by have := (o5 .i64); rw [k5] at this; exact this) (.int _ _), hold_bool (.int _ _) (.atom _ _ rfl) (op_lss_t (by first | omega | assumption)), hold_idx v26 l26 (.atom _ _ rfl) (.int _ _) (by omega) rfl, hold_bool (.int _ _) (.atom _ _ rfl) (op_lss_t (by first | omega | assumption)), hold_idx v27 l27 (.atom _ _ rfl) (.int _ _) (by omega) rfl, hold_bool (.int _ _) (.atom _ _ rfl) (op_lss_t (by first | omega | assumption)), hold_idx v28 l28 (.atom _ _ rfl) (.int _ _) (by omega) rfl, hold_bool (.int _ _) (.atom _ _ rfl) (op_lss_t (by first | omega | assumption)), hold_idx v29 l29 (.atom _ _ rfl) (.int _ _) (by omega) rfl, hold_bool (.int _ _) (.atom _ _ rfl) (op_lss_t (by first | omega | assumption)), hold_idx v30 l30 (.atom _ _ rfl) (.int _ _) (by omega) rfl, hold_bool (.int _ _) (.atom _ _ rfl) (op_lss_f (by first | omega | assumption)), hold_bool (.int _ _) (.atom _ _ rfl) (op_lss_t (by first | omega | assumption)), hold_idx v31 l31 (.atom _ _ rfl) (.int _ _) (by omega) rfl, hold_bool (.int _ _) (.atom _ _ rfl) (op_lss_t (by first | omega | assumption)), hold_idx v32 l32 (.atom _ _ rfl) (.int _ _) (by omega) rfl, hold_bool (.int _ _) (.atom _ _ rfl) (op_lss_t (by first | omega | assumption)), hold_idx v33 l33 (.atom _ _ rfl) (.int _ _) (by omega) rfl, hold_bool (.int _ _) (.atom _ _ rfl) (op_lss_t (by first | omega | assumption)), hold_idx v34 l34 (.atom _ _ rfl) (.int _ _) (by omega) rfl, hold_bool (.atom _ _ rfl) (.atom _ _ rfl) (op_neq_f rfl), hold_bool (.atom _ _ rfl) (.atom _ _ rfl) (op_neq_f rfl), hold_bool (.atom _ _ rfl) (.atom _ _ rfl) (op_neq_f rfl), hold_bool (.atom _ _ rfl) (.atom _ _ rfl) (op_neq_f rfl), hold_bool (.atom _ _ rfl) (.atom _ _ rfl) (op_neq_f rfl), hold_bool (.atom _ _ rfl) (.atom _ _ rfl) (op_neq_f rfl), hold_bool (.atom _ _ rfl) (.atom _ _ rfl) (op_neq_f rfl), hold_bool (.atom _ _ rfl) (.atom _ _ rfl) (op_neq_f rfl), hold_bool (.atom _ _ rfl) (.atom _ _ rfl) (op_neq_f rfl), hold_op (.atom _ _ rfl) (.int _ _) o35 (.atom _ _ rfl), hold_mx_r (.int _ _) (.atom _ _ rfl) (by omega), hold_mn_l (.int _ _) (.atom _ _ rfl) (by omega), trivial⟩ Zw.i69 rfl rfl (rowsHold_cons (Elem.row v26 (VL.cons (.atom _ _ rfl) VL.nil)) (rowsHold_cons (Elem.row v27 (VL.cons (.atom _ _ rfl) VL.nil)) (rowsHold_cons (Elem.row v28 (VL.cons (.atom _ _ rfl) VL.nil)) (rowsHold_cons (Elem.row v29 (VL.cons (.atom _ _ rfl) VL.nil)) (rowsHold_cons (Elem.row v30 (VL.cons (.atom _ _ rfl) VL.nil)) (rowsHold_cons (Elem.row v31 (VL.cons (.atom _ _ rfl) VL.nil)) (rowsHold_cons (Elem.row v32 (VL.cons (.atom _ _ rfl) VL.nil)) (rowsHold_cons (Elem.row v33 (VL.cons (.atom _ _ rfl) VL.nil)) (rowsHold_cons (Elem.row v34 (VL.cons (.atom _ _ rfl) VL.nil)) rowsHold_nil))))))))) Zw.r69
    ·
      have l36 : 0 < m0 := by omega
      obtain ⟨p36, v36⟩ := h0.elem l36
      have w36q0 := r0q0 0
      have l37 : 3 < m0 := by omega
      obtain ⟨p37, v37⟩ := h0.elem l37
      have w37q0 := r0q0 3
      have l38 : 6 < m0 := by omega
      obtain ⟨p38, v38⟩ := h0.elem l38
      have w38q0 := r0q0 6
      have l39 : 9 < m0 := by omega
      obtain ⟨p39, v39⟩ := h0.elem l39
      have w39q0 := r0q0 9
      have l40 : 12 < m0 := by omega
      obtain ⟨p40, v40⟩ := h0.elem l40
      have w40q0 := r0q0 12
      have l41 : 1 < m0 := by omega
      obtain ⟨p41, v41⟩ := h0.elem l41
      have w41q0 := r0q0 1
      have l42 : 4 < m0 := by omega
      obtain ⟨p42, v42⟩ := h0.elem l42
      have w42q0 := r0q0 4
      have l43 : 7 < m0 := by omega
      obtain ⟨p43, v43⟩ := h0.elem l43
      have w43q0 := r0q0 7
      have l44 : 10 < m0 := by omega
      obtain ⟨p44, v44⟩ := h0.elem l44
      have w44q0 := r0q0 10
      obtain ⟨d45, e45, g45, o45⟩ := ex_sub (m0 : Int) (2 : Int)
      exact Zw.fx Zw.t70 [(.int .i64 (m0 : Int)), (.int .i64 d3), (.int .i64 d4), (.int .i64 d45)] [p36, p37, p38, p39, p40, p41, p42, p43, p44] (Zw.k0 _) ⟨hold_len (.atom _ _ rfl) (.atom _ _ rfl), hold_bool (.int _ _) (.atom _ _ rfl) (op_lss_f (Int.not_lt.1 q1)), hold_op (.atom _ _ rfl) (.int _ _) (o3 .i64) (.atom _ _ rfl), hold_op (.atom _ _ rfl) (.int _ _) o4 (.atom _ _ rfl), hold_op (.atom _ _ rfl) (.int _ _) (by have := (o5 .i64); rw [k5] at this; exact this) (.int _ _), hold_bool (.int _ _) (.atom _ _ rfl) (op_lss_t (by first | omega | assumption)), hold_idx v36 l36 (.atom _ _ rfl) (.int _ _) (by omega) rfl, hold_bool (.int _ _) (.atom _ _ rfl) (op_lss_t (by first | omega | assumption)), hold_idx v37 l37 (.atom _ _ rfl) (.int _ _) (by omega) rfl, hold_bool (.int _ _) (.atom _ _ rfl) (op_lss_t (by first | omega | assumption)), hold_idx v38 l38 (.atom _ _ rfl) (.int _ _) (by omega) rfl, hold_bool (.int _ _) (.atom _ _ rfl) (op_lss_t (by first | omega | assumption)), hold_idx v39 l39 (.atom _ _ rfl) (.int _ _) (by omega) rfl, hold_bool (.int _ _) (.atom _ _ rfl) (op_lss_t (by first | omega | assumption)), hold_idx v40 l40 (.atom _ _ rfl) (.int _ _) (by omega) rfl, hold_bool (.int _ _) (.atom _ _ rfl) (op_lss_f (by first | omega | assumption)), hold_bool (.int _ _) (.atom _ _ rfl) (op_lss_t (by first | omega | assumption)), hold_idx v41 l41 (.atom _ _ rfl) (.int _ _) (by omega) rfl, hold_bool (.int _ _) (.atom _ _ rfl) (op_lss_t (by first | omega | assumption)), hold_idx v42 l42 (.atom _ _ rfl) (.int _ _) (by omega) rfl, hold_bool (.int _ _) (.atom _ _ rfl) (op_lss_t (by first | omega | assumption)), hold_idx v43 l43 (.atom _ _ rfl) (.int _ _) (by omega) rfl, hold_bool (.int _ _) (.atom _ _ rfl) (op_lss_t (by first | omega | assumption)), hold_idx v44 l44 (.atom _ _ rfl) (.int _ _) (by omega) rfl, hold_bool (.atom _ _ rfl) (.atom _ _ rfl) (op_neq_f rfl), hold_bool (.atom _ _ rfl) (.atom _ _ rfl) (op_neq_f rfl), hold_bool (.atom _ _ rfl) (.atom _ _ rfl) (op_neq_f rfl), hold_bool (.atom _ _ rfl) (.atom _ _ rfl) (op_neq_f rfl), hold_bool (.atom _ _ rfl) (.atom _ _ rfl) (op_neq_f rfl), hold_bool (.atom _ _ rfl) (.atom _ _ rfl) (op_neq_f rfl), hold_bool (.atom _ _ rfl) (.atom _ _ rfl) (op_neq_f rfl), hold_bool (.atom _ _ rfl) (.atom _ _ rfl) (op_neq_f rfl), hold_bool (.atom _ _ rfl) (.atom _ _ rfl) (op_neq_f rfl), hold_op (.atom _ _ rfl) (.int _ _) o45 (.atom _ _ rfl), hold_mx_r (.int _ _) (.atom _ _ rfl) (by omega), hold_mn_l (.int _ _) (.atom _ _ rfl) (by omega), trivial⟩ Zw.i70 rfl rfl (rowsHold_cons (Elem.row v36 (VL.cons (.atom _ _ rfl) VL.nil)) (rowsHold_cons (Elem.row v37 (VL.cons (.atom _ _ rfl) VL.nil)) (rowsHold_cons (Elem.row v38 (VL.cons (.atom _ _ rfl) VL.nil)) (rowsHold_cons (Elem.row v39 (VL.cons (.atom _ _ rfl) VL.nil)) (rowsHold_cons (Elem.row v40 (VL.cons (.atom _ _ rfl) VL.nil)) (rowsHold_cons (Elem.row v41 (VL.cons (.atom _ _ rfl) VL.nil)) (rowsHold_cons (Elem.row v42 (VL.cons (.atom _ _ rfl) VL.nil)) (rowsHold_cons (Elem.row v43 (VL.cons (.atom _ _ rfl) VL.nil)) (rowsHold_cons (Elem.row v44 (VL.cons (.atom _ _ rfl) VL.nil)) rowsHold_nil))))))))) Zw.r70
theorem Zw.n13 {W : World} {a0 : Option Addr} {m0 c0 : Nat} {f0q0 : Nat → Int} {n1 : Int} (h0 : SlcOk W a0 m0 c0 1 (fun i => [.int .i64 (f0q0 i)])) (b0 : (m0 : Int) < 9223372036854775808) (r0q0 : ∀ i, R64 (f0q0 i)) (r1 : R64 n1) (j0 : ((12 : Int) ≤ (m0 : Int))) : NdGood Tryz.prog Tryz.f7 8 (firstHeap 8 Tryz.gsL) W Zw.p0 Zw.d13 [(.slice a0 m0 c0), (.int .i64 n1), (.int .i64 (f0q0 0)), (.int .i64 (f0q0 3)), (.int .i64 (f0q0 6)), (.int .i64 (f0q0 9)), (.int .i64 (f0q0 1)), (.int .i64 (f0q0 4)), (.int .i64 (f0q0 7)), (.int .i64 (f0q0 10)), (.int .i64 (f0q0 2)), (.int .i64 (f0q0 5)), (.int .i64 (f0q0 8)), (.int .i64 (f0q0 11))] := by
  have ⟨rl1, rh1⟩ := r1
  by_cases q1 : (12 : Int) < (m0 : Int)
  ·
    have l2 : 12 < m0 := by omega
    obtain ⟨p2, v2⟩ := h0.elem l2
    have w2q0 := r0q0 12
    exact Zw.nx Zw.t61 [(.int .i64 (f0q0 12)), (.int .i64 (m0 : Int))] [p2] [(.slice a0 m0 c0), (.int .i64 n1), (.int .i64 (f0q0 0)), (.int .i64 (f0q0 3)), (.int .i64 (f0q0 6)), (.int .i64 (f0q0 9)), (.int .i64 (f0q0 12)), (.int .i64 (f0q0 1)), (.int .i64 (f0q0 4)), (.int .i64 (f0q0 7)), (.int .i64 (f0q0 10)), (.int .i64 (f0q0 2)), (.int .i64 (f0q0 5)), (.int .i64 (f0q0 8)), (.int .i64 (f0q0 11))] (Zw.k0 _) ⟨hold_len (.atom _ _ rfl) (.atom _ _ rfl), hold_bool (.int _ _) (.atom _ _ rfl) (op_lss_t q1), hold_idx v2 l2 (.atom _ _ rfl) (.int _ _) (by omega) rfl, trivial⟩ Zw.i61 rfl rfl (rowsHold_cons (Elem.row v2 (VL.cons (.atom _ _ rfl) VL.nil)) rowsHold_nil) Zw.r61 rfl rfl (Zw.n14 h0 b0 r0q0 r1 (by first | omega | assumption))
  ·
    obtain ⟨d3, ⟨y3, e3, z3, u3, w3⟩, g3, o3⟩ := ex_rem n1 (4 : Int) (by omega) (by omega)
    obtain ⟨d4, e4, g4, o4⟩ := ex_add d3 (4 : Int)
    obtain ⟨d5, ⟨y5, e5, z5, u5, w5⟩, g5, o5⟩ := ex_rem d4 (4 : Int) (by omega) (by omega)
    rcases (show d5 = 0 ∨ d5 = 1 ∨ d5 = 2 ∨ d5 = 3 by omega) with k5 | k5 | k5 | k5
    ·
      have l6 : 0 < m0 := by omega
      obtain ⟨p6, v6⟩ := h0.elem l6
      have w6q0 := r0q0 0
      have l7 : 3 < m0 := by omega
      obtain ⟨p7, v7⟩ := h0.elem l7
      have w7q0 := r0q0 3
      have l8 : 6 < m0 := by omega
      obtain ⟨p8, v8⟩ := h0.elem l8
      have w8q0 := r0q0 6
      have l9 : 9 < m0 := by omega
      obtain ⟨p9, v9⟩ := h0.elem l9
      have w9q0 := r0q0 9
      have l10 : 1 < m0 := by omega
      obtain ⟨p10, v10⟩ := h0.elem l10
      have w10q0 := r0q0 1
      have l11 : 4 < m0 := by omega
      obtain ⟨p11, v11⟩ := h0.elem l11
      have w11q0 := r0q0 4
      have l12 : 7 < m0 := by omega
      obtain ⟨p12, v12⟩ := h0.elem l12
      have w12q0 := r0q0 7
      have l13 : 10 < m0 := by omega
      obtain ⟨p13, v13⟩ := h0.elem l13
      have w13q0 := r0q0 10
      obtain ⟨d14, e14, g14, o14⟩ := ex_sub (m0 : Int) (2 : Int)
      exact Zw.fx Zw.t62 [(.int .i64 (m0 : Int)), (.int .i64 d3), (.int .i64 d4), (.int .i64 d14)] [p6, p7, p8, p9, p10, p11, p12, p13] (Zw.k0 _) ⟨hold_len (.atom _ _ rfl) (.atom _ _ rfl), hold_bool (.int _ _) (.atom _ _ rfl) (op_lss_f (Int.not_lt.1 q1)), hold_op (.atom _ _ rfl) (.int _ _) (o3 .i64) (.atom _ _ rfl), hold_op (.atom _ _ rfl) (.int _ _) o4 (.atom _ _ rfl), hold_op (.atom _ _ rfl) (.int _ _) (by have := (o5 .i64); rw [k5] at this; exact this) (.int _ _), hold_bool (.int _ _) (.atom _ _ rfl) (op_lss_t (by first | omega | assumption)), hold_idx v6 l6 (.atom _ _ rfl) (.int _ _) (by omega) rfl, hold_bool (.int _ _) (.atom _ _ rfl) (op_lss_t (by first | omega | assumption)), hold_idx v7 l7 (.atom _ _ rfl) (.int _ _) (by omega) rfl, hold_bool (.int _ _) (.atom _ _ rfl) (op_lss_t (by first | omega | assumption)), hold_idx v8 l8 (.atom _ _ rfl) (.int _ _) (by omega) rfl, hold_bool (.int _ _) (.atom _ _ rfl) (op_lss_t (by first | omega | assumption)), hold_idx v9 l9 (.atom _ _ rfl) (.int _ _) (by omega) rfl, hold_bool (.int _ _) (.atom _ _ rfl) (op_lss_t (by first | omega | assumption)), hold_idx v10 l10 (.atom _ _ rfl) (.int _ _) (by omega) rfl, hold_bool (.int _ _) (.atom _ _ rfl) (op_lss_t (by first | omega | assumption)), hold_idx v11 l11 (.atom _ _ rfl) (.int _ _) (by omega) rfl, hold_bool (.int _ _) (.atom _ _ rfl) (op_lss_t (by first | omega | assumption)), hold_idx v12 l12 (.atom _ _ rfl) (.int _ _) (by omega) rfl, hold_bool (.int _ _) (.atom _ _ rfl) (op_lss_t (by first | omega | assumption)), hold_idx v13 l13 (.atom _ _ rfl) (.int _ _) (by omega) rfl, hold_bool (.int _ _) (.atom _ _ rfl) (op_lss_f (by first | omega | assumption)), hold_bool (.atom _ _ rfl) (.atom _ _ rfl) (op_neq_f rfl), hold_bool (.atom _ _ rfl) (.atom _ _ rfl) (op_neq_f rfl), hold_bool (.atom _ _ rfl) (.atom _ _ rfl) (op_neq_f rfl), hold_bool (.atom _ _ rfl) (.atom _ _ rfl) (op_neq_f rfl), hold_bool (.atom _ _ rfl) (.atom _ _ rfl) (op_neq_f rfl), hold_bool (.atom _ _ rfl) (.atom _ _ rfl) (op_neq_f rfl), hold_bool (.atom _ _ rfl) (.atom _ _ rfl) (op_neq_f rfl), hold_bool (.atom _ _ rfl) (.atom _ _ rfl) (op_neq_f rfl), hold_op (.atom _ _ rfl) (.int _ _) o14 (.atom _ _ rfl), hold_mx_r (.int _ _) (.atom _ _ rfl) (by omega), hold_mn_l (.int _ _) (.atom _ _ rfl) (by omega), trivial⟩ Zw.i62 rfl rfl (rowsHold_cons (Elem.row v6 (VL.cons (.atom _ _ rfl) VL.nil)) (rowsHold_cons (Elem.row v7 (VL.cons (.atom _ _ rfl) VL.nil)) (rowsHold_cons (Elem.row v8 (VL.cons (.atom _ _ rfl) VL.nil)) (rowsHold_cons (Elem.row v9 (VL.cons (.atom _ _ rfl) VL.nil)) (rowsHold_cons (Elem.row v10 (VL.cons (.atom _ _ rfl) VL.nil)) (rowsHold_cons (Elem.row v11 (VL.cons (.atom _ _ rfl) VL.nil)) (rowsHold_cons (Elem.row v12 (VL.cons (.atom _ _ rfl) VL.nil)) (rowsHold_cons (Elem.row v13 (VL.cons (.atom _ _ rfl) VL.nil)) rowsHold_nil)))))))) Zw.r62
    ·
      have l15 : 0 < m0 := by omega
      obtain ⟨p15, v15⟩ := h0.elem l15
      have w15q0 := r0q0 0
      have l16 : 3 < m0 := by omega
      obtain ⟨p16, v16⟩ := h0.elem l16
      have w16q0 := r0q0 3
      have l17 : 6 < m0 := by omega
      obtain ⟨p17, v17⟩ := h0.elem l17
      have w17q0 := r0q0 6
      have l18 : 9 < m0 := by omega
      obtain ⟨p18, v18⟩ := h0.elem l18
      have w18q0 := r0q0 9
      have l19 : 1 < m0 := by omega
      obtain ⟨p19, v19⟩ := h0.elem l19
      have w19q0 := r0q0 1
      have l20 : 4 < m0 := by omega
      obtain ⟨p20, v20⟩ := h0.elem l20
      have w20q0 := r0q0 4
      have l21 : 7 < m0 := by omega
      obtain ⟨p21, v21⟩ := h0.elem l21
      have w21q0 := r0q0 7
      have l22 : 10 < m0 := by omega
      obtain ⟨p22, v22⟩ := h0.elem l22
      have w22q0 := r0q0 10
      obtain ⟨d23, e23, g23, o23⟩ := ex_sub (m0 : Int) (2 : Int)
      exact Zw.fx Zw.t63 [(.int .i64 (m0 : Int)), (.int .i64 d3), (.int .i64 d4), (.int .i64 d23)] [p15, p16, p17, p18, p19, p20, p21, p22] (Zw.k0 _) ⟨hold_len (.atom _ _ rfl) (.atom _ _ rfl), hold_bool (.int _ _) (.atom _ _ rfl) (op_lss_f (Int.not_lt.1 q1)), hold_op (.atom _ _ rfl) (.int _ _) (o3 .i64) (.atom _ _ rfl), hold_op (.atom _ _ rfl) (.int _ _) o4 (.atom _ _ rfl), hold_op (.atom _ _ rfl) (.int _ _) (by have := (o5 .i64); rw [k5] at this; exact this) (.int _ _), hold_bool (.int _ _) (.atom _ _ rfl) (op_lss_t (by first | omega | assumption)), hold_idx v15 l15 (.atom _ _ rfl) (.int _ _) (by omega) rfl, hold_bool (.int _ _) (.atom _ _ rfl) (op_lss_t (by first | omega | assumption)), hold_idx v16 l16 (.atom _ _ rfl) (.int _ _) (by omega) rfl, hold_bool (.int _ _) (.atom _ _ rfl) (op_lss_t (by first | omega | assumption)), hold_idx v17 l17 (.atom _ _ rfl) (.int _ _) (by omega) rfl, hold_bool (.int _ _) (.atom _ _ rfl) (op_lss_t (by first | omega | assumption)), hold_idx v18 l18 (.atom _ _ rfl) (.int _ _) (by omega) rfl, hold_bool (.int _ _) (.atom _ _ rfl) (op_lss_t (by first | omega | assumption)), hold_idx v19 l19 (.atom _ _ rfl) (.int _ _) (by omega) rfl, hold_bool (.int _ _) (.atom _ _ rfl) (op_lss_t (by first | omega | assumption)), hold_idx v20 l20 (.atom _ _ rfl) (.int _ _) (by omega) rfl, hold_bool (.int _ _) (.atom _ _ rfl) (op_lss_t (by first | omega | assumption)), hold_idx v21 l21 (.atom _ _ rfl) (.int _ _) (by omega) rfl, hold_bool (.int _ _) (.atom _ _ rfl) (op_lss_t (by first | omega | assumption)), hold_idx v22 l22 (.atom _ _ rfl) (.int _ _) (by omega) rfl, hold_bool (.int _ _) (.atom _ _ rfl) (op_lss_f (by first | omega | assumption)), hold_bool (.atom _ _ rfl) (.atom _ _ rfl) (op_neq_f rfl), hold_bool (.atom _ _ rfl) (.atom _ _ rfl) (op_neq_f rfl), hold_bool (.atom _ _ rfl) (.atom _ _ rfl) (op_neq_f rfl), hold_bool (.atom _ _ rfl) (.atom _ _ rfl) (op_neq_f rfl), hold_bool (.atom _ _ rfl) (.atom _ _ rfl) (op_neq_f rfl), hold_bool (.atom _ _ rfl) (.atom _ _ rfl) (op_neq_f rfl), hold_bool (.atom _ _ rfl) (.atom _ _ rfl) (op_neq_f rfl), hold_bool (.atom _ _ rfl) (.atom _ _ rfl) (op_neq_f rfl), hold_op (.atom _ _ rfl) (.int _ _) o23 (.atom _ _ rfl), hold_mx_r (.int _ _) (.atom _ _ rfl) (by omega), hold_mn_l (.int _ _) (.atom _ _ rfl) (by omega), trivial⟩ Zw.i63 rfl rfl (rowsHold_cons (Elem.row v15 (VL.cons (.atom _ _ rfl) VL.nil)) (rowsHold_cons (Elem.row v16 (VL.cons (.atom _ _ rfl) VL.nil)) (rowsHold_cons (Elem.row v17 (VL.cons (.atom _ _ rfl) VL.nil)) (rowsHold_cons (Elem.row v18 (VL.cons (.atom _ _ rfl) VL.nil)) (rowsHold_cons (Elem.row v19 (VL.cons (.atom _ _ rfl) VL.nil)) (rowsHold_cons (Elem.row v20 (VL.cons (.atom _ _ rfl) VL.nil)) (rowsHold_cons (Elem.row v21 (VL.cons (.atom _ _ rfl) VL.nil)) (rowsHold_cons (Elem.row v22 (VL.cons (.atom _ _ rfl) VL.nil)) rowsHold_nil)))))))) Zw.r63
    ·
      have l24 : 0 < m0 := by omega
      obtain ⟨p24, v24⟩ := h0.elem l24
      have w24q0 := r0q0 0
      have l25 : 3 < m0 := by omega
      obtain ⟨p25, v25⟩ := h0.elem l25
      have w25q0 := r0q0 3
      have l26 : 6 < m0 := by omega
      obtain ⟨p26, v26⟩ := h0.elem l26
      have w26q0 := r0q0 6
      have l27 : 9 < m0 := by omega
      obtain ⟨p27, v27⟩ := h0.elem l27
      have w27q0 := r0q0 9
      have l28 : 1 < m0 := by omega
      obtain ⟨p28, v28⟩ := h0.elem l28
      have w28q0 := r0q0 1
      have l29 : 4 < m0 := by omega
      obtain ⟨p29, v29⟩ := h0.elem l29
      have w29q0 := r0q0 4
      have l30 : 7 < m0 := by omega
      obtain ⟨p30, v30⟩ := h0.elem l30
      have w30q0 := r0q0 7
      have l31 : 10 < m0 := by omega
      obtain ⟨p31, v31⟩ := h0.elem l31
      have w31q0 := r0q0 10
      obtain ⟨d32, e32, g32, o32⟩ := ex_sub (m0 : Int) (2 : Int)
      exact Zw.fx Zw.t64 [(.int .i64 (m0 : Int)), (.int .i64 d3), (.int .i64 d4), (.int .i64 d32)] [p24, p25, p26, p27, p28, p29, p30, p31] (Zw.k0 _) ⟨hold_len (.atom _ _ rfl) (.atom _ _ rfl), hold_bool (.int _ _) (.atom _ _ rfl) (op_lss_f (Int.not_lt.1 q1)), hold_op (.atom _ _ rfl) (.int _ _) (o3 .i64) (.atom _ _ rfl), hold_op (.atom _ _ rfl) (.int _ _) o4 (.atom _ _ rfl), hold_op (.atom _ _ rfl) (.int _ _) (by have := (o5 .i64); rw [k5] at this; exact this) (.int _ _), hold_bool (.int _ _) (.atom _ _ rfl) (op_lss_t (by first | omega | assumption)), hold_idx v24 l24 (.atom _ _ rfl) (.int _ _) (by omega) rfl, hold_bool (.int _ _) (.atom _ _ rfl) (op_lss_t (by first | omega | assumption)), hold_idx v25 l25 (.atom _ _ rfl) (.int _ _) (by omega) rfl, hold_bool (.int _ _) (.atom _ _ rfl) (op_lss_t (by first | omega | assumption)), hold_idx v26 l26 (.atom _ _ rfl) (.int _ _) (by omega) rfl, hold_bool (.int _ _) (.atom _ _ rfl) (op_lss_t (by first | omega | assumption)), hold_idx v27 l27 (.atom _ _ rfl) (.int _ _) (by omega) rfl, hold_bool (.int _ _) (.atom _ _ rfl) (op_lss_t (by first | omega | assumption)), hold_idx v28 l28 (.atom _ _ rfl) (.int _ _) (by omega) rfl, hold_bool (.int _ _) (.atom _ _ rfl) (op_lss_t (by first | omega | assumption)), hold_idx v29 l29 (.atom _ _ rfl) (.int _ _) (by omega) rfl, hold_bool (.int _ _) (.atom _ _ rfl) (op_lss_t (by first | omega | assumption)), hold_idx v30 l30 (.atom _ _ rfl) (.int _ _) (by omega) rfl, hold_bool (.int _ _) (.atom _ _ rfl) (op_lss_t (by first | omega | assumption)), hold_idx v31 l31 (.atom _ _ rfl) (.int _ _) (by omega) rfl, hold_bool (.int _ _) (.atom _ _ rfl) (op_lss_f (by first | omega | assumption)), hold_bool (.atom _ _ rfl) (.atom _ _ rfl) (op_neq_f rfl), hold_bool (.atom _ _ rfl) (.atom _ _ rfl) (op_neq_f rfl), hold_bool (.atom _ _ rfl) (.atom _ _ rfl) (op_neq_f rfl), hold_bool (.atom _ _ rfl) (.atom _ _ rfl) (op_neq_f rfl), hold_bool (.atom _ _ rfl) (.atom _ _ rfl) (op_neq_f rfl), hold_bool (.atom _ _ rfl) (.atom _ _ rfl) (op_neq_f rfl), hold_bool (.atom _ _ rfl) (.atom _ _ rfl) (op_neq_f rfl), hold_bool (.atom _ _ rfl) (.atom _ _ rfl) (op_neq_f rfl), hold_op (.atom _ _ rfl) (.int _ _) o32 (.atom _ _ rfl), hold_mx_r (.int _ _) (.atom _ _ rfl) (by omega), hold_mn_l (.int _ _) (.atom _ _ rfl) (by omega), trivial⟩ Zw.i64 rfl rfl (rowsHold_cons (Elem.row v24 (VL.cons (.atom _ _ rfl) VL.nil)) (rowsHold_cons (Elem.row v25 (VL.cons (.atom _ _ rfl) VL.nil)) (rowsHold_cons (Elem.row v26 (VL.cons (.atom _ _ rfl) VL.nil)) (rowsHold_cons (Elem.row v27 (VL.cons (.atom _ _ rfl) VL.nil)) (rowsHold_cons (Elem.row v28 (VL.cons (.atom _ _ rfl) VL.nil)) (rowsHold_cons (Elem.row v29 (VL.cons (.atom _ _ rfl) VL.nil)) (rowsHold_cons (Elem.row v30 (VL.cons (.atom _ _ rfl) VL.nil)) (rowsHold_cons (Elem.row v31 (VL.cons (.atom _ _ rfl) VL.nil)) rowsHold_nil)))))))) Zw.r64
    ·
      have l33 : 0 < m0 := by omega
      obtain ⟨p33, v33⟩ := h0.elem l33
      have w33q0 := r0q0 0
      have l34 : 3 < m0 := by omega
      obtain ⟨p34, v34⟩ := h0.elem l34
      have w34q0 := r0q0 3
      have l35 : 6 < m0 := by omega
      obtain ⟨p35, v35⟩ := h0.elem l35
      have w35q0 := r0q0 6
      have l36 : 9 < m0 := by omega
      obtain ⟨p36, v36⟩ := h0.elem l36
      have w36q0 := r0q0 9
      have l37 : 1 < m0 := by omega
      obtain ⟨p37, v37⟩ := h0.elem l37
      have w37q0 := r0q0 1
      have l38 : 4 < m0 := by omega
      obtain ⟨p38, v38⟩ := h0.elem l38
      have w38q0 := r0q0 4
      have l39 : 7 < m0 := by omega
      obtain ⟨p39, v39⟩ := h0.elem l39
      have w39q0 := r0q0 7
      have l40 : 10 < m0 := by omega
      obtain ⟨p40, v40⟩ := h0.elem l40
      have w40q0 := r0q0 10
      obtain ⟨d41, e41, g41, o41⟩ := ex_sub (m0 : Int) (2 : Int)
      exact Zw.fx Zw.t65 [(.int .i64 (m0 : Int)), (.int .i64 d3), (.int .i64 d4), (.int .i64 d41)] [p33, p34, p35, p36, p37, p38, p39, p40] (Zw.k0 _) ⟨hold_len (.atom _ _ rfl) (.atom _ _ rfl), hold_bool (.int _ _) (.atom _ _ rfl) (op_lss_f (Int.not_lt.1 q1)), hold_op (.atom _ _ rfl) (.int _ _) (o3 .i64) (.atom _ _ rfl), hold_op (.atom _ _ rfl) (.int _ _) o4 (.atom _ _ rfl), hold_op (.atom _ _ rfl) (.int _ _) (by have := (o5 .i64); rw [k5] at this; exact this) (.int _ _), hold_bool (.int _ _) (.atom _ _ rfl) (op_lss_t (by first | omega | assumption)), hold_idx v33 l33 (.atom _ _ rfl) (.int _ _) (by omega) rfl, hold_bool (.int _ _) (.atom _ _ rfl) (op_lss_t (by first | omega | assumption)), hold_idx v34 l34 (.atom _ _ rfl) (.int _ _) (by omega) rfl, hold_bool (.int _ _) (.atom _ _ rfl) (op_lss_t (by first | omega | assumption)), hold_idx v35 l35 (.atom _ _ rfl) (.int _ _) (by omega) rfl, hold_bool (.int _ _) (.atom _ _ rfl) (op_lss_t (by first | omega | assumption)), hold_idx v36 l36 (.atom _ _ rfl) (.int _ _) (by omega) rfl, hold_bool (.int _ _) (.atom _ _ rfl) (op_lss_t (by first | omega | assumption)), hold_idx v37 l37 (.atom _ _ rfl) (.int _ _) (by omega) rfl, hold_bool (.int _ _) (.atom _ _ rfl) (op_lss_t (by first | omega | assumption)), hold_idx v38 l38 (.atom _ _ rfl) (.int _ _) (by omega) rfl, hold_bool (.int _ _) (.atom _ _ rfl) (op_lss_t (by first | omega | assumption)), hold_idx v39 l39 (.atom _ _ rfl) (.int _ _) (by omega) rfl, hold_bool (.int _ _) (.atom _ _ rfl) (op_lss_t (by first | omega | assumption)), hold_idx v40 l40 (.atom _ _ rfl) (.int _ _) (by omega) rfl, hold_bool (.int _ _) (.atom _ _ rfl) (op_lss_f (by first | omega | assumption)), hold_bool (.atom _ _ rfl) (.atom _ _ rfl) (op_neq_f rfl), hold_bool (.atom _ _ rfl) (.atom _ _ rfl) (op_neq_f rfl), hold_bool (.atom _ _ rfl) (.atom _ _ rfl) (op_neq_f rfl), hold_bool (.atom _ _ rfl) (.atom _ _ rfl) (op_neq_f rfl), hold_bool (.atom _ _ rfl) (.atom _ _ rfl) (op_neq_f rfl), hold_bool (.atom _ _ rfl) (.atom _ _ rfl) (op_neq_f rfl), hold_bool (.atom _ _ rfl) (.atom _ _ rfl) (op_neq_f rfl), hold_bool (.atom _ _ rfl) (.atom _ _ rfl) (op_neq_f rfl), hold_op (.atom _ _ rfl) (.int _ _) o41 (.atom _ _ rfl), hold_mx_r (.int _ _) (.atom _ _ rfl) (by omega), hold_mn_l (.int _ _) (.atom _ _ rfl) (by omega), trivial⟩ Zw.i65 rfl rfl (rowsHold_cons (Elem.row v33 (VL.cons (.atom _ _ rfl) VL.nil)) (rowsHold_cons (Elem.row v34 (VL.cons (.atom _ _ rfl) VL.nil)) (rowsHold_cons (Elem.row v35 (VL.cons (.atom _ _ rfl) VL.nil)) (rowsHold_cons (Elem.row v36 (VL.cons (.atom _ _ rfl) VL.nil)) (rowsHold_cons (Elem.row v37 (VL.cons (.atom _ _ rfl) VL.nil)) (rowsHold_cons (Elem.row v38 (VL.cons (.atom _ _ rfl) VL.nil)) (rowsHold_cons (Elem.row v39 (VL.cons (.atom _ _ rfl) VL.nil)) (rowsHold_cons (Elem.row v40 (VL.cons (.atom _ _ rfl) VL.nil)) rowsHold_nil)))))))) Zw.r65
theorem Zw.n12 {W : World} {a0 : Option Addr} {m0 c0 : Nat} {f0q0 : Nat → Int} {n1 : Int} (h0 : SlcOk W a0 m0 c0 1 (fun i => [.int .i64 (f0q0 i)])) (b0 : (m0 : Int) < 9223372036854775808) (r0q0 : ∀ i, R64 (f0q0 i)) (r1 : R64 n1) (j0 : ((11 : Int) ≤ (m0 : Int))) : NdGood Tryz.prog Tryz.f7 8 (firstHeap 8 Tryz.gsL) W Zw.p0 Zw.d12 [(.slice a0 m0 c0), (.int .i64 n1), (.int .i64 (f0q0 0)), (.int .i64 (f0q0 3)), (.int .i64 (f0q0 6)), (.int .i64 (f0q0 9)), (.int .i64 (f0q0 1)), (.int .i64 (f0q0 4)), (.int .i64 (f0q0 7)), (.int .i64 (f0q0 10)), (.int .i64 (f0q0 2)), (.int .i64 (f0q0 5)), (.int .i64 (f0q0 8))] := by
  have ⟨rl1, rh1⟩ := r1
  by_cases q1 : (11 : Int) < (m0 : Int)
  ·
    have l2 : 11 < m0 := by omega
    obtain ⟨p2, v2⟩ := h0.elem l2
    have w2q0 := r0q0 11
    exact Zw.nx Zw.t56 [(.int .i64 (f0q0 11)), (.int .i64 (m0 : Int))] [p2] [(.slice a0 m0 c0), (.int .i64 n1), (.int .i64 (f0q0 0)), (.int .i64 (f0q0 3)), (.int .i64 (f0q0 6)), (.int .i64 (f0q0 9)), (.int .i64 (f0q0 1)), (.int .i64 (f0q0 4)), (.int .i64 (f0q0 7)), (.int .i64 (f0q0 10)), (.int .i64 (f0q0 2)), (.int .i64 (f0q0 5)), (.int .i64 (f0q0 8)), (.int .i64 (f0q0 11))] (Zw.k0 _) ⟨hold_len (.atom _ _ rfl) (.atom _ _ rfl), hold_bool (.int _ _) (.atom _ _ rfl) (op_lss_t q1), hold_idx v2 l2 (.atom _ _ rfl) (.int _ _) (by omega) rfl, trivial⟩ Zw.i56 rfl rfl (rowsHold_cons (Elem.row v2 (VL.cons (.atom _ _ rfl) VL.nil)) rowsHold_nil) Zw.r56 rfl rfl (Zw.n13 h0 b0 r0q0 r1 (by first | omega | assumption))
  ·
    obtain ⟨d3, ⟨y3, e3, z3, u3, w3⟩, g3, o3⟩ := ex_rem n1 (4 : Int) (by omega) (by omega)
    obtain ⟨d4, e4, g4, o4⟩ := ex_add d3 (4 : Int)
    obtain ⟨d5, ⟨y5, e5, z5, u5, w5⟩, g5, o5⟩ := ex_rem d4 (4 : Int) (by omega) (by omega)
    rcases (show d5 = 0 ∨ d5 = 1 ∨ d5 = 2 ∨ d5 = 3 by omega) with k5 | k5 | k5 | k5
    ·
      have l6 : 0 < m0 := by omega
      obtain ⟨p6, v6⟩ := h0.elem l6
      have w6q0 := r0q0 0
      have l7 : 3 < m0 := by omega
      obtain ⟨p7, v7⟩ := h0.elem l7
      have w7q0 := r0q0 3
      have l8 : 6 < m0 := by omega
      obtain ⟨p8, v8⟩ := h0.elem l8
      have w8q0 := r0q0 6
      have l9 : 9 < m0 := by omega
      obtain ⟨p9, v9⟩ := h0.elem l9
      have w9q0 := r0q0 9
      have l10 : 1 < m0 := by omega
      obtain ⟨p10, v10⟩ := h0.elem l10
      have w10q0 := r0q0 1
      have l11 : 4 < m0 := by omega
      obtain ⟨p11, v11⟩ := h0.elem l11
      have w11q0 := r0q0 4
      have l12 : 7 < m0 := by omega
      obtain ⟨p12, v12⟩ := h0.elem l12
      have w12q0 := r0q0 7
      have l13 : 10 < m0 := by omega
      obtain ⟨p13, v13⟩ := h0.elem l13
      have w13q0 := r0q0 10
      obtain ⟨d14, e14, g14, o14⟩ := ex_sub (m0 : Int) (2 : Int)
      exact Zw.fx Zw.t57 [(.int .i64 (m0 : Int)), (.int .i64 d3), (.int .i64 d4), (.int .i64 d14)] [p6, p7, p8, p9, p10, p11, p12, p13] (Zw.k0 _) ⟨hold_len (.atom _ _ rfl) (.atom _ _ rfl), hold_bool (.int _ _) (.atom _ _ rfl) (op_lss_f (Int.not_lt.1 q1)), hold_op (.atom _ _ rfl) (.int _ _) (o3 .i64) (.atom _ _ rfl), hold_op (.atom _ _ rfl) (.int _ _) o4 (.atom _ _ rfl), hold_op (.atom _ _ rfl) (.int _ _) (by have := (o5 .i64); rw [k5] at this; exact this) (.int _ _), hold_bool (.int _ _) (.atom _ _ rfl) (op_lss_t (by first | omega | assumption)), hold_idx v6 l6 (.atom _ _ rfl) (.int _ _) (by omega) rfl, hold_bool (.int _ _) (.atom _ _ rfl) (op_lss_t (by first | omega | assumption)), hold_idx v7 l7 (.atom _ _ rfl) (.int _ _) (by omega) rfl, hold_bool (.int _ _) (.atom _ _ rfl) (op_lss_t (by first | omega | assumption)), hold_idx v8 l8 (.atom _ _ rfl) (.int _ _) (by omega) rfl, hold_bool (.int _ _) (.atom _ _ rfl) (op_lss_t (by first | omega | assumption)), hold_idx v9 l9 (.atom _ _ rfl) (.int _ _) (by omega) rfl, hold_bool (.int _ _) (.atom _ _ rfl) (op_lss_f (by first | omega | assumption)), hold_bool (.int _ _) (.atom _ _ rfl) (op_lss_t (by first | omega | assumption)), hold_idx v10 l10 (.atom _ _ rfl) (.int _ _) (by omega) rfl, hold_bool (.int _ _) (.atom _ _ rfl) (op_lss_t (by first | omega | assumption)), hold_idx v11 l11 (.atom _ _ rfl) (.int _ _) (by omega) rfl, hold_bool (.int _ _) (.atom _ _ rfl) (op_lss_t (by first | omega | assumption)), hold_idx v12 l12 (.atom _ _ rfl) (.int _ _) (by omega) rfl, hold_bool (.int _ _) (.atom _ _ rfl) (op_lss_t (by first | omega | assumption)), hold_idx v13 l13 (.atom _ _ rfl) (.int _ _) (by omega) rfl, hold_bool (.int _ _) (.atom _ _ rfl) (op_lss_f (by first | omega | assumption)), hold_bool (.atom _ _ rfl) (.atom _ _ rfl) (op_neq_f rfl), hold_bool (.atom _ _ rfl) (.atom _ _ rfl) (op_neq_f rfl), hold_bool (.atom _ _ rfl) (.atom _ _ rfl) (op_neq_f rfl), hold_bool (.atom _ _ rfl) (.atom _ _ rfl) (op_neq_f rfl), hold_bool (.atom _ _ rfl) (.atom _ _ rfl) (op_neq_f rfl), hold_bool (.atom _ _ rfl) (.atom _ _ rfl) (op_neq_f rfl), hold_bool (.atom _ _ rfl) (.atom _ _ rfl) (op_neq_f rfl), hold_bool (.atom _ _ rfl) (.atom _ _ rfl) (op_neq_f rfl), hold_op (.atom _ _ rfl) (.int _ _) o14 (.atom _ _ rfl), hold_mx_r (.int _ _) (.atom _ _ rfl) (by omega), hold_mn_l (.int _ _) (.atom _ _ rfl) (by omega), trivial⟩ Zw.i57 rfl rfl (rowsHold_cons (Elem.row v6 (VL.cons (.atom _ _ rfl) VL.nil)) (rowsHold_cons (Elem.row v7 (VL.cons (.atom _ _ rfl) VL.nil)) (rowsHold_cons (Elem.row v8 (VL.cons (.atom _ _ rfl) VL.nil)) (rowsHold_cons (Elem.row v9 (VL.cons (.atom _ _ rfl) VL.nil)) (rowsHold_cons (Elem.row v10 (VL.cons (.atom _ _ rfl) VL.nil)) (rowsHold_cons (Elem.row v11 (VL.cons (.atom _ _ rfl) VL.nil)) (rowsHold_cons (Elem.row v12 (VL.cons (.atom _ _ rfl) VL.nil)) (rowsHold_cons (Elem.row v13 (VL.cons (.atom _ _ rfl) VL.nil)) rowsHold_nil)))))))) Zw.r57
    ·
      have l15 : 0 < m0 := by omega
      obtain ⟨p15, v15⟩ := h0.elem l15
      have w15q0 := r0q0 0
      have l16 : 3 < m0 := by omega
      obtain ⟨p16, v16⟩ := h0.elem l16
      have w16q0 := r0q0 3
      have l17 : 6 < m0 := by omega
      obtain ⟨p17, v17⟩ := h0.elem l17
      have w17q0 := r0q0 6
      have l18 : 9 < m0 := by omega
      obtain ⟨p18, v18⟩ := h0.elem l18
      have w18q0 := r0q0 9
      have l19 : 1 < m0 := by omega
      obtain ⟨p19, v19⟩ := h0.elem l19
      have w19q0 := r0q0 1
      have l20 : 4 < m0 := by omega
      obtain ⟨p20, v20⟩ := h0.elem l20
      have w20q0 := r0q0 4
      have l21 : 7 < m0 := by omega
      obtain ⟨p21, v21⟩ := h0.elem l21
      have w21q0 := r0q0 7
      have l22 : 10 < m0 := by omega
      obtain ⟨p22, v22⟩ := h0.elem l22
      have w22q0 := r0q0 10
      obtain ⟨d23, e23, g23, o23⟩ := ex_sub (m0 : Int) (2 : Int)
      exact Zw.fx Zw.t58 [(.int .i64 (m0 : Int)), (.int .i64 d3), (.int .i64 d4), (.int .i64 d23)] [p15, p16, p17, p18, p19, p20, p21, p22] (Zw.k0 _) ⟨hold_len (.atom _ _ rfl) (.atom _ _ rfl), hold_bool (.int _ _) (.atom _ _ rfl) (op_lss_f (Int.not_lt.1 q1)), hold_op (.atom _ _ rfl) (.int _ _) (o3 .i64) (.atom _ _ rfl), hold_op (.atom _ _ rfl) (.int _ _) o4 (.atom _ _ rfl), hold_op (.atom _ _ rfl) (.int _ _) (by have := (o5 .i64); rw [k5] at this; exact this) (.int _ _), hold_bool (.int _ _) (.atom _ _ rfl) (op_lss_t (by first | omega | assumption)), hold_idx v15 l15 (.atom _ _ rfl) (.int _ _) (by omega) rfl, hold_bool (.int _ _) (.atom _ _ rfl) (op_lss_t (by first | omega | assumption)), hold_idx v16 l16 (.atom _ _ rfl) (.int _ _) (by omega) rfl, hold_bool (.int _ _) (.atom _ _ rfl) (op_lss_t (by first | omega | assumption)), hold_idx v17 l17 (.atom _ _ rfl) (.int _ _) (by omega) rfl, hold_bool (.int _ _) (.atom _ _ rfl) (op_lss_t (by first | omega | assumption)), hold_idx v18 l18 (.atom _ _ rfl) (.int _ _) (by omega) rfl, hold_bool (.int _ _) (.atom _ _ rfl) (op_lss_f (by first | omega | assumption)), hold_bool (.int _ _) (.atom _ _ rfl) (op_lss_t (by first | omega | assumption)), hold_idx v19 l19 (.atom _ _ rfl) (.int _ _) (by omega) rfl, hold_bool (.int _ _) (.atom _ _ rfl) (op_lss_t (by first | omega | assumption)), hold_idx v20 l20 (.atom _ _ rfl) (.int _ _) (by omega) rfl, hold_bool (.int _ _) (.atom _ _ rfl) (op_lss_t (by first | omega | assumption)), hold_idx v21 l21 (.atom _ _ rfl) (.int _ _) (by omega) rfl, hold_bool (.int _ _) (.atom _ _ rfl) (op_lss_t (by first | omega | assumption)), hold_idx v22 l22 (.atom _ _ rfl) (.int _ _) (by omega) rfl, hold_bool (.int _ _) (.atom _ _ rfl) (op_lss_f (by first | omega | assumption)), hold_bool (.atom _ _ rfl) (.atom _ _ rfl) (op_neq_f rfl), hold_bool (.atom _ _ rfl) (.atom _ _ rfl) (op_neq_f rfl), hold_bool (.atom _ _ rfl) (.atom _ _ rfl) (op_neq_f rfl), hold_bool (.atom _ _ rfl) (.atom _ _ rfl) (op_neq_f rfl), hold_bool (.atom _ _ rfl) (.atom _ _ rfl) (op_neq_f rfl), hold_bool (.atom _ _ rfl) (.atom _ _ rfl) (op_neq_f rfl), hold_bool (.atom _ _ rfl) (.atom _ _ rfl) (op_neq_f rfl), hold_bool (.atom _ _ rfl) (.atom _ _ rfl) (op_neq_f rfl), hold_op (.atom _ _ rfl) (.int _ _) o23 (.atom _ _ rfl), hold_mx_r (.int _ _) (.atom _ _ rfl) (by omega), hold_mn_l (.int _ _) (.atom _ _ rfl) (by omega), trivial⟩ Zw.i58 rfl rfl (rowsHold_cons (Elem.row v15 (VL.cons (.atom _ _ rfl) VL.nil)) (rowsHold_cons (Elem.row v16 (VL.cons (.atom _ _ rfl) VL.nil)) (rowsHold_cons (Elem.row v17 (VL.cons (.atom _ _ rfl) VL.nil)) (rowsHold_cons (Elem.row v18 (VL.cons (.atom _ _ rfl) VL.nil)) (rowsHold_cons (Elem.row v19 (VL.cons (.atom _ _ rfl) VL.nil)) (rowsHold_cons (Elem.row v20 (VL.cons (.atom _ _ rfl) VL.nil)) (rowsHold_cons (Elem.row v21 (VL.cons (.atom _ _ rfl) VL.nil)) (rowsHold_cons (Elem.row v22 (VL.cons (.atom _ _ rfl) VL.nil)) rowsHold_nil)))))))) Zw.r58
    ·
      have l24 : 0 < m0 := by omega
      obtain ⟨p24, v24⟩ := h0.elem l24
      have w24q0 := r0q0 0
      have l25 : 3 < m0 := by omega
      obtain ⟨p25, v25⟩ := h0.elem l25
      have w25q0 := r0q0 3
      have l26 : 6 < m0 := by omega
      obtain ⟨p26, v26⟩ := h0.elem l26
      have w26q0 := r0q0 6
      have l27 : 9 < m0 := by omega
      obtain ⟨p27, v27⟩ := h0.elem l27
      have w27q0 := r0q0 9
      have l28 : 1 < m0 := by omega
      obtain ⟨p28, v28⟩ := h0.elem l28
      have w28q0 := r0q0 1
      have l29 : 4 < m0 := by omega
      obtain ⟨p29, v29⟩ := h0.elem l29
      have w29q0 := r0q0 4
      have l30 : 7 < m0 := by omega
      obtain ⟨p30, v30⟩ := h0.elem l30
      have w30q0 := r0q0 7
      have l31 : 10 < m0 := by omega
      obtain ⟨p31, v31⟩ := h0.elem l31
      have w31q0 := r0q0 10
      obtain ⟨d32, e32, g32, o32⟩ := ex_sub (m0 : Int) (2 : Int)
      exact Zw.fx Zw.t59 [(.int .i64 (m0 : Int)), (.int .i64 d3), (.int .i64 d4), (.int .i64 d32)] [p24, p25, p26, p27, p28, p29, p30, p31] (Zw.k0 _) ⟨hold_len (.atom _ _ rfl) (.atom _ _ rfl), hold_bool (.int _ _) (.atom _ _ rfl) (op_lss_f (Int.not_lt.1 q1)), hold_op (.atom _ _ rfl) (.int _ _) (o3 .i64) (.atom _ _ rfl), hold_op (.atom _ _ rfl) (.int _ _) o4 (.atom _ _ rfl), hold_op (.atom _ _ rfl) (.int _ _) (by have := (o5 .i64); rw [k5] at this; exact this) (.int _ _), hold_bool (.int _ _) (.atom _ _ rfl) (op_lss_t (by first | omega | assumption)), hold_idx v24 l24 (.atom _ _ rfl) (.int _ _) (by omega) rfl, hold_bool (.int _ _) (.atom _ _ rfl) (op_lss_t (by first | omega | assumption)), hold_idx v25 l25 (.atom _ _ rfl) (.int _ _) (by omega) rfl, hold_bool (.int _ _) (.atom _ _ rfl) (op_lss_t (by first | omega | assumption)), hold_idx v26 l26 (.atom _ _ rfl) (.int _ _) (by omega) rfl, hold_bool (.int _ _) (.atom _ _ rfl) (op_lss_t (by first | omega | assumption)), hold_idx v27 l27 (.atom _ _ rfl) (.int _ _) (by omega) rfl, hold_bool (.int _ _) (.atom _ _ rfl) (op_lss_f (by first | omega | assumption)), hold_bool (.int _ _) (.atom _ _ rfl) (op_lss_t (by first | omega | assumption)), hold_idx v28 l28 (.atom _ _ rfl) (.int _ _) (by omega) rfl, hold_bool (.int _ _) (.atom _ _ rfl) (op_lss_t (by first | omega | assumption)), hold_idx v29 l29 (.atom _ _ rfl) (.int _ _) (by omega) rfl, hold_bool (.int _ _) (.atom _ _ rfl) (op_lss_t (by first | omega | assumption)), hold_idx v30 l30 (.atom _ _ rfl) (.int _ _) (by omega) rfl, hold_bool (.int _ _) (.atom _ _ rfl) (op_lss_t (by first | omega | assumption)), hold_idx v31 l31 (.atom _ _ rfl) (.int _ _) (by omega) rfl, hold_bool (.int _ _) (.atom _ _ rfl) (op_lss_f (by first | omega | assumption)), hold_bool (.atom _ _ rfl) (.atom _ _ rfl) (op_neq_f rfl), hold_bool (.atom _ _ rfl) (.atom _ _ rfl) (op_neq_f rfl), hold_bool (.atom _ _ rfl) (.atom _ _ rfl) (op_neq_f rfl), hold_bool (.atom _ _ rfl) (.atom _ _ rfl) (op_neq_f rfl), hold_bool (.atom _ _ rfl) (.atom _ _ rfl) (op_neq_f rfl), hold_bool (.atom _ _ rfl) (.atom _ _ rfl) (op_neq_f rfl), hold_bool (.atom _ _ rfl) (.atom _ _ rfl) (op_neq_f rfl), hold_bool (.atom _ _ rfl) (.atom _ _ rfl) (op_neq_f rfl), hold_op (.atom _ _ rfl) (.int _ _) o32 (.atom _ _ rfl), hold_mx_r (.int _ _) (.atom _ _ rfl) (by omega), hold_mn_l (.int _ _) (.atom _ _ rfl) (by omega), trivial⟩ Zw.i59 rfl rfl (rowsHold_cons (Elem.row v24 (VL.cons (.atom _ _ rfl) VL.nil)) (rowsHold_cons (Elem.row v25 (VL.cons (.atom _ _ rfl) VL.nil)) (rowsHold_cons (Elem.row v26 (VL.cons (.atom _ _ rfl) VL.nil)) (rowsHold_cons (Elem.row v27 (VL.cons (.atom _ _ rfl) VL.nil)) (rowsHold_cons (Elem.row v28 (VL.cons (.atom _ _ rfl) VL.nil)) (rowsHold_cons (Elem.row v29 (VL.cons (.atom _ _ rfl) VL.nil)) (rowsHold_cons (Elem.row v30 (VL.cons (.atom _ _ rfl) VL.nil)) (rowsHold_cons (Elem.row v31 (VL.cons (.atom _ _ rfl) VL.nil)) rowsHold_nil)))))))) Zw.r59
    ·
      have l33 : 0 < m0 := by omega
      obtain ⟨p33, v33⟩ := h0.elem l33
      have w33q0 := r0q0 0
      have l34 : 3 < m0 := by omega
      obtain ⟨p34, v34⟩ := h0.elem l34
      have w34q0 := r0q0 3
      have l35 : 6 < m0 := by omega
      obtain ⟨p35, v35⟩ := h0.elem l35
      have w35q0 := r0q0 6
      have l36 : 9 < m0 := by omega
      obtain ⟨p36, v36⟩ := h0.elem l36
      have w36q0 := r0q0 9
      have l37 : 1 < m0 := by omega
      obtain ⟨p37, v37⟩ := h0.elem l37
      have w37q0 := r0q0 1
      have l38 : 4 < m0 := by omega
      obtain ⟨p38, v38⟩ := h0.elem l38
      have w38q0 := r0q0 4
      have l39 : 7 < m0 := by omega
      obtain ⟨p39, v39⟩ := h0.elem l39
      have w39q0 := r0q0 7
      have l40 : 10 < m0 := by omega
      obtain ⟨p40, v40⟩ := h0.elem l40
      have w40q0 := r0q0 10
      obtain ⟨d41, e41, g41, o41⟩ := ex_sub (m0 : Int) (2 : Int)
      exact Zw.fx Zw.t60 [(.int .i64 (m0 : Int)), (.int .i64 d3), (.int .i64 d4), (.int .i64 d41)] [p33, p34, p35, p36, p37, p38, p39, p40] (Zw.k0 _) ⟨hold_len (.atom _ _ rfl) (.atom _ _ rfl), hold_bool (.int _ _) (.atom _ _ rfl) (op_lss_f (Int.not_lt.1 q1)), hold_op (.atom _ _ rfl) (.int _ _) (o3 .i64) (.atom _ _ rfl), hold_op (.atom _ _ rfl) (.int _ _) o4 (.atom _ _ rfl), hold_op (.atom _ _ rfl) (.int _ _) (by have := (o5 .i64); rw [k5] at this; exact this) (.int _ _), hold_bool (.int _ _) (.atom _ _ rfl) (op_lss_t (by first | omega | assumption)), hold_idx v33 l33 (.atom _ _ rfl) (.int _ _) (by omega) rfl, hold_bool (.int _ _) (.atom _ _ rfl) (op_lss_t (by first | omega | assumption)), hold_idx v34 l34 (.atom _ _ rfl) (.int _ _) (by omega) rfl, hold_bool (.int _ _) (.atom _ _ rfl) (op_lss_t (by first | omega | assumption)), hold_idx v35 l35 (.atom _ _ rfl) (.int _ _) (by omega) rfl, hold_bool (.int _ _) (.atom _ _ rfl) (op_lss_t (by first | omega | assumption)), hold_idx v36 l36 (.atom _ _ rfl) (.int _ _) (by omega) rfl, hold_bool (.int _ _) (.atom _ _ rfl) (op_lss_f (by first | omega | assumption)), hold_bool (.int _ _) (.atom _ _ rfl) (op_lss_t (by first | omega | assumption)), hold_idx v37 l37 (.atom _ _ rfl) (.int _ _) (by omega) rfl, hold_bool (.int _ _) (.atom _ _ rfl) (op_lss_t (by first | omega | assumption)), hold_idx v38 l38 (.atom _ _ rfl) (.int _ _) (by omega) rfl, hold_bool (.int _ _) (.atom _ _ rfl) (op_lss_t (by first | omega | assumption)), hold_idx v39 l39 (.atom _ _ rfl) (.int _ _) (by omega) rfl, hold_bool (.int _ _) (.atom _ _ rfl) (op_lss_t (by first | omega | assumption)), hold_idx v40 l40 (.atom _ _ rfl) (.int _ _) (by omega) rfl, hold_bool (.int _ _) (.atom _ _ rfl) (op_lss_f (by first | omega | assumption)), hold_bool (.atom _ _ rfl) (.atom _ _ rfl) (op_neq_f rfl), hold_bool (.atom _ _ rfl) (.atom _ _ rfl) (op_neq_f rfl), hold_bool (.atom _ _ rfl) (.atom _ _ rfl) (op_neq_f rfl), hold_bool (.atom _ _ rfl) (.atom _ _ rfl) (op_neq_f rfl), hold_bool (.atom _ _ rfl) (.atom _ _ rfl) (op_neq_f rfl), hold_bool (.atom _ _ rfl) (.atom _ _ rfl) (op_neq_f rfl), hold_bool (.atom _ _ rfl) (.atom _ _ rfl) (op_neq_f rfl), hold_bool (.atom _ _ rfl) (.atom _ _ rfl) (op_neq_f rfl), hold_op (.atom _ _ rfl) (.int _ _) o41 (.atom _ _ rfl), hold_mx_r (.int _ _) (.atom _ _ rfl) (by omega), hold_mn_l (.int _ _) (.atom _ _ rfl) (by omega), trivial⟩ Zw.i60 rfl rfl (rowsHold_cons (Elem.row v33 (VL.cons (.atom _ _ rfl) VL.nil)) (rowsHold_cons (Elem.row v34 (VL.cons (.atom _ _ rfl) VL.nil)) (rowsHold_cons (Elem.row v35 (VL.cons (.atom _ _ rfl) VL.nil)) (rowsHold_cons (Elem.row v36 (VL.cons (.atom _ _ rfl) VL.nil)) (rowsHold_cons (Elem.row v37 (VL.cons (.atom _ _ rfl) VL.nil)) (rowsHold_cons (Elem.row v38 (VL.cons (.atom _ _ rfl) VL.nil)) (rowsHold_cons (Elem.row v39 (VL.cons (.atom _ _ rfl) VL.nil)) (rowsHold_cons (Elem.row v40 (VL.cons (.atom _ _ rfl) VL.nil)) rowsHold_nil)))))))) Zw.r60
theorem Zw.n11 {W : World} {a0 : Option Addr} {m0 c0 : Nat} {f0q0 : Nat → Int} {n1 : Int} (h0 : SlcOk W a0 m0 c0 1 (fun i => [.int .i64 (f0q0 i)])) (b0 : (m0 : Int) < 9223372036854775808) (r0q0 : ∀ i, R64 (f0q0 i)) (r1 : R64 n1) (j0 : ((10 : Int) ≤ (m0 : Int))) : NdGood Tryz.prog Tryz.f7 8 (firstHeap 8 Tryz.gsL) W Zw.p0 Zw.d11 [(.slice a0 m0 c0), (.int .i64 n1), (.int .i64 (f0q0 0)), (.int .i64 (f0q0 3)), (.int .i64 (f0q0 6)), (.int .i64 (f0q0 9)), (.int .i64 (f0q0 1)), (.int .i64 (f0q0 4)), (.int .i64 (f0q0 7)), (.int .i64 (f0q0 2)), (.int .i64 (f0q0 5)), (.int .i64 (f0q0 8))] := by
  have ⟨rl1, rh1⟩ := r1
  by_cases q1 : (10 : Int) < (m0 : Int)
  ·
    have l2 : 10 < m0 := by omega
    obtain ⟨p2, v2⟩ := h0.elem l2
    have w2q0 := r0q0 10
    exact Zw.nx Zw.t51 [(.int .i64 (f0q0 10)), (.int .i64 (m0 : Int))] [p2] [(.slice a0 m0 c0), (.int .i64 n1), (.int .i64 (f0q0 0)), (.int .i64 (f0q0 3)), (.int .i64 (f0q0 6)), (.int .i64 (f0q0 9)), (.int .i64 (f0q0 1)), (.int .i64 (f0q0 4)), (.int .i64 (f0q0 7)), (.int .i64 (f0q0 10)), (.int .i64 (f0q0 2)), (.int .i64 (f0q0 5)), (.int .i64 (f0q0 8))] (Zw.k0 _) ⟨hold_len (.atom _ _ rfl) (.atom _ _ rfl), hold_bool (.int _ _) (.atom _ _ rfl) (op_lss_t q1), hold_idx v2 l2 (.atom _ _ rfl) (.int _ _) (by omega) rfl, trivial⟩ Zw.i51 rfl rfl (rowsHold_cons (Elem.row v2 (VL.cons (.atom _ _ rfl) VL.nil)) rowsHold_nil) Zw.r51 rfl rfl (Zw.n12 h0 b0 r0q0 r1 (by first | omega | assumption))
  ·
    obtain ⟨d3, ⟨y3, e3, z3, u3, w3⟩, g3, o3⟩ := ex_rem n1 (4 : Int) (by omega) (by omega)
    obtain ⟨d4, e4, g4, o4⟩ := ex_add d3 (4 : Int)
    obtain ⟨d5, ⟨y5, e5, z5, u5, w5⟩, g5, o5⟩ := ex_rem d4 (4 : Int) (by omega) (by omega)
    rcases (show d5 = 0 ∨ d5 = 1 ∨ d5 = 2 ∨ d5 = 3 by omega) with k5 | k5 | k5 | k5
    ·
      have l6 : 0 < m0 := by omega
      obtain ⟨p6, v6⟩ := h0.elem l6
      have w6q0 := r0q0 0
      have l7 : 3 < m0 := by omega
      obtain ⟨p7, v7⟩ := h0.elem l7
      have w7q0 := r0q0 3
      have l8 : 6 < m0 := by omega
      obtain ⟨p8, v8⟩ := h0.elem l8
      have w8q0 := r0q0 6
      have l9 : 9 < m0 := by omega
      obtain ⟨p9, v9⟩ := h0.elem l9
      have w9q0 := r0q0 9
      have l10 : 1 < m0 := by omega
      obtain ⟨p10, v10⟩ := h0.elem l10
      have w10q0 := r0q0 1
      have l11 : 4 < m0 := by omega
      obtain ⟨p11, v11⟩ := h0.elem l11
      have w11q0 := r0q0 4
      have l12 : 7 < m0 := by omega
      obtain ⟨p12, v12⟩ := h0.elem l12
      have w12q0 := r0q0 7
      obtain ⟨d13, e13, g13, o13⟩ := ex_sub (m0 : Int) (2 : Int)
      exact Zw.fx Zw.t52 [(.int .i64 (m0 : Int)), (.int .i64 d3), (.int .i64 d4), (.int .i64 d13)] [p6, p7, p8, p9, p10, p11, p12] (Zw.k0 _) ⟨hold_len (.atom _ _ rfl) (.atom _ _ rfl), hold_bool (.int _ _) (.atom _ _ rfl) (op_lss_f (Int.not_lt.1 q1)), hold_op (.atom _ _ rfl) (.int _ _) (o3 .i64) (.atom _ _ rfl), hold_op (.atom _ _ rfl) (.int _ _) o4 (.atom _ _ rfl), hold_op (.atom _ _ rfl) (.int _ _) (by have := (o5 .i64); rw [k5] at this; exact this) (.int _ _), hold_bool (.int _ _) (.atom _ _ rfl) (op_lss_t (by first | omega | assumption)), hold_idx v6 l6 (.atom _ _ rfl) (.int _ _) (by omega) rfl, hold_bool (.int _ _) (.atom _ _ rfl) (op_lss_t (by first | omega | assumption)), hold_idx v7 l7 (.atom _ _ rfl) (.int _ _) (by omega) rfl, hold_bool (.int _ _) (.atom _ _ rfl) (op_lss_t (by first | omega | assumption)), hold_idx v8 l8 (.atom _ _ rfl) (.int _ _) (by omega) rfl, hold_bool (.int _ _) (.atom _ _ rfl) (op_lss_t (by first | omega | assumption)), hold_idx v9 l9 (.atom _ _ rfl) (.int _ _) (by omega) rfl, hold_bool (.int _ _) (.atom _ _ rfl) (op_lss_f (by first | omega | assumption)), hold_bool (.int _ _) (.atom _ _ rfl) (op_lss_t (by first | omega | assumption)), hold_idx v10 l10 (.atom _ _ rfl) (.int _ _) (by omega) rfl, hold_bool (.int _ _) (.atom _ _ rfl) (op_lss_t (by first | omega | assumption)), hold_idx v11 l11 (.atom _ _ rfl) (.int _ _) (by omega) rfl, hold_bool (.int _ _) (.atom _ _ rfl) (op_lss_t (by first | omega | assumption)), hold_idx v12 l12 (.atom _ _ rfl) (.int _ _) (by omega) rfl, hold_bool (.atom _ _ rfl) (.atom _ _ rfl) (op_neq_f rfl), hold_bool (.atom _ _ rfl) (.atom _ _ rfl) (op_neq_f rfl), hold_bool (.atom _ _ rfl) (.atom _ _ rfl) (op_neq_f rfl), hold_bool (.atom _ _ rfl) (.atom _ _ rfl) (op_neq_f rfl), hold_bool (.atom _ _ rfl) (.atom _ _ rfl) (op_neq_f rfl), hold_bool (.atom _ _ rfl) (.atom _ _ rfl) (op_neq_f rfl), hold_bool (.atom _ _ rfl) (.atom _ _ rfl) (op_neq_f rfl), hold_op (.atom _ _ rfl) (.int _ _) o13 (.atom _ _ rfl), hold_mx_r (.int _ _) (.atom _ _ rfl) (by omega), hold_mn_l (.int _ _) (.atom _ _ rfl) (by omega), trivial⟩ Zw.i52 rfl rfl (rowsHold_cons (Elem.row v6 (VL.cons (.atom _ _ rfl) VL.nil)) (rowsHold_cons (Elem.row v7 (VL.cons (.atom _ _ rfl) VL.nil)) (rowsHold_cons (Elem.row v8 (VL.cons (.atom _ _ rfl) VL.nil)) (rowsHold_cons (Elem.row v9 (VL.cons (.atom _ _ rfl) VL.nil)) (rowsHold_cons (Elem.row v10 (VL.cons (.atom _ _ rfl) VL.nil)) (rowsHold_cons (Elem.row v11 (VL.cons (.atom _ _ rfl) VL.nil)) (rowsHold_cons (Elem.row v12 (VL.cons (.atom _ _ rfl) VL.nil)) rowsHold_nil))))))) Zw.r52
    ·
      have l14 : 0 < m0 := by omega
      obtain ⟨p14, v14⟩ := h0.elem l14
      have w14q0 := r0q0 0
      have l15 : 3 < m0 := by omega
      obtain ⟨p15, v15⟩ := h0.elem l15
      have w15q0 := r0q0 3
      have l16 : 6 < m0 := by omega
      obtain ⟨p16, v16⟩ := h0.elem l16
      have w16q0 := r0q0 6
      have l17 : 9 < m0 := by omega
      obtain ⟨p17, v17⟩ := h0.elem l17
      have w17q0 := r0q0 9
      have l18 : 1 < m0 := by omega
      obtain ⟨p18, v18⟩ := h0.elem l18
      have w18q0 := r0q0 1
      have l19 : 4 < m0 := by omega
      obtain ⟨p19, v19⟩ := h0.elem l19
      have w19q0 := r0q0 4
      have l20 : 7 < m0 := by omega
      obtain ⟨p20, v20⟩ := h0.elem l20
      have w20q0 := r0q0 7
      obtain ⟨d21, e21, g21, o21⟩ := ex_sub (m0 : Int) (2 : Int)
      exact Zw.fx Zw.t53 [(.int .i64 (m0 : Int)), (.int .i64 d3), (.int .i64 d4), (.int .i64 d21)] [p14, p15, p16, p17, p18, p19, p20] (Zw.k0 _) ⟨hold_len (.atom _ _ rfl) (.atom _ _ rfl), hold_bool (.int _ _) (.atom _ _ rfl) (op_lss_f (Int.not_lt.1 q1)), hold_op (.atom _ _ rfl) (.int _ _) (o3 .i64) (.atom _ _ rfl), hold_op (.atom _ _ rfl) (.int _ _) o4 (.atom _ _ rfl), hold_op (.atom _ _ rfl) (.int _ _) (by have := (o5 .i64); rw [k5] at this; exact this) (.int _ _), hold_bool (.int _ _) (.atom _ _ rfl) (op_lss_t (by first | omega | assumption)), hold_idx v14 l14 (.atom _ _ rfl) (.int _ _) (by omega) rfl, hold_bool (.int _ _) (.atom _ _ rfl) (op_lss_t (by first | omega | assumption)), hold_idx v15 l15 (.atom _ _ rfl) (.int _ _) (by omega) rfl, hold_bool (.int _ _) (.atom _ _ rfl) (op_lss_t (by first | omega | assumption)), hold_idx v16 l16 (.atom _ _ rfl) (.int _ _) (by omega) rfl, hold_bool (.int _ _) (.atom _ _ rfl) (op_lss_t (by first | omega | assumption)), hold_idx v17 l17 (.atom _ _ rfl) (.int _ _) (by omega) rfl, hold_bool (.int _ _) (.atom _ _ rfl) (op_lss_f (by first | omega | assumption)), hold_bool (.int _ _) (.atom _ _ rfl) (op_lss_t (by first | omega | assumption)), hold_idx v18 l18 (.atom _ _ rfl) (.int _ _) (by omega) rfl, hold_bool (.int _ _) (.atom _ _ rfl) (op_lss_t (by first | omega | assumption)), hold_idx v19 l19 (.atom _ _ rfl) (.int _ _) (by omega) rfl, hold_bool (.int _ _) (.atom _ _ rfl) (op_lss_t (by first | omega | assumption)), hold_idx v20 l20 (.atom _ _ rfl) (.int _ _) (by omega) rfl, hold_bool (.atom _ _ rfl) (.atom _ _ rfl) (op_neq_f rfl), hold_bool (.atom _ _ rfl) (.atom _ _ rfl) (op_neq_f rfl), hold_bool (.atom _ _ rfl) (.atom _ _ rfl) (op_neq_f rfl), hold_bool (.atom _ _ rfl) (.atom _ _ rfl) (op_neq_f rfl), hold_bool (.atom _ _ rfl) (.atom _ _ rfl) (op_neq_f rfl), hold_bool (.atom _ _ rfl) (.atom _ _ rfl) (op_neq_f rfl), hold_bool (.atom _ _ rfl) (.atom _ _ rfl) (op_neq_f rfl), hold_op (.atom _ _ rfl) (.int _ _) o21 (.atom _ _ rfl), hold_mx_r (.int _ _) (.atom _ _ rfl) (by omega), hold_mn_l (.int _ _) (.atom _ _ rfl) (by omega), trivial⟩ Zw.i53 rfl rfl (rowsHold_cons (Elem.row v14 (VL.cons (.atom _ _ rfl) VL.nil)) (rowsHold_cons (Elem.row v15 (VL.cons (.atom _ _ rfl) VL.nil)) (rowsHold_cons (Elem.row v16 (VL.cons (.atom _ _ rfl) VL.nil)) (rowsHold_cons (Elem.row v17 (VL.cons (.atom _ _ rfl) VL.nil)) (rowsHold_cons (Elem.row v18 (VL.cons (.atom _ _ rfl) VL.nil)) (rowsHold_cons (Elem.row v19 (VL.cons (.atom _ _ rfl) VL.nil)) (rowsHold_cons (Elem.row v20 (VL.cons (.atom _ _ rfl) VL.nil)) rowsHold_nil))))))) Zw.r53
    ·
      have l22 : 0 < m0 := by omega
      obtain ⟨p22, v22⟩ := h0.elem l22
      have w22q0 := r0q0 0
      have l23 : 3 < m0 := by omega
      obtain ⟨p23, v23⟩ := h0.elem l23
      have w23q0 := r0q0 3
      have l24 : 6 < m0 := by omega
      obtain ⟨p24, v24⟩ := h0.elem l24
      have w24q0 := r0q0 6
      have l25 : 9 < m0 := by omega
      obtain ⟨p25, v25⟩ := h0.elem l25
      have w25q0 := r0q0 9
      have l26 : 1 < m0 := by omega
      obtain ⟨p26, v26⟩ := h0.elem l26
      have w26q0 := r0q0 1
      have l27 : 4 < m0 := by omega
      obtain ⟨p27, v27⟩ := h0.elem l27
      have w27q0 := r0q0 4
      have l28 : 7 < m0 := by omega
      obtain ⟨p28, v28⟩ := h0.elem l28
      have w28q0 := r0q0 7
      obtain ⟨d29, e29, g29, o29⟩ := ex_sub (m0 : Int) (2 : Int)
      exact Zw.fx Zw.t54 [(.int .i64 (m0 : Int)), (.int .i64 d3), (.int .i64 d4), (.int .i64 d29)] [p22, p23, p24, p25, p26, p27, p28] (Zw.k0 _) ⟨hold_len (.atom _ _ rfl) (.atom _ _ rfl), hold_bool (.int _ _) (.atom _ _ rfl) (op_lss_f (Int.not_lt.1 q1)), hold_op (.atom _ _ rfl) (.int _ _) (o3 .i64) (.atom _ _ rfl), hold_op (.atom _ _ rfl) (.int _ _) o4 (.atom _ _ rfl), hold_op (.atom _ _ rfl) (.int _ _) (by have := (o5 .i64); rw [k5] at this; exact this) (.int _ _), hold_bool (.int _ _) (.atom _ _ rfl) (op_lss_t (by first | omega | assumption)), hold_idx v22 l22 (.atom _ _ rfl) (.int _ _) (by omega) rfl, hold_bool (.int _ _) (.atom _ _ rfl) (op_lss_t (by first | omega | assumption)), hold_idx v23 l23 (.atom _ _ rfl) (.int _ _) (by omega) rfl, hold_bool (.int _ _) (.atom _ _ rfl) (op_lss_t (by first | omega | assumption)), hold_idx v24 l24 (.atom _ _ rfl) (.int _ _) (by omega) rfl, hold_bool (.int _ _) (.atom _ _ rfl) (op_lss_t (by first | omega | assumption)), hold_idx v25 l25 (.atom _ _ rfl) (.int _ _) (by omega) rfl, hold_bool (.int _ _) (.atom _ _ rfl) (op_lss_f (by first | omega | assumption)), hold_bool (.int _ _) (.atom _ _ rfl) (op_lss_t (by first | omega | assumption)), hold_idx v26 l26 (.atom _ _ rfl) (.int _ _) (by omega) rfl, hold_bool (.int _ _) (.atom _ _ rfl) (op_lss_t (by first | omega | assumption)), hold_idx v27 l27 (.atom _ _ rfl) (.int _ _) (by omega) rfl, hold_bool (.int _ _) (.atom _ _ rfl) (op_lss_t (by first | omega | assumption)), hold_idx v28 l28 (.atom _ _ rfl) (.int _ _) (by omega) rfl, hold_bool (.atom _ _ rfl) (.atom _ _ rfl) (op_neq_f rfl), hold_bool (.atom _ _ rfl) (.atom _ _ rfl) (op_neq_f rfl), hold_bool (.atom _ _ rfl) (.atom _ _ rfl) (op_neq_f rfl), hold_bool (.atom _ _ rfl) (.atom _ _ rfl) (op_neq_f rfl), hold_bool (.atom _ _ rfl) (.atom _ _ rfl) (op_neq_f rfl), hold_bool (.atom _ _ rfl) (.atom _ _ rfl) (op_neq_f rfl), hold_bool (.atom _ _ rfl) (.atom _ _ rfl) (op_neq_f rfl), hold_op (.atom _ _ rfl) (.int _ _) o29 (.atom _ _ rfl), hold_mx_r (.int _ _) (.atom _ _ rfl) (by omega), hold_mn_l (.int _ _) (.atom _ _ rfl) (by omega), trivial⟩ Zw.i54 rfl rfl (rowsHold_cons (Elem.row v22 (VL.cons (.atom _ _ rfl) VL.nil)) (rowsHold_cons (Elem.row v23 (VL.cons (.atom _ _ rfl) VL.nil)) (rowsHold_cons (Elem.row v24 (VL.cons (.atom _ _ rfl) VL.nil)) (rowsHold_cons (Elem.row v25 (VL.cons (.atom _ _ rfl) VL.nil)) (rowsHold_cons (Elem.row v26 (VL.cons (.atom _ _ rfl) VL.nil)) (rowsHold_cons (Elem.row v27 (VL.cons (.atom _ _ rfl) VL.nil)) (rowsHold_cons (Elem.row v28 (VL.cons (.atom _ _ rfl) VL.nil)) rowsHold_nil))))))) Zw.r54
    ·
      have l30 : 0 < m0 := by omega
      obtain ⟨p30, v30⟩ := h0.elem l30
      have w30q0 := r0q0 0
      have l31 : 3 < m0 := by omega
      obtain ⟨p31, v31⟩ := h0.elem l31
      have w31q0 := r0q0 3
      have l32 : 6 < m0 := by omega
      obtain ⟨p32, v32⟩ := h0.elem l32
      have w32q0 := r0q0 6
      have l33 : 9 < m0 := by omega
      obtain ⟨p33, v33⟩ := h0.elem l33
      have w33q0 := r0q0 9
      have l34 : 1 < m0 := by omega
      obtain ⟨p34, v34⟩ := h0.elem l34
      have w34q0 := r0q0 1
      have l35 : 4 < m0 := by omega
      obtain ⟨p35, v35⟩ := h0.elem l35
      have w35q0 := r0q0 4
      have l36 : 7 < m0 := by omega
      obtain ⟨p36, v36⟩ := h0.elem l36
      have w36q0 := r0q0 7
      obtain ⟨d37, e37, g37, o37⟩ := ex_sub (m0 : Int) (2 : Int)
      exact Zw.fx Zw.t55 [(.int .i64 (m0 : Int)), (.int .i64 d3), (.int .i64 d4), (.int .i64 d37)] [p30, p31, p32, p33, p34, p35, p36] (Zw.k0 _) ⟨hold_len (.atom _ _ rfl) (.atom _ _ rfl), hold_bool (.int _ _) (.atom _ _ rfl) (op_lss_f (Int.not_lt.1 q1)), hold_op (.atom _ _ rfl) (.int _ _) (o3 .i64) (.atom _ _ rfl), hold_op (.atom _ _ rfl) (.int _ _) o4 (.atom _ _ rfl), hold_op (.atom _ _ rfl) (.int _ _) (by have := (o5 .i64); rw [k5] at this; exact this) (.int _ _), hold_bool (.int _ _) (.atom _ _ rfl) (op_lss_t (by first | omega | assumption)), hold_idx v30 l30 (.atom _ _ rfl) (.int _ _) (by omega) rfl, hold_bool (.int _ _) (.atom _ _ rfl) (op_lss_t (by first | omega | assumption)), hold_idx v31 l31 (.atom _ _ rfl) (.int _ _) (by omega) rfl, hold_bool (.int _ _) (.atom _ _ rfl) (op_lss_t (by first | omega | assumption)), hold_idx v32 l32 (.atom _ _ rfl) (.int _ _) (by omega) rfl, hold_bool (.int _ _) (.atom _ _ rfl) (op_lss_t (by first | omega | assumption)), hold_idx v33 l33 (.atom _ _ rfl) (.int _ _) (by omega) rfl, hold_bool (.int _ _) (.atom _ _ rfl) (op_lss_f (by first | omega | assumption)), hold_bool (.int _ _) (.atom _ _ rfl) (op_lss_t (by first | omega | assumption)), hold_idx v34 l34 (.atom _ _ rfl) (.int _ _) (by omega) rfl, hold_bool (.int _ _) (.atom _ _ rfl) (op_lss_t (by first | omega | assumption)), hold_idx v35 l35 (.atom _ _ rfl) (.int _ _) (by omega) rfl, hold_bool (.int _ _) (.atom _ _ rfl) (op_lss_t (by first | omega | assumption)), hold_idx v36 l36 (.atom _ _ rfl) (.int _ _) (by omega) rfl, hold_bool (.atom _ _ rfl) (.atom _ _ rfl) (op_neq_f rfl), hold_bool (.atom _ _ rfl) (.atom _ _ rfl) (op_neq_f rfl), hold_bool (.atom _ _ rfl) (.atom _ _ rfl) (op_neq_f rfl), hold_bool (.atom _ _ rfl) (.atom _ _ rfl) (op_neq_f rfl), hold_bool (.atom _ _ rfl) (.atom _ _ rfl) (op_neq_f rfl), hold_bool (.atom _ _ rfl) (.atom _ _ rfl) (op_neq_f rfl), hold_bool (.atom _ _ rfl) (.atom _ _ rfl) (op_neq_f rfl), hold_op (.atom _ _ rfl) (.int _ _) o37 (.atom _ _ rfl), hold_mx_r (.int _ _) (.atom _ _ rfl) (by omega), hold_mn_l (.int _ _) (.atom _ _ rfl) (by omega), trivial⟩ Zw.i55 rfl rfl (rowsHold_cons (Elem.row v30 (VL.cons (.atom _ _ rfl) VL.nil)) (rowsHold_cons (Elem.row v31 (VL.cons (.atom _ _ rfl) VL.nil)) (rowsHold_cons (Elem.row v32 (VL.cons (.atom _ _ rfl) VL.nil)) (rowsHold_cons (Elem.row v33 (VL.cons (.atom _ _ rfl) VL.nil)) (rowsHold_cons (Elem.row v34 (VL.cons (.atom _ _ rfl) VL.nil)) (rowsHold_cons (Elem.row v35 (VL.cons (.atom _ _ rfl) VL.nil)) (rowsHold_cons (Elem.row v36 (VL.cons (.atom _ _ rfl) VL.nil)) rowsHold_nil))))))) Zw.r55
theorem Zw.n10 {W : World} {a0 : Option Addr} {m0 c0 : Nat} {f0q0 : Nat → Int} {n1 : Int} (h0 : SlcOk W a0 m0 c0 1 (fun i => [.int .i64 (f0q0 i)])) (b0 : (m0 : Int) < 9223372036854775808) (r0q0 : ∀ i, R64 (f0q0 i)) (r1 : R64 n1) (j0 : ((9 : Int) ≤ (m0 : Int))) : NdGood Tryz.prog Tryz.f7 8 (firstHeap 8 Tryz.gsL) W Zw.p0 Zw.d10 [(.slice a0 m0 c0), (.int .i64 n1), (.int .i64 (f0q0 0)), (.int .i64 (f0q0 3)), (.int .i64 (f0q0 6)), (.int .i64 (f0q0 1)), (.int .i64 (f0q0 4)), (.int .i64 (f0q0 7)), (.int .i64 (f0q0 2)), (.int .i64 (f0q0 5)), (.int .i64 (f0q0 8))] := by
  have ⟨rl1, rh1⟩ := r1
  by_cases q1 : (9 : Int) < (m0 : Int)
  ·
    have l2 : 9 < m0 := by omega
    obtain ⟨p2, v2⟩ := h0.elem l2
    have w2q0 := r0q0 9
    exact Zw.nx Zw.t46 [(.int .i64 (f0q0 9)), (.int .i64 (m0 : Int))] [p2] [(.slice a0 m0 c0), (.int .i64 n1), (.int .i64 (f0q0 0)), (.int .i64 (f0q0 3)), (.int .i64 (f0q0 6)), (.int .i64 (f0q0 9)), (.int .i64 (f0q0 1)), (.int .i64 (f0q0 4)), (.int .i64 (f0q0 7)), (.int .i64 (f0q0 2)), (.int .i64 (f0q0 5)), (.int .i64 (f0q0 8))] (Zw.k0 _) ⟨hold_len (.atom _ _ rfl) (.atom _ _ rfl), hold_bool (.int _ _) (.atom _ _ rfl) (op_lss_t q1), hold_idx v2 l2 (.atom _ _ rfl) (.int _ _) (by omega) rfl, trivial⟩ Zw.i46 rfl rfl (rowsHold_cons (Elem.row v2 (VL.cons (.atom _ _ rfl) VL.nil)) rowsHold_nil) Zw.r46 rfl rfl (Zw.n11 h0 b0 r0q0 r1 (by first | omega | assumption))
  ·
    obtain ⟨d3, ⟨y3, e3, z3, u3, w3⟩, g3, o3⟩ := ex_rem n1 (4 : Int) (by omega) (by omega)
    obtain ⟨d4, e4, g4, o4⟩ := ex_add d3 (4 : Int)
    obtain ⟨d5, ⟨y5, e5, z5, u5, w5⟩, g5, o5⟩ := ex_rem d4 (4 : Int) (by omega) (by omega)
    rcases (show d5 = 0 ∨ d5 = 1 ∨ d5 = 2 ∨ d5 = 3 by omega) with k5 | k5 | k5 | k5
    ·
      have l6 : 0 < m0 := by omega
      obtain ⟨p6, v6⟩ := h0.elem l6
      have w6q0 := r0q0 0
      have l7 : 3 < m0 := by omega
      obtain ⟨p7, v7⟩ := h0.elem l7
      have w7q0 := r0q0 3
      have l8 : 6 < m0 := by omega
      obtain ⟨p8, v8⟩ := h0.elem l8
      have w8q0 := r0q0 6
      have l9 : 1 < m0 := by omega
      obtain ⟨p9, v9⟩ := h0.elem l9
      have w9q0 := r0q0 1
      have l10 : 4 < m0 := by omega
      obtain ⟨p10, v10⟩ := h0.elem l10
      have w10q0 := r0q0 4
      have l11 : 7 < m0 := by omega
      obtain ⟨p11, v11⟩ := h0.elem l11
      have w11q0 := r0q0 7
      obtain ⟨d12, e12, g12, o12⟩ := ex_sub (m0 : Int) (2 : Int)
      exact Zw.fx Zw.t47 [(.int .i64 (m0 : Int)), (.int .i64 d3), (.int .i64 d4), (.int .i64 d12)] [p6, p7, p8, p9, p10, p11] (Zw.k0 _) ⟨hold_len (.atom _ _ rfl) (.atom _ _ rfl), hold_bool (.int _ _) (.atom _ _ rfl) (op_lss_f (Int.not_lt.1 q1)), hold_op (.atom _ _ rfl) (.int _ _) (o3 .i64) (.atom _ _ rfl), hold_op (.atom _ _ rfl) (.int _ _) o4 (.atom _ _ rfl), hold_op (.atom _ _ rfl) (.int _ _) (by have := (o5 .i64); rw [k5] at this; exact this) (.int _ _), hold_bool (.int _ _) (.atom _ _ rfl) (op_lss_t (by first | omega | assumption)), hold_idx v6 l6 (.atom _ _ rfl) (.int _ _) (by omega) rfl, hold_bool (.int _ _) (.atom _ _ rfl) (op_lss_t (by first | omega | assumption)), hold_idx v7 l7 (.atom _ _ rfl) (.int _ _) (by omega) rfl, hold_bool (.int _ _) (.atom _ _ rfl) (op_lss_t (by first | omega | assumption)), hold_idx v8 l8 (.atom _ _ rfl) (.int _ _) (by omega) rfl, hold_bool (.int _ _) (.atom _ _ rfl) (op_lss_t (by first | omega | assumption)), hold_idx v9 l9 (.atom _ _ rfl) (.int _ _) (by omega) rfl, hold_bool (.int _ _) (.atom _ _ rfl) (op_lss_t (by first | omega | assumption)), hold_idx v10 l10 (.atom _ _ rfl) (.int _ _) (by omega) rfl, hold_bool (.int _ _) (.atom _ _ rfl) (op_lss_t (by first | omega | assumption)), hold_idx v11 l11 (.atom _ _ rfl) (.int _ _) (by omega) rfl, hold_bool (.int _ _) (.atom _ _ rfl) (op_lss_f (by first | omega | assumption)), hold_bool (.atom _ _ rfl) (.atom _ _ rfl) (op_neq_f rfl), hold_bool (.atom _ _ rfl) (.atom _ _ rfl) (op_neq_f rfl), hold_bool (.atom _ _ rfl) (.atom _ _ rfl) (op_neq_f rfl), hold_bool (.atom _ _ rfl) (.atom _ _ rfl) (op_neq_f rfl), hold_bool (.atom _ _ rfl) (.atom _ _ rfl) (op_neq_f rfl), hold_bool (.atom _ _ rfl) (.atom _ _ rfl) (op_neq_f rfl), hold_op (.atom _ _ rfl) (.int _ _) o12 (.atom _ _ rfl), hold_mx_r (.int _ _) (.atom _ _ rfl) (by omega), hold_mn_l (.int _ _) (.atom _ _ rfl) (by omega), trivial⟩ Zw.i47 rfl rfl (rowsHold_cons (Elem.row v6 (VL.cons (.atom _ _ rfl) VL.nil)) (rowsHold_cons (Elem.row v7 (VL.cons (.atom _ _ rfl) VL.nil)) (rowsHold_cons (Elem.row v8 (VL.cons (.atom _ _ rfl) VL.nil)) (rowsHold_cons (Elem.row v9 (VL.cons (.atom _ _ rfl) VL.nil)) (rowsHold_cons (Elem.row v10 (VL.cons (.atom _ _ rfl) VL.nil)) (rowsHold_cons (Elem.row v11 (VL.cons (.atom _ _ rfl) VL.nil)) rowsHold_nil)))))) Zw.r47
    ·
      have l13 : 0 < m0 := by omega
      obtain ⟨p13, v13⟩ := h0.elem l13
      have w13q0 := r0q0 0
      have l14 : 3 < m0 := by omega
      obtain ⟨p14, v14⟩ := h0.elem l14
      have w14q0 := r0q0 3
      have l15 : 6 < m0 := by omega
      obtain ⟨p15, v15⟩ := h0.elem l15
      have w15q0 := r0q0 6
      have l16 : 1 < m0 := by omega
      obtain ⟨p16, v16⟩ := h0.elem l16
      have w16q0 := r0q0 1
      have l17 : 4 < m0 := by omega
      obtain ⟨p17, v17⟩ := h0.elem l17
      have w17q0 := r0q0 4
      have l18 : 7 < m0 := by omega
      obtain ⟨p18, v18⟩ := h0.elem l18
      have w18q0 := r0q0 7
      obtain ⟨d19, e19, g19, o19⟩ := ex_sub (m0 : Int) (2 : Int)
      exact Zw.fx Zw.t48 [(.int .i64 (m0 : Int)), (.int .i64 d3), (.int .i64 d4), (.int .i64 d19)] [p13, p14, p15, p16, p17, p18] (Zw.k0 _) ⟨hold_len (.atom _ _ rfl) (.atom _ _ rfl), hold_bool (.int _ _) (.atom _ _ rfl) (op_lss_f (Int.not_lt.1 q1)), hold_op (.atom _ _ rfl) (.int _ _) (o3 .i64) (.atom _ _ rfl), hold_op (.atom _ _ rfl) (.int _ _) o4 (.atom _ _ rfl), hold_op (.atom _ _ rfl) (.int _ _) (by have := (o5 .i64); rw [k5] at this; exact this) (.int _ _), hold_bool (.int _ _) (.atom _ _ rfl) (op_lss_t (by first | omega | assumption)), hold_idx v13 l13 (.atom _ _ rfl) (.int _ _) (by omega) rfl, hold_bool (.int _ _) (.atom _ _ rfl) (op_lss_t (by first | omega | assumption)), hold_idx v14 l14 (.atom _ _ rfl) (.int _ _) (by omega) rfl, hold_bool (.int _ _) (.atom _ _ rfl) (op_lss_t (by first | omega | assumption)), hold_idx v15 l15 (.atom _ _ rfl) (.int _ _) (by omega) rfl, hold_bool (.int _ _) (.atom _ _ rfl) (op_lss_t (by first | omega | assumption)), hold_idx v16 l16 (.atom _ _ rfl) (.int _ _) (by omega) rfl, hold_bool (.int _ _) (.atom _ _ rfl) (op_lss_t (by first | omega | assumption)), hold_idx v17 l17 (.atom _ _ rfl) (.int _ _) (by omega) rfl, hold_bool (.int _ _) (.atom _ _ rfl) (op_lss_t (by first | omega | assumption)), hold_idx v18 l18 (.atom _ _ rfl) (.int _ _) (by omega) rfl, hold_bool (.int _ _) (.atom _ _ rfl) (op_lss_f (by first | omega | assumption)), hold_bool (.atom _ _ rfl) (.atom _ _ rfl) (op_neq_f rfl), hold_bool (.atom _ _ rfl) (.atom _ _ rfl) (op_neq_f rfl), hold_bool (.atom _ _ rfl) (.atom _ _ rfl) (op_neq_f rfl), hold_bool (.atom _ _ rfl) (.atom _ _ rfl) (op_neq_f rfl), hold_bool (.atom _ _ rfl) (.atom _ _ rfl) (op_neq_f rfl), hold_bool (.atom _ _ rfl) (.atom _ _ rfl) (op_neq_f rfl), hold_op (.atom _ _ rfl) (.int _ _) o19 (.atom _ _ rfl), hold_mx_r (.int _ _) (.atom _ _ rfl) (by omega), hold_mn_l (.int _ _) (.atom _ _ rfl) (by omega), trivial⟩ Zw.i48 rfl rfl (rowsHold_cons (Elem.row v13 (VL.cons (.atom _ _ rfl) VL.nil)) (rowsHold_cons (Elem.row v14 (VL.cons (.atom _ _ rfl) VL.nil)) (rowsHold_cons (Elem.row v15 (VL.cons (.atom _ _ rfl) VL.nil)) (rowsHold_cons (Elem.row v16 (VL.cons (.atom _ _ rfl) VL.nil)) (rowsHold_cons (Elem.row v17 (VL.cons (.atom _ _ rfl) VL.nil)) (rowsHold_cons (Elem.row v18 (VL.cons (.atom _ _ rfl) VL.nil)) rowsHold_nil)))))) Zw.r48
    ·
      have l20 : 0 < m0 := by omega
      obtain ⟨p20, v20⟩ := h0.elem l20
      have w20q0 := r0q0 0
      have l21 : 3 < m0 := by omega
      obtain ⟨p21, v21⟩ := h0.elem l21
      have w21q0 := r0q0 3
      have l22 : 6 < m0 := by omega
      obtain ⟨p22, v22⟩ := h0.elem l22
      have w22q0 := r0q0 6
      have l23 : 1 < m0 := by omega
      obtain ⟨p23, v23⟩ := h0.elem l23
      have w23q0 := r0q0 1
      have l24 : 4 < m0 := by omega
      obtain ⟨p24, v24⟩ := h0.elem l24
      have w24q0 := r0q0 4
      have l25 : 7 < m0 := by omega
      obtain ⟨p25, v25⟩ := h0.elem l25
      have w25q0 := r0q0 7
      obtain ⟨d26, e26, g26, o26⟩ := ex_sub (m0 : Int) (2 : Int)
      exact Zw.fx Zw.t49 [(.int .i64 (m0 : Int)), (.int .i64 d3), (.int .i64 d4), (.int .i64 d26)] [p20, p21, p22, p23, p24, p25] (Zw.k0 _) ⟨hold_len (.atom _ _ rfl) (.atom _ _ rfl), hold_bool (.int _ _) (.atom _ _ rfl) (op_lss_f (Int.not_lt.1 q1)), hold_op (.atom _ _ rfl) (.int _ _) (o3 .i64) (.atom _ _ rfl), hold_op (.atom _ _ rfl) (.int _ _) o4 (.atom _ _ rfl), hold_op (.atom _ _ rfl) (.int _ _) (by have := (o5 .i64); rw [k5] at this; exact this) (.int _ _), hold_bool (.int _ _) (.atom _ _ rfl) (op_lss_t (by first | omega | assumption)), hold_idx v20 l20 (.atom _ _ rfl) (.int _ _) (by omega) rfl, hold_bool (.int _ _) (.atom _ _ rfl) (op_lss_t (by first | omega | assumption)), hold_idx v21 l21 (.atom _ _ rfl) (.int _ _) (by omega) rfl, hold_bool (.int _ _) (.atom _ _ rfl) (op_lss_t (by first | omega | assumption)), hold_idx v22 l22 (.atom _ _ rfl) (.int _ _) (by omega) rfl, hold_bool (.int _ _) (.atom _ _ rfl) (op_lss_t (by first | omega | assumption)), hold_idx v23 l23 (.atom _ _ rfl) (.int _ _) (by omega) rfl, hold_bool (.int _ _) (.atom _ _ rfl) (op_lss_t (by first | omega | assumption)), hold_idx v24 l24 (.atom _ _ rfl) (.int _ _) (by omega) rfl, hold_bool (.int _ _) (.atom _ _ rfl) (op_lss_t (by first | omega | assumption)), hold_idx v25 l25 (.atom _ _ rfl) (.int _ _) (by omega) rfl, hold_bool (.int _ _) (.atom _ _ rfl) (op_lss_f (by first | omega | assumption)), hold_bool (.atom _ _ rfl) (.atom _ _ rfl) (op_neq_f rfl), hold_bool (.atom _ _ rfl) (.atom _ _ rfl) (op_neq_f rfl), hold_bool (.atom _ _ rfl) (.atom _ _ rfl) (op_neq_f rfl), hold_bool (.atom _ _ rfl) (.atom _ _ rfl) (op_neq_f rfl), hold_bool (.atom _ _ rfl) (.atom _ _ rfl) (op_neq_f rfl), hold_bool (.atom _ _ rfl) (.atom _ _ rfl) (op_neq_f rfl), hold_op (.atom _ _ rfl) (.int _ _) o26 (.atom _ _ rfl), hold_mx_r (.int _ _) (.atom _ _ rfl) (by omega), hold_mn_l (.int _ _) (.atom _ _ rfl) (by omega), trivial⟩ Zw.i49 rfl rfl (rowsHold_cons (Elem.row v20 (VL.cons (.atom _ _ rfl) VL.nil)) (rowsHold_cons (Elem.row v21 (VL.cons (.atom _ _ rfl) VL.nil)) (rowsHold_cons (Elem.row v22 (VL.cons (.atom _ _ rfl) VL.nil)) (rowsHold_cons (Elem.row v23 (VL.cons (.atom _ _ rfl) VL.nil)) (rowsHold_cons (Elem.row v24 (VL.cons (.atom _ _ rfl) VL.nil)) (rowsHold_cons (Elem.row v25 (VL.cons (.atom _ _ rfl) VL.nil)) rowsHold_nil)))))) Zw.r49
    ·
      have l27 : 0 < m0 := by omega
      obtain ⟨p27, v27⟩ := h0.elem l27
      have w27q0 := r0q0 0
      have l28 : 3 < m0 := by omega
      obtain ⟨p28, v28⟩ := h0.elem l28
      have w28q0 := r0q0 3
      have l29 : 6 < m0 := by omega
      obtain ⟨p29, v29⟩ := h0.elem l29
      have w29q0 := r0q0 6
      have l30 : 1 < m0 := by omega
      obtain ⟨p30, v30⟩ := h0.elem l30
      have w30q0 := r0q0 1
      have l31 : 4 < m0 := by omega
      obtain ⟨p31, v31⟩ := h0.elem l31
      have w31q0 := r0q0 4
      have l32 : 7 < m0 := by omega
      obtain ⟨p32, v32⟩ := h0.elem l32
      have w32q0 := r0q0 7
      obtain ⟨d33, e33, g33, o33⟩ := ex_sub (m0 : Int) (2 : Int)
      exact Zw.fx Zw.t50 [(.int .i64 (m0 : Int)), (.int .i64 d3), (.int .i64 d4), (.int .i64 d33)] [p27, p28, p29, p30, p31, p32] (Zw.k0 _) ⟨hold_len (.atom _ _ rfl) (.atom _ _ rfl), hold_bool (.int _ _) (.atom _ _ rfl) (op_lss_f (Int.not_lt.1 q1)), hold_op (.atom _ _ rfl) (.int _ _) (o3 .i64) (.atom _ _ rfl), hold_op (.atom _ _ rfl) (.int _ _) o4 (.atom _ _ rfl), hold_op (.atom _ _ rfl) (.int _ _) (by have := (o5 .i64); rw [k5] at this; exact this) (.int _ _), hold_bool (.int _ _) (.atom _ _ rfl) (op_lss_t (by first | omega | assumption)), hold_idx v27 l27 (.atom _ _ rfl) (.int _ _) (by omega) rfl, hold_bool (.int _ _) (.atom _ _ rfl) (op_lss_t (by first | omega | assumption)), hold_idx v28 l28 (.atom _ _ rfl) (.int _ _) (by omega) rfl, hold_bool (.int _ _) (.atom _ _ rfl) (op_lss_t (by first | omega | assumption)), hold_idx v29 l29 (.atom _ _ rfl) (.int _ _) (by omega) rfl, hold_bool (.int _ _) (.atom _ _ rfl) (op_lss_t (by first | omega | assumption)), hold_idx v30 l30 (.atom _ _ rfl) (.int _ _) (by omega) rfl, hold_bool (.int _ _) (.atom _ _ rfl) (op_lss_t (by first | omega | assumption)), hold_idx v31 l31 (.atom _ _ rfl) (.int _ _) (by omega) rfl, hold_bool (.int _ _) (.atom _ _ rfl) (op_lss_t (by first | omega | assumption)), hold_idx v32 l32 (.atom _ _ rfl) (.int _ _) (by omega) rfl, hold_bool (.int _ _) (.atom _ _ rfl) (op_lss_f (by first | omega | assumption)), hold_bool (.atom _ _ rfl) (.atom _ _ rfl) (op_neq_f rfl), hold_bool (.atom _ _ rfl) (.atom _ _ rfl) (op_neq_f rfl), hold_bool (.atom _ _ rfl) (.atom _ _ rfl) (op_neq_f rfl), hold_bool (.atom _ _ rfl) (.atom _ _ rfl) (op_neq_f rfl), hold_bool (.atom _ _ rfl) (.atom _ _ rfl) (op_neq_f rfl), hold_bool (.atom _ _ rfl) (.atom _ _ rfl) (op_neq_f rfl), hold_op (.atom _ _ rfl) (.int _ _) o33 (.atom _ _ rfl), hold_mx_r (.int _ _) (.atom _ _ rfl) (by omega), hold_mn_l (.int _ _) (.atom _ _ rfl) (by omega), trivial⟩ Zw.i50 rfl rfl (rowsHold_cons (Elem.row v27 (VL.cons (.atom _ _ rfl) VL.nil)) (rowsHold_cons (Elem.row v28 (VL.cons (.atom _ _ rfl) VL.nil)) (rowsHold_cons (Elem.row v29 (VL.cons (.atom _ _ rfl) VL.nil)) (rowsHold_cons (Elem.row v30 (VL.cons (.atom _ _ rfl) VL.nil)) (rowsHold_cons (Elem.row v31 (VL.cons (.atom _ _ rfl) VL.nil)) (rowsHold_cons (Elem.row v32 (VL.cons (.atom _ _ rfl) VL.nil)) rowsHold_nil)))))) Zw.r50
theorem Zw.n9 {W : World} {a0 : Option Addr} {m0 c0 : Nat} {f0q0 : Nat → Int} {n1 : Int} (h0 : SlcOk W a0 m0 c0 1 (fun i => [.int .i64 (f0q0 i)])) (b0 : (m0 : Int) < 9223372036854775808) (r0q0 : ∀ i, R64 (f0q0 i)) (r1 : R64 n1) (j0 : ((8 : Int) ≤ (m0 : Int))) : NdGood Tryz.prog Tryz.f7 8 (firstHeap 8 Tryz.gsL) W Zw.p0 Zw.d9 [(.slice a0 m0 c0), (.int .i64 n1), (.int .i64 (f0q0 0)), (.int .i64 (f0q0 3)), (.int .i64 (f0q0 6)), (.int .i64 (f0q0 1)), (.int .i64 (f0q0 4)), (.int .i64 (f0q0 7)), (.int .i64 (f0q0 2)), (.int .i64 (f0q0 5))] := by
  have ⟨rl1, rh1⟩ := r1
  by_cases q1 : (8 : Int) < (m0 : Int)
  ·
    have l2 : 8 < m0 := by omega
    obtain ⟨p2, v2⟩ := h0.elem l2
    have w2q0 := r0q0 8
    exact Zw.nx Zw.t41 [(.int .i64 (f0q0 8)), (.int .i64 (m0 : Int))] [p2] [(.slice a0 m0 c0), (.int .i64 n1), (.int .i64 (f0q0 0)), (.int .i64 (f0q0 3)), (.int .i64 (f0q0 6)), (.int .i64 (f0q0 1)), (.int .i64 (f0q0 4)), (.int .i64 (f0q0 7)), (.int .i64 (f0q0 2)), (.int .i64 (f0q0 5)), (.int .i64 (f0q0 8))] (Zw.k0 _) ⟨hold_len (.atom _ _ rfl) (.atom _ _ rfl), hold_bool (.int _ _) (.atom _ _ rfl) (op_lss_t q1), hold_idx v2 l2 (.atom _ _ rfl) (.int _ _) (by omega) rfl, trivial⟩ Zw.i41 rfl rfl (rowsHold_cons (Elem.row v2 (VL.cons (.atom _ _ rfl) VL.nil)) rowsHold_nil) Zw.r41 rfl rfl (Zw.n10 h0 b0 r0q0 r1 (by first | omega | assumption))
  ·
    obtain ⟨d3, ⟨y3, e3, z3, u3, w3⟩, g3, o3⟩ := ex_rem n1 (4 : Int) (by omega) (by omega)
    obtain ⟨d4, e4, g4, o4⟩ := ex_add d3 (4 : Int)
    obtain ⟨d5, ⟨y5, e5, z5, u5, w5⟩, g5, o5⟩ := ex_rem d4 (4 : Int) (by omega) (by omega)
    rcases (show d5 = 0 ∨ d5 = 1 ∨ d5 = 2 ∨ d5 = 3 by omega) with k5 | k5 | k5 | k5
    ·
      have l6 : 0 < m0 := by omega
      obtain ⟨p6, v6⟩ := h0.elem l6
      have w6q0 := r0q0 0
      have l7 : 3 < m0 := by omega
      obtain ⟨p7, v7⟩ := h0.elem l7
      have w7q0 := r0q0 3
      have l8 : 6 < m0 := by omega
      obtain ⟨p8, v8⟩ := h0.elem l8
      have w8q0 := r0q0 6
      have l9 : 1 < m0 := by omega
      obtain ⟨p9, v9⟩ := h0.elem l9
      have w9q0 := r0q0 1
      have l10 : 4 < m0 := by omega
      obtain ⟨p10, v10⟩ := h0.elem l10
      have w10q0 := r0q0 4
      have l11 : 7 < m0 := by omega
      obtain ⟨p11, v11⟩ := h0.elem l11
      have w11q0 := r0q0 7
      obtain ⟨d12, e12, g12, o12⟩ := ex_sub (m0 : Int) (2 : Int)
      exact Zw.fx Zw.t42 [(.int .i64 (m0 : Int)), (.int .i64 d3), (.int .i64 d4), (.int .i64 d12)] [p6, p7, p8, p9, p10, p11] (Zw.k0 _) ⟨hold_len (.atom _ _ rfl) (.atom _ _ rfl), hold_bool (.int _ _) (.atom _ _ rfl) (op_lss_f (Int.not_lt.1 q1)), hold_op (.atom _ _ rfl) (.int _ _) (o3 .i64) (.atom _ _ rfl), hold_op (.atom _ _ rfl) (.int _ _) o4 (.atom _ _ rfl), hold_op (.atom _ _ rfl) (.int _ _) (by have := (o5 .i64); rw [k5] at this; exact this) (.int _ _), hold_bool (.int _ _) (.atom _ _ rfl) (op_lss_t (by first | omega | assumption)), hold_idx v6 l6 (.atom _ _ rfl) (.int _ _) (by omega) rfl, hold_bool (.int _ _) (.atom _ _ rfl) (op_lss_t (by first | omega | assumption)), hold_idx v7 l7 (.atom _ _ rfl) (.int _ _) (by omega) rfl, hold_bool (.int _ _) (.atom _ _ rfl) (op_lss_t (by first | omega | assumption)), hold_idx v8 l8 (.atom _ _ rfl) (.int _ _) (by omega) rfl, hold_bool (.int _ _) (.atom _ _ rfl) (op_lss_f (by first | omega | assumption)), hold_bool (.int _ _) (.atom _ _ rfl) (op_lss_t (by first | omega | assumption)), hold_idx v9 l9 (.atom _ _ rfl) (.int _ _) (by omega) rfl, hold_bool (.int _ _) (.atom _ _ rfl) (op_lss_t (by first | omega | assumption)), hold_idx v10 l10 (.atom _ _ rfl) (.int _ _) (by omega) rfl, hold_bool (.int _ _) (.atom _ _ rfl) (op_lss_t (by first | omega | assumption)), hold_idx v11 l11 (.atom _ _ rfl) (.int _ _) (by omega) rfl, hold_bool (.int _ _) (.atom _ _ rfl) (op_lss_f (by first | omega | assumption)), hold_bool (.atom _ _ rfl) (.atom _ _ rfl) (op_neq_f rfl), hold_bool (.atom _ _ rfl) (.atom _ _ rfl) (op_neq_f rfl), hold_bool (.atom _ _ rfl) (.atom _ _ rfl) (op_neq_f rfl), hold_bool (.atom _ _ rfl) (.atom _ _ rfl) (op_neq_f rfl), hold_bool (.atom _ _ rfl) (.atom _ _ rfl) (op_neq_f rfl), hold_bool (.atom _ _ rfl) (.atom _ _ rfl) (op_neq_f rfl), hold_op (.atom _ _ rfl) (.int _ _) o12 (.atom _ _ rfl), hold_mx_r (.int _ _) (.atom _ _ rfl) (by omega), hold_mn_l (.int _ _) (.atom _ _ rfl) (by omega), trivial⟩ Zw.i42 rfl rfl (rowsHold_cons (Elem.row v6 (VL.cons (.atom _ _ rfl) VL.nil)) (rowsHold_cons (Elem.row v7 (VL.cons (.atom _ _ rfl) VL.nil)) (rowsHold_cons (Elem.row v8 (VL.cons (.atom _ _ rfl) VL.nil)) (rowsHold_cons (Elem.row v9 (VL.cons (.atom _ _ rfl) VL.nil)) (rowsHold_cons (Elem.row v10 (VL.cons (.atom _ _ rfl) VL.nil)) (rowsHold_cons (Elem.row v11 (VL.cons (.atom _ _ rfl) VL.nil)) rowsHold_nil)))))) Zw.r42
    ·
      have l13 : 0 < m0 := by omega
      obtain ⟨p13, v13⟩ := h0.elem l13
      have w13q0 := r0q0 0
      have l14 : 3 < m0 := by omega
      obtain ⟨p14, v14⟩ := h0.elem l14
      have w14q0 := r0q0 3
      have l15 : 6 < m0 := by omega
      obtain ⟨p15, v15⟩ := h0.elem l15
      have w15q0 := r0q0 6
      have l16 : 1 < m0 := by omega
      obtain ⟨p16, v16⟩ := h0.elem l16
      have w16q0 := r0q0 1
      have l17 : 4 < m0 := by omega
      obtain ⟨p17, v17⟩ := h0.elem l17
      have w17q0 := r0q0 4
      have l18 : 7 < m0 := by omega
      obtain ⟨p18, v18⟩ := h0.elem l18
      have w18q0 := r0q0 7
      obtain ⟨d19, e19, g19, o19⟩ := ex_sub (m0 : Int) (2 : Int)
      exact Zw.fx Zw.t43 [(.int .i64 (m0 : Int)), (.int .i64 d3), (.int .i64 d4), (.int .i64 d19)] [p13, p14, p15, p16, p17, p18] (Zw.k0 _) ⟨hold_len (.atom _ _ rfl) (.atom _ _ rfl), hold_bool (.int _ _) (.atom _ _ rfl) (op_lss_f (Int.not_lt.1 q1)), hold_op (.atom _ _ rfl) (.int _ _) (o3 .i64) (.atom _ _ rfl), hold_op (.atom _ _ rfl) (.int _ _) o4 (.atom _ _ rfl), hold_op (.atom _ _ rfl) (.int _ _) (by have := (o5 .i64); rw [k5] at this; exact this) (.int _ _), hold_bool (.int _ _) (.atom _ _ rfl) (op_lss_t (by first | omega | assumption)), hold_idx v13 l13 (.atom _ _ rfl) (.int _ _) (by omega) rfl, hold_bool (.int _ _) (.atom _ _ rfl) (op_lss_t (by first | omega | assumption)), hold_idx v14 l14 (.atom _ _ rfl) (.int _ _) (by omega) rfl, hold_bool (.int _ _) (.atom _ _ rfl) (op_lss_t (by first | omega | assumption)), hold_idx v15 l15 (.atom _ _ rfl) (.int _ _) (by omega) rfl, hold_bool (.int _ _) (.atom _ _ rfl) (op_lss_f (by first | omega | assumption)), hold_bool (.int _ _) (.atom _ _ rfl) (op_lss_t (by first | omega | assumption)), hold_idx v16 l16 (.atom _ _ rfl) (.int _ _) (by omega) rfl, hold_bool (.int _ _) (.atom _ _ rfl) (op_lss_t (by first | omega | assumption)), hold_idx v17 l17 (.atom _ _ rfl) (.int _ _) (by omega) rfl, hold_bool (.int _ _) (.atom _ _ rfl) (op_lss_t (by first | omega | assumption)), hold_idx v18 l18 (.atom _ _ rfl) (.int _ _) (by omega) rfl, hold_bool (.int _ _) (.atom _ _ rfl) (op_lss_f (by first | omega | assumption)), hold_bool (.atom _ _ rfl) (.atom _ _ rfl) (op_neq_f rfl), hold_bool (.atom _ _ rfl) (.atom _ _ rfl) (op_neq_f rfl), hold_bool (.atom _ _ rfl) (.atom _ _ rfl) (op_neq_f rfl), hold_bool (.atom _ _ rfl) (.atom _ _ rfl) (op_neq_f rfl), hold_bool (.atom _ _ rfl) (.atom _ _ rfl) (op_neq_f rfl), hold_bool (.atom _ _ rfl) (.atom _ _ rfl) (op_neq_f rfl), hold_op (.atom _ _ rfl) (.int _ _) o19 (.atom _ _ rfl), hold_mx_r (.int _ _) (.atom _ _ rfl) (by omega), hold_mn_l (.int _ _) (.atom _ _ rfl) (by omega), trivial⟩ Zw.i43 rfl rfl (rowsHold_cons (Elem.row v13 (VL.cons (.atom _ _ rfl) VL.nil)) (rowsHold_cons (Elem.row v14 (VL.cons (.atom _ _ rfl) VL.nil)) (rowsHold_cons (Elem.row v15 (VL.cons (.atom _ _ rfl) VL.nil)) (rowsHold_cons (Elem.row v16 (VL.cons (.atom _ _ rfl) VL.nil)) (rowsHold_cons (Elem.row v17 (VL.cons (.atom _ _ rfl) VL.nil)) (rowsHold_cons (Elem.row v18 (VL.cons (.atom _ _ rfl) VL.nil)) rowsHold_nil)))))) Zw.r43
    ·
      have l20 : 0 < m0 := by omega
      obtain ⟨p20, v20⟩ := h0.elem l20
      have w20q0 := r0q0 0
      have l21 : 3 < m0 := by omega
      obtain ⟨p21, v21⟩ := h0.elem l21
      have w21q0 := r0q0 3
      have l22 : 6 < m0 := by omega
      obtain ⟨p22, v22⟩ := h0.elem l22
      have w22q0 := r0q0 6
      have l23 : 1 < m0 := by omega
      obtain ⟨p23, v23⟩ := h0.elem l23
      have w23q0 := r0q0 1
      have l24 : 4 < m0 := by omega
      obtain ⟨p24, v24⟩ := h0.elem l24
      have w24q0 := r0q0 4
      have l25 : 7 < m0 := by omega
      obtain ⟨p25, v25⟩ := h0.elem l25
      have w25q0 := r0q0 7
      obtain ⟨d26, e26, g26, o26⟩ := ex_sub (m0 : Int) (2 : Int)
      exact Zw.fx Zw.t44 [(.int .i64 (m0 : Int)), (.int .i64 d3), (.int .i64 d4), (.int .i64 d26)] [p20, p21, p22, p23, p24, p25] (Zw.k0 _) ⟨hold_len (.atom _ _ rfl) (.atom _ _ rfl), hold_bool (.int _ _) (.atom _ _ rfl) (op_lss_f (Int.not_lt.1 q1)), hold_op (.atom _ _ rfl) (.int _ _) (o3 .i64) (.atom _ _ rfl), hold_op (.atom _ _ rfl) (.int _ _) o4 (.atom _ _ rfl), hold_op (.atom _ _ rfl) (.int _ _) (by have := (o5 .i64); rw [k5] at this; exact this) (.int _ _), hold_bool (.int _ _) (.atom _ _ rfl) (op_lss_t (by first | omega | assumption)), hold_idx v20 l20 (.atom _ _ rfl) (.int _ _) (by omega) rfl, hold_bool (.int _ _) (.atom _ _ rfl) (op_lss_t (by first | omega | assumption)), hold_idx v21 l21 (.atom _ _ rfl) (.int _ _) (by omega) rfl, hold_bool (.int _ _) (.atom _ _ rfl) (op_lss_t (by first | omega | assumption)), hold_idx v22 l22 (.atom _ _ rfl) (.int _ _) (by omega) rfl, hold_bool (.int _ _) (.atom _ _ rfl) (op_lss_f (by first | omega | assumption)), hold_bool (.int _ _) (.atom _ _ rfl) (op_lss_t (by first | omega | assumption)), hold_idx v23 l23 (.atom _ _ rfl) (.int _ _) (by omega) rfl, hold_bool (.int _ _) (.atom _ _ rfl) (op_lss_t (by first | omega | assumption)), hold_idx v24 l24 (.atom _ _ rfl) (.int _ _) (by omega) rfl, hold_bool (.int _ _) (.atom _ _ rfl) (op_lss_t (by first | omega | assumption)), hold_idx v25 l25 (.atom _ _ rfl) (.int _ _) (by omega) rfl, hold_bool (.int _ _) (.atom _ _ rfl) (op_lss_f (by first | omega | assumption)), hold_bool (.atom _ _ rfl) (.atom _ _ rfl) (op_neq_f rfl), hold_bool (.atom _ _ rfl) (.atom _ _ rfl) (op_neq_f rfl), hold_bool (.atom _ _ rfl) (.atom _ _ rfl) (op_neq_f rfl), hold_bool (.atom _ _ rfl) (.atom _ _ rfl) (op_neq_f rfl), hold_bool (.atom _ _ rfl) (.atom _ _ rfl) (op_neq_f rfl), hold_bool (.atom _ _ rfl) (.atom _ _ rfl) (op_neq_f rfl), hold_op (.atom _ _ rfl) (.int _ _) o26 (.atom _ _ rfl), hold_mx_r (.int _ _) (.atom _ _ rfl) (by omega), hold_mn_l (.int _ _) (.atom _ _ rfl) (by omega), trivial⟩ Zw.i44 rfl rfl (rowsHold_cons (Elem.row v20 (VL.cons (.atom _ _ rfl) VL.nil)) (rowsHold_cons (Elem.row v21 (VL.cons (.atom _ _ rfl) VL.nil)) (rowsHold_cons (Elem.row v22 (VL.cons (.atom _ _ rfl) VL.nil)) (rowsHold_cons (Elem.row v23 (VL.cons (.atom _ _ rfl) VL.nil)) (rowsHold_cons (Elem.row v24 (VL.cons (.atom _ _ rfl) VL.nil)) (rowsHold_cons (Elem.row v25 (VL.cons (.atom _ _ rfl) VL.nil)) rowsHold_nil)))))) Zw.r44
    ·
      have l27 : 0 < m0 := by omega
      obtain ⟨p27, v27⟩ := h0.elem l27
      have w27q0 := r0q0 0
      have l28 : 3 < m0 := by omega
      obtain ⟨p28, v28⟩ := h0.elem l28
      have w28q0 := r0q0 3
      have l29 : 6 < m0 := by omega
      obtain ⟨p29, v29⟩ := h0.elem l29
      have w29q0 := r0q0 6
      have l30 : 1 < m0 := by omega
      obtain ⟨p30, v30⟩ := h0.elem l30
      have w30q0 := r0q0 1
      have l31 : 4 < m0 := by omega
      obtain ⟨p31, v31⟩ := h0.elem l31
      have w31q0 := r0q0 4
      have l32 : 7 < m0 := by omega
      obtain ⟨p32, v32⟩ := h0.elem l32
      have w32q0 := r0q0 7
      obtain ⟨d33, e33, g33, o33⟩ := ex_sub (m0 : Int) (2 : Int)
      exact Zw.fx Zw.t45 [(.int .i64 (m0 : Int)), (.int .i64 d3), (.int .i64 d4), (.int .i64 d33)] [p27, p28, p29, p30, p31, p32] (Zw.k0 _) ⟨hold_len (.atom _ _ rfl) (.atom _ _ rfl), hold_bool (.int _ _) (.atom _ _ rfl) (op_lss_f (Int.not_lt.1 q1)), hold_op (.atom _ _ rfl) (.int _ _) (o3 .i64) (.atom _ _ rfl), hold_op (.atom _ _ rfl) (.int _ _) o4 (.atom _ _ rfl), hold_op (.atom _ _ rfl) (.int _ _) (by have := (o5 .i64); rw [k5] at this; exact this) (.int _ _), hold_bool (.int _ _) (.atom _ _ rfl) (op_lss_t (by first | omega | assumption)), hold_idx v27 l27 (.atom _ _ rfl) (.int _ _) (by omega) rfl, hold_bool (.int _ _) (.atom _ _ rfl) (op_lss_t (by first | omega | assumption)), hold_idx v28 l28 (.atom _ _ rfl) (.int _ _) (by omega) rfl, hold_bool (.int _ _) (.atom _ _ rfl) (op_lss_t (by first | omega | assumption)), hold_idx v29 l29 (.atom _ _ rfl) (.int _ _) (by omega) rfl, hold_bool (.int _ _) (.atom _ _ rfl) (op_lss_f (by first | omega | assumption)), hold_bool (.int _ _) (.atom _ _ rfl) (op_lss_t (by first | omega | assumption)), hold_idx v30 l30 (.atom _ _ rfl) (.int _ _) (by omega) rfl, hold_bool (.int _ _) (.atom _ _ rfl) (op_lss_t (by first | omega | assumption)), hold_idx v31 l31 (.atom _ _ rfl) (.int _ _) (by omega) rfl, hold_bool (.int _ _) (.atom _ _ rfl) (op_lss_t (by first | omega | assumption)), hold_idx v32 l32 (.atom _ _ rfl) (.int _ _) (by omega) rfl, hold_bool (.int _ _) (.atom _ _ rfl) (op_lss_f (by first | omega | assumption)), hold_bool (.atom _ _ rfl) (.atom _ _ rfl) (op_neq_f rfl), hold_bool (.atom _ _ rfl) (.atom _ _ rfl) (op_neq_f rfl), hold_bool (.atom _ _ rfl) (.atom _ _ rfl) (op_neq_f rfl), hold_bool (.atom _ _ rfl) (.atom _ _ rfl) (op_neq_f rfl), hold_bool (.atom _ _ rfl) (.atom _ _ rfl) (op_neq_f rfl), hold_bool (.atom _ _ rfl) (.atom _ _ rfl) (op_neq_f rfl), hold_op (.atom _ _ rfl) (.int _ _) o33 (.atom _ _ rfl), hold_mx_r (.int _ _) (.atom _ _ rfl) (by omega), hold_mn_l (.int _ _) (.atom _ _ rfl) (by omega), trivial⟩ Zw.i45 rfl rfl (rowsHold_cons (Elem.row v27 (VL.cons (.atom _ _ rfl) VL.nil)) (rowsHold_cons (Elem.row v28 (VL.cons (.atom _ _ rfl) VL.nil)) (rowsHold_cons (Elem.row v29 (VL.cons (.atom _ _ rfl) VL.nil)) (rowsHold_cons (Elem.row v30 (VL.cons (.atom _ _ rfl) VL.nil)) (rowsHold_cons (Elem.row v31 (VL.cons (.atom _ _ rfl) VL.nil)) (rowsHold_cons (Elem.row v32 (VL.cons (.atom _ _ rfl) VL.nil)) rowsHold_nil)))))) Zw.r45
theorem Zw.n8 {W : World} {a0 : Option Addr} {m0 c0 : Nat} {f0q0 : Nat → Int} {n1 : Int} (h0 : SlcOk W a0 m0 c0 1 (fun i => [.int .i64 (f0q0 i)])) (b0 : (m0 : Int) < 9223372036854775808) (r0q0 : ∀ i, R64 (f0q0 i)) (r1 : R64 n1) (j0 : ((7 : Int) ≤ (m0 : Int))) : NdGood Tryz.prog Tryz.f7 8 (firstHeap 8 Tryz.gsL) W Zw.p0 Zw.d8 [(.slice a0 m0 c0), (.int .i64 n1), (.int .i64 (f0q0 0)), (.int .i64 (f0q0 3)), (.int .i64 (f0q0 6)), (.int .i64 (f0q0 1)), (.int .i64 (f0q0 4)), (.int .i64 (f0q0 2)), (.int .i64 (f0q0 5))] := by
  have ⟨rl1, rh1⟩ := r1
  by_cases q1 : (7 : Int) < (m0 : Int)
  ·
    have l2 : 7 < m0 := by omega
    obtain ⟨p2, v2⟩ := h0.elem l2
    have w2q0 := r0q0 7
    exact Zw.nx Zw.t36 [(.int .i64 (f0q0 7)), (.int .i64 (m0 : Int))] [p2] [(.slice a0 m0 c0), (.int .i64 n1), (.int .i64 (f0q0 0)), (.int .i64 (f0q0 3)), (.int .i64 (f0q0 6)), (.int .i64 (f0q0 1)), (.int .i64 (f0q0 4)), (.int .i64 (f0q0 7)), (.int .i64 (f0q0 2)), (.int .i64 (f0q0 5))] (Zw.k0 _) ⟨hold_len (.atom _ _ rfl) (.atom _ _ rfl), hold_bool (.int _ _) (.atom _ _ rfl) (op_lss_t q1), hold_idx v2 l2 (.atom _ _ rfl) (.int _ _) (by omega) rfl, trivial⟩ Zw.i36 rfl rfl (rowsHold_cons (Elem.row v2 (VL.cons (.atom _ _ rfl) VL.nil)) rowsHold_nil) Zw.r36 rfl rfl (Zw.n9 h0 b0 r0q0 r1 (by first | omega | assumption))
  ·
    obtain ⟨d3, ⟨y3, e3, z3, u3, w3⟩, g3, o3⟩ := ex_rem n1 (4 : Int) (by omega) (by omega)
    obtain ⟨d4, e4, g4, o4⟩ := ex_add d3 (4 : Int)
    obtain ⟨d5, ⟨y5, e5, z5, u5, w5⟩, g5, o5⟩ := ex_rem d4 (4 : Int) (by omega) (by omega)
    rcases (show d5 = 0 ∨ d5 = 1 ∨ d5 = 2 ∨ d5 = 3 by omega) with k5 | k5 | k5 | k5
    ·
      have l6 : 0 < m0 := by omega
      obtain ⟨p6, v6⟩ := h0.elem l6
      have w6q0 := r0q0 0
      have l7 : 3 < m0 := by omega
      obtain ⟨p7, v7⟩ := h0.elem l7
      have w7q0 := r0q0 3
      have l8 : 6 < m0 := by omega
      obtain ⟨p8, v8⟩ := h0.elem l8
      have w8q0 := r0q0 6
      have l9 : 1 < m0 := by omega
      obtain ⟨p9, v9⟩ := h0.elem l9
      have w9q0 := r0q0 1
      have l10 : 4 < m0 := by omega
      obtain ⟨p10, v10⟩ := h0.elem l10
      have w10q0 := r0q0 4
      obtain ⟨d11, e11, g11, o11⟩ := ex_sub (m0 : Int) (2 : Int)
      exact Zw.fx Zw.t37 [(.int .i64 (m0 : Int)), (.int .i64 d3), (.int .i64 d4), (.int .i64 d11)] [p6, p7, p8, p9, p10] (Zw.k0 _) ⟨hold_len (.atom _ _ rfl) (.atom _ _ rfl), hold_bool (.int _ _) (.atom _ _ rfl) (op_lss_f (Int.not_lt.1 q1)), hold_op (.atom _ _ rfl) (.int _ _) (o3 .i64) (.atom _ _ rfl), hold_op (.atom _ _ rfl) (.int _ _) o4 (.atom _ _ rfl), hold_op (.atom _ _ rfl) (.int _ _) (by have := (o5 .i64); rw [k5] at this; exact this) (.int _ _), hold_bool (.int _ _) (.atom _ _ rfl) (op_lss_t (by first | omega | assumption)), hold_idx v6 l6 (.atom _ _ rfl) (.int _ _) (by omega) rfl, hold_bool (.int _ _) (.atom _ _ rfl) (op_lss_t (by first | omega | assumption)), hold_idx v7 l7 (.atom _ _ rfl) (.int _ _) (by omega) rfl, hold_bool (.int _ _) (.atom _ _ rfl) (op_lss_t (by first | omega | assumption)), hold_idx v8 l8 (.atom _ _ rfl) (.int _ _) (by omega) rfl, hold_bool (.int _ _) (.atom _ _ rfl) (op_lss_f (by first | omega | assumption)), hold_bool (.int _ _) (.atom _ _ rfl) (op_lss_t (by first | omega | assumption)), hold_idx v9 l9 (.atom _ _ rfl) (.int _ _) (by omega) rfl, hold_bool (.int _ _) (.atom _ _ rfl) (op_lss_t (by first | omega | assumption)), hold_idx v10 l10 (.atom _ _ rfl) (.int _ _) (by omega) rfl, hold_bool (.atom _ _ rfl) (.atom _ _ rfl) (op_neq_f rfl), hold_bool (.atom _ _ rfl) (.atom _ _ rfl) (op_neq_f rfl), hold_bool (.atom _ _ rfl) (.atom _ _ rfl) (op_neq_f rfl), hold_bool (.atom _ _ rfl) (.atom _ _ rfl) (op_neq_f rfl), hold_bool (.atom _ _ rfl) (.atom _ _ rfl) (op_neq_f rfl), hold_op (.atom _ _ rfl) (.int _ _) o11 (.atom _ _ rfl), hold_mx_r (.int _ _) (.atom _ _ rfl) (by omega), hold_mn_l (.int _ _) (.atom _ _ rfl) (by omega), trivial⟩ Zw.i37 rfl rfl (rowsHold_cons (Elem.row v6 (VL.cons (.atom _ _ rfl) VL.nil)) (rowsHold_cons (Elem.row v7 (VL.cons (.atom _ _ rfl) VL.nil)) (rowsHold_cons (Elem.row v8 (VL.cons (.atom _ _ rfl) VL.nil)) (rowsHold_cons (Elem.row v9 (VL.cons (.atom _ _ rfl) VL.nil)) (rowsHold_cons (Elem.row v10 (VL.cons (.atom _ _ rfl) VL.nil)) rowsHold_nil))))) Zw.r37
    ·
      have l12 : 0 < m0 := by omega
      obtain ⟨p12, v12⟩ := h0.elem l12
      have w12q0 := r0q0 0
      have l13 : 3 < m0 := by omega
      obtain ⟨p13, v13⟩ := h0.elem l13
      have w13q0 := r0q0 3
      have l14 : 6 < m0 := by omega
      obtain ⟨p14, v14⟩ := h0.elem l14
      have w14q0 := r0q0 6
      have l15 : 1 < m0 := by omega
      obtain ⟨p15, v15⟩ := h0.elem l15
      have w15q0 := r0q0 1
      have l16 : 4 < m0 := by omega
      obtain ⟨p16, v16⟩ := h0.elem l16
      have w16q0 := r0q0 4
      obtain ⟨d17, e17, g17, o17⟩ := ex_sub (m0 : Int) (2 : Int)
      exact Zw.fx Zw.t38 [(.int .i64 (m0 : Int)), (.int .i64 d3), (.int .i64 d4), (.int .i64 d17)] [p12, p13, p14, p15, p16] (Zw.k0 _) ⟨hold_len (.atom _ _ rfl) (.atom _ _ rfl), hold_bool (.int _ _) (.atom _ _ rfl) (op_lss_f (Int.not_lt.1 q1)), hold_op (.atom _ _ rfl) (.int _ _) (o3 .i64) (.atom _ _ rfl), hold_op (.atom _ _ rfl) (.int _ _) o4 (.atom _ _ rfl), hold_op (.atom _ _ rfl) (.int _ _) (by have := (o5 .i64); rw [k5] at this; exact this) (.int _ _), hold_bool (.int _ _) (.atom _ _ rfl) (op_lss_t (by first | omega | assumption)), hold_idx v12 l12 (.atom _ _ rfl) (.int _ _) (by omega) rfl, hold_bool (.int _ _) (.atom _ _ rfl) (op_lss_t (by first | omega | assumption)), hold_idx v13 l13 (.atom _ _ rfl) (.int _ _) (by omega) rfl, hold_bool (.int _ _) (.atom _ _ rfl) (op_lss_t (by first | omega | assumption)), hold_idx v14 l14 (.atom _ _ rfl) (.int _ _) (by omega) rfl, hold_bool (.int _ _) (.atom _ _ rfl) (op_lss_f (by first | omega | assumption)), hold_bool (.int _ _) (.atom _ _ rfl) (op_lss_t (by first | omega | assumption)), hold_idx v15 l15 (.atom _ _ rfl) (.int _ _) (by omega) rfl, hold_bool (.int _ _) (.atom _ _ rfl) (op_lss_t (by first | omega | assumption)), hold_idx v16 l16 (.atom _ _ rfl) (.int _ _) (by omega) rfl, hold_bool (.atom _ _ rfl) (.atom _ _ rfl) (op_neq_f rfl), hold_bool (.atom _ _ rfl) (.atom _ _ rfl) (op_neq_f rfl), hold_bool (.atom _ _ rfl) (.atom _ _ rfl) (op_neq_f rfl), hold_bool (.atom _ _ rfl) (.atom _ _ rfl) (op_neq_f rfl), hold_bool (.atom _ _ rfl) (.atom _ _ rfl) (op_neq_f rfl), hold_op (.atom _ _ rfl) (.int _ _) o17 (.atom _ _ rfl), hold_mx_r (.int _ _) (.atom _ _ rfl) (by omega), hold_mn_l (.int _ _) (.atom _ _ rfl) (by omega), trivial⟩ Zw.i38 rfl rfl (rowsHold_cons (Elem.row v12 (VL.cons (.atom _ _ rfl) VL.nil)) (rowsHold_cons (Elem.row v13 (VL.cons (.atom _ _ rfl) VL.nil)) (rowsHold_cons (Elem.row v14 (VL.cons (.atom _ _ rfl) VL.nil)) (rowsHold_cons (Elem.row v15 (VL.cons (.atom _ _ rfl) VL.nil)) (rowsHold_cons (Elem.row v16 (VL.cons (.atom _ _ rfl) VL.nil)) rowsHold_nil))))) Zw.r38
    ·
      have l18 : 0 < m0 := by omega
      obtain ⟨p18, v18⟩ := h0.elem l18
      have w18q0 := r0q0 0
      have l19 : 3 < m0 := by omega
      obtain ⟨p19, v19⟩ := h0.elem l19
      have w19q0 := r0q0 3
      have l20 : 6 < m0 := by omega
      obtain ⟨p20, v20⟩ := h0.elem l20
      have w20q0 := r0q0 6
      have l21 : 1 < m0 := by omega
      obtain ⟨p21, v21⟩ := h0.elem l21
      have w21q0 := r0q0 1
      have l22 : 4 < m0 := by omega
      obtain ⟨p22, v22⟩ := h0.elem l22
      have w22q0 := r0q0 4
      obtain ⟨d23, e23, g23, o23⟩ := ex_sub (m0 : Int) (2 : Int)
      exact Zw.fx Zw.t39 [(.int .i64 (m0 : Int)), (.int .i64 d3), (.int .i64 d4), (.int .i64 d23)] [p18, p19, p20, p21, p22] (Zw.k0 _) ⟨hold_len (.atom _ _ rfl) (.atom _ _ rfl), hold_bool (.int _ _) (.atom _ _ rfl) (op_lss_f (Int.not_lt.1 q1)), hold_op (.atom _ _ rfl) (.int _ _) (o3 .i64) (.atom _ _ rfl), hold_op (.atom _ _ rfl) (.int _ _) o4 (.atom _ _ rfl), hold_op (.atom _ _ rfl) (.int _ _) (by have := (o5 .i64); rw [k5] at this; exact this) (.int _ _), hold_bool (.int _ _) (.atom _ _ rfl) (op_lss_t (by first | omega | assumption)), hold_idx v18 l18 (.atom _ _ rfl) (.int _ _) (by omega) rfl, hold_bool (.int _ _) (.atom _ _ rfl) (op_lss_t (by first | omega | assumption)), hold_idx v19 l19 (.atom _ _ rfl) (.int _ _) (by omega) rfl, hold_bool (.int _ _) (.atom _ _ rfl) (op_lss_t (by first | omega | assumption)), hold_idx v20 l20 (.atom _ _ rfl) (.int _ _) (by omega) rfl, hold_bool (.int _ _) (.atom _ _ rfl) (op_lss_f (by first | omega | assumption)), hold_bool (.int _ _) (.atom _ _ rfl) (op_lss_t (by first | omega | assumption)), hold_idx v21 l21 (.atom _ _ rfl) (.int _ _) (by omega) rfl, hold_bool (.int _ _) (.atom _ _ rfl) (op_lss_t (by first | omega | assumption)), hold_idx v22 l22 (.atom _ _ rfl) (.int _ _) (by omega) rfl, hold_bool (.atom _ _ rfl) (.atom _ _ rfl) (op_neq_f rfl), hold_bool (.atom _ _ rfl) (.atom _ _ rfl) (op_neq_f rfl), hold_bool (.atom _ _ rfl) (.atom _ _ rfl) (op_neq_f rfl), hold_bool (.atom _ _ rfl) (.atom _ _ rfl) (op_neq_f rfl), hold_bool (.atom _ _ rfl) (.atom _ _ rfl) (op_neq_f rfl), hold_op (.atom _ _ rfl) (.int _ _) o23 (.atom _ _ rfl), hold_mx_r (.int _ _) (.atom _ _ rfl) (by omega), hold_mn_l (.int _ _) (.atom _ _ rfl) (by omega), trivial⟩ Zw.i39 rfl rfl (rowsHold_cons (Elem.row v18 (VL.cons (.atom _ _ rfl) VL.nil)) (rowsHold_cons (Elem.row v19 (VL.cons (.atom _ _ rfl) VL.nil)) (rowsHold_cons (Elem.row v20 (VL.cons (.atom _ _ rfl) VL.nil)) (rowsHold_cons (Elem.row v21 (VL.cons (.atom _ _ rfl) VL.nil)) (rowsHold_cons (Elem.row v22 (VL.cons (.atom _ _ rfl) VL.nil)) rowsHold_nil))))) Zw.r39
    ·
      have l24 : 0 < m0 := by omega
      obtain ⟨p24, v24⟩ := h0.elem l24
      have w24q0 := r0q0 0
      have l25 : 3 < m0 := by omega
      obtain ⟨p25, v25⟩ := h0.elem l25
      have w25q0 := r0q0 3
      have l26 : 6 < m0 := by omega
      obtain ⟨p26, v26⟩ := h0.elem l26
      have w26q0 := r0q0 6
      have l27 : 1 < m0 := by omega
      obtain ⟨p27, v27⟩ := h0.elem l27
      have w27q0 := r0q0 1
      have l28 : 4 < m0 := by omega
      obtain ⟨p28, v28⟩ := h0.elem l28
      have w28q0 := r0q0 4
      obtain ⟨d29, e29, g29, o29⟩ := ex_sub (m0 : Int) (2 : Int)
      exact Zw.fx Zw.t40 [(.int .i64 (m0 : Int)), (.int .i64 d3), (.int .i64 d4), (.int .i64 d29)] [p24, p25, p26, p27, p28] (Zw.k0 _) ⟨hold_len (.atom _ _ rfl) (.atom _ _ rfl), hold_bool (.int _ _) (.atom _ _ rfl) (op_lss_f (Int.not_lt.1 q1)), hold_op (.atom _ _ rfl) (.int _ _) (o3 .i64) (.atom _ _ rfl), hold_op (.atom _ _ rfl) (.int _ _) o4 (.atom _ _ rfl), hold_op (.atom _ _ rfl) (.int _ _) (by have := (o5 .i64); rw [k5] at this; exact this) (.int _ _), hold_bool (.int _ _) (.atom _ _ rfl) (op_lss_t (by first | omega | assumption)), hold_idx v24 l24 (.atom _ _ rfl) (.int _ _) (by omega) rfl, hold_bool (.int _ _) (.atom _ _ rfl) (op_lss_t (by first | omega | assumption)), hold_idx v25 l25 (.atom _ _ rfl) (.int _ _) (by omega) rfl, hold_bool (.int _ _) (.atom _ _ rfl) (op_lss_t (by first | omega | assumption)), hold_idx v26 l26 (.atom _ _ rfl) (.int _ _) (by omega) rfl, hold_bool (.int _ _) (.atom _ _ rfl) (op_lss_f (by first | omega | assumption)), hold_bool (.int _ _) (.atom _ _ rfl) (op_lss_t (by first | omega | assumption)), hold_idx v27 l27 (.atom _ _ rfl) (.int _ _) (by omega) rfl, hold_bool (.int _ _) (.atom _ _ rfl) (op_lss_t (by first | omega | assumption)), hold_idx v28 l28 (.atom _ _ rfl) (.int _ _) (by omega) rfl, hold_bool (.atom _ _ rfl) (.atom _ _ rfl) (op_neq_f rfl), hold_bool (.atom _ _ rfl) (.atom _ _ rfl) (op_neq_f rfl), hold_bool (.atom _ _ rfl) (.atom _ _ rfl) (op_neq_f rfl), hold_bool (.atom _ _ rfl) (.atom _ _ rfl) (op_neq_f rfl), hold_bool (.atom _ _ rfl) (.atom _ _ rfl) (op_neq_f rfl), hold_op (.atom _ _ rfl) (.int _ _) o29 (.atom _ _ rfl), hold_mx_r (.int _ _) (.atom _ _ rfl) (by omega), hold_mn_l (.int _ _) (.atom _ _ rfl) (by omega), trivial⟩ Zw.i40 rfl rfl (rowsHold_cons (Elem.row v24 (VL.cons (.atom _ _ rfl) VL.nil)) (rowsHold_cons (Elem.row v25 (VL.cons (.atom _ _ rfl) VL.nil)) (rowsHold_cons (Elem.row v26 (VL.cons (.atom _ _ rfl) VL.nil)) (rowsHold_cons (Elem.row v27 (VL.cons (.atom _ _ rfl) VL.nil)) (rowsHold_cons (Elem.row v28 (VL.cons (.atom _ _ rfl) VL.nil)) rowsHold_nil))))) Zw.r40
theorem Zw.n7 {W : World} {a0 : Option Addr} {m0 c0 : Nat} {f0q0 : Nat → Int} {n1 : Int} (h0 : SlcOk W a0 m0 c0 1 (fun i => [.int .i64 (f0q0 i)])) (b0 : (m0 : Int) < 9223372036854775808) (r0q0 : ∀ i, R64 (f0q0 i)) (r1 : R64 n1) (j0 : ((6 : Int) ≤ (m0 : Int))) : NdGood Tryz.prog Tryz.f7 8 (firstHeap 8 Tryz.gsL) W Zw.p0 Zw.d7 [(.slice a0 m0 c0), (.int .i64 n1), (.int .i64 (f0q0 0)), (.int .i64 (f0q0 3)), (.int .i64 (f0q0 1)), (.int .i64 (f0q0 4)), (.int .i64 (f0q0 2)), (.int .i64 (f0q0 5))] := by
  have ⟨rl1, rh1⟩ := r1
  by_cases q1 : (6 : Int) < (m0 : Int)
  ·
    have l2 : 6 < m0 := by omega
    obtain ⟨p2, v2⟩ := h0.elem l2
    have w2q0 := r0q0 6
    exact Zw.nx Zw.t31 [(.int .i64 (f0q0 6)), (.int .i64 (m0 : Int))] [p2] [(.slice a0 m0 c0), (.int .i64 n1), (.int .i64 (f0q0 0)), (.int .i64 (f0q0 3)), (.int .i64 (f0q0 6)), (.int .i64 (f0q0 1)), (.int .i64 (f0q0 4)), (.int .i64 (f0q0 2)), (.int .i64 (f0q0 5))] (Zw.k0 _) ⟨hold_len (.atom _ _ rfl) (.atom _ _ rfl), hold_bool (.int _ _) (.atom _ _ rfl) (op_lss_t q1), hold_idx v2 l2 (.atom _ _ rfl) (.int _ _) (by omega) rfl, trivial⟩ Zw.i31 rfl rfl (rowsHold_cons (Elem.row v2 (VL.cons (.atom _ _ rfl) VL.nil)) rowsHold_nil) Zw.r31 rfl rfl (Zw.n8 h0 b0 r0q0 r1 (by first | omega | assumption))
  ·
    obtain ⟨d3, ⟨y3, e3, z3, u3, w3⟩, g3, o3⟩ := ex_rem n1 (4 : Int) (by omega) (by omega)
    obtain ⟨d4, e4, g4, o4⟩ := ex_add d3 (4 : Int)
    obtain ⟨d5, ⟨y5, e5, z5, u5, w5⟩, g5, o5⟩ := ex_rem d4 (4 : Int) (by omega) (by omega)
    rcases (show d5 = 0 ∨ d5 = 1 ∨ d5 = 2 ∨ d5 = 3 by omega) with k5 | k5 | k5 | k5
    ·
      have l6 : 0 < m0 := by omega
      obtain ⟨p6, v6⟩ := h0.elem l6
      have w6q0 := r0q0 0
      have l7 : 3 < m0 := by omega
      obtain ⟨p7, v7⟩ := h0.elem l7
      have w7q0 := r0q0 3
      have l8 : 1 < m0 := by omega
      obtain ⟨p8, v8⟩ := h0.elem l8
      have w8q0 := r0q0 1
      have l9 : 4 < m0 := by omega
      obtain ⟨p9, v9⟩ := h0.elem l9
      have w9q0 := r0q0 4
      obtain ⟨d10, e10, g10, o10⟩ := ex_sub (m0 : Int) (2 : Int)
      exact Zw.fx Zw.t32 [(.int .i64 (m0 : Int)), (.int .i64 d3), (.int .i64 d4), (.int .i64 d10)] [p6, p7, p8, p9] (Zw.k0 _) ⟨hold_len (.atom _ _ rfl) (.atom _ _ rfl), hold_bool (.int _ _) (.atom _ _ rfl) (op_lss_f (Int.not_lt.1 q1)), hold_op (.atom _ _ rfl) (.int _ _) (o3 .i64) (.atom _ _ rfl), hold_op (.atom _ _ rfl) (.int _ _) o4 (.atom _ _ rfl), hold_op (.atom _ _ rfl) (.int _ _) (by have := (o5 .i64); rw [k5] at this; exact this) (.int _ _), hold_bool (.int _ _) (.atom _ _ rfl) (op_lss_t (by first | omega | assumption)), hold_idx v6 l6 (.atom _ _ rfl) (.int _ _) (by omega) rfl, hold_bool (.int _ _) (.atom _ _ rfl) (op_lss_t (by first | omega | assumption)), hold_idx v7 l7 (.atom _ _ rfl) (.int _ _) (by omega) rfl, hold_bool (.int _ _) (.atom _ _ rfl) (op_lss_t (by first | omega | assumption)), hold_idx v8 l8 (.atom _ _ rfl) (.int _ _) (by omega) rfl, hold_bool (.int _ _) (.atom _ _ rfl) (op_lss_t (by first | omega | assumption)), hold_idx v9 l9 (.atom _ _ rfl) (.int _ _) (by omega) rfl, hold_bool (.int _ _) (.atom _ _ rfl) (op_lss_f (by first | omega | assumption)), hold_bool (.atom _ _ rfl) (.atom _ _ rfl) (op_neq_f rfl), hold_bool (.atom _ _ rfl) (.atom _ _ rfl) (op_neq_f rfl), hold_bool (.atom _ _ rfl) (.atom _ _ rfl) (op_neq_f rfl), hold_bool (.atom _ _ rfl) (.atom _ _ rfl) (op_neq_f rfl), hold_op (.atom _ _ rfl) (.int _ _) o10 (.atom _ _ rfl), hold_mx_r (.int _ _) (.atom _ _ rfl) (by omega), hold_mn_l (.int _ _) (.atom _ _ rfl) (by omega), trivial⟩ Zw.i32 rfl rfl (rowsHold_cons (Elem.row v6 (VL.cons (.atom _ _ rfl) VL.nil)) (rowsHold_cons (Elem.row v7 (VL.cons (.atom _ _ rfl) VL.nil)) (rowsHold_cons (Elem.row v8 (VL.cons (.atom _ _ rfl) VL.nil)) (rowsHold_cons (Elem.row v9 (VL.cons (.atom _ _ rfl) VL.nil)) rowsHold_nil)))) Zw.r32
    ·
      have l11 : 0 < m0 := by omega
      obtain ⟨p11, v11⟩ := h0.elem l11
      have w11q0 := r0q0 0
      have l12 : 3 < m0 := by omega
      obtain ⟨p12, v12⟩ := h0.elem l12
      have w12q0 := r0q0 3
      have l13 : 1 < m0 := by omega
      obtain ⟨p13, v13⟩ := h0.elem l13
      have w13q0 := r0q0 1
      have l14 : 4 < m0 := by omega
      obtain ⟨p14, v14⟩ := h0.elem l14
      have w14q0 := r0q0 4
      obtain ⟨d15, e15, g15, o15⟩ := ex_sub (m0 : Int) (2 : Int)
      exact Zw.fx Zw.t33 [(.int .i64 (m0 : Int)), (.int .i64 d3), (.int .i64 d4), (.int .i64 d15)] [p11, p12, p13, p14] (Zw.k0 _) ⟨hold_len (.atom _ _ rfl) (.atom _ _ rfl), hold_bool (.int _ _) (.atom _ _ rfl) (op_lss_f (Int.not_lt.1 q1)), hold_op (.atom _ _ rfl) (.int _ _) (o3 .i64) (.atom _ _ rfl), hold_op (.atom _ _ rfl) (.int _ _) o4 (.atom _ _ rfl), hold_op (.atom _ _ rfl) (.int _ _) (by have := (o5 .i64); rw [k5] at this; exact this) (.int _ _), hold_bool (.int _ _) (.atom _ _ rfl) (op_lss_t (by first | omega | assumption)), hold_idx v11 l11 (.atom _ _ rfl) (.int _ _) (by omega) rfl, hold_bool (.int _ _) (.atom _ _ rfl) (op_lss_t (by first | omega | assumption)), hold_idx v12 l12 (.atom _ _ rfl) (.int _ _) (by omega) rfl, hold_bool (.int _ _) (.atom _ _ rfl) (op_lss_t (by first | omega | assumption)), hold_idx v13 l13 (.atom _ _ rfl) (.int _ _) (by omega) rfl, hold_bool (.int _ _) (.atom _ _ rfl) (op_lss_t (by first | omega | assumption)), hold_idx v14 l14 (.atom _ _ rfl) (.int _ _) (by omega) rfl, hold_bool (.int _ _) (.atom _ _ rfl) (op_lss_f (by first | omega | assumption)), hold_bool (.atom _ _ rfl) (.atom _ _ rfl) (op_neq_f rfl), hold_bool (.atom _ _ rfl) (.atom _ _ rfl) (op_neq_f rfl), hold_bool (.atom _ _ rfl) (.atom _ _ rfl) (op_neq_f rfl), hold_bool (.atom _ _ rfl) (.atom _ _ rfl) (op_neq_f rfl), hold_op (.atom _ _ rfl) (.int _ _) o15 (.atom _ _ rfl), hold_mx_r (.int _ _) (.atom _ _ rfl) (by omega), hold_mn_l (.int _ _) (.atom _ _ rfl) (by omega), trivial⟩ Zw.i33 rfl rfl (rowsHold_cons (Elem.row v11 (VL.cons (.atom _ _ rfl) VL.nil)) (rowsHold_cons (Elem.row v12 (VL.cons (.atom _ _ rfl) VL.nil)) (rowsHold_cons (Elem.row v13 (VL.cons (.atom _ _ rfl) VL.nil)) (rowsHold_cons (Elem.row v14 (VL.cons (.atom _ _ rfl) VL.nil)) rowsHold_nil)))) Zw.r33
    ·
      have l16 : 0 < m0 := by omega
      obtain ⟨p16, v16⟩ := h0.elem l16
      have w16q0 := r0q0 0
      have l17 : 3 < m0 := by omega
      obtain ⟨p17, v17⟩ := h0.elem l17
      have w17q0 := r0q0 3
      have l18 : 1 < m0 := by omega
      obtain ⟨p18, v18⟩ := h0.elem l18
      have w18q0 := r0q0 1
      have l19 : 4 < m0 := by omega
      obtain ⟨p19, v19⟩ := h0.elem l19
      have w19q0 := r0q0 4
      obtain ⟨d20, e20, g20, o20⟩ := ex_sub (m0 : Int) (2 : Int)
      exact Zw.fx Zw.t34 [(.int .i64 (m0 : Int)), (.int .i64 d3), (.int .i64 d4), (.int .i64 d20)] [p16, p17, p18, p19] (Zw.k0 _) ⟨hold_len (.atom _ _ rfl) (.atom _ _ rfl), hold_bool (.int _ _) (.atom _ _ rfl) (op_lss_f (Int.not_lt.1 q1)), hold_op (.atom _ _ rfl) (.int _ _) (o3 .i64) (.atom _ _ rfl), hold_op (.atom _ _ rfl) (.int _ _) o4 (.atom _ _ rfl), hold_op (.atom _ _ rfl) (.int _ _) (by have := (o5 .i64); rw [k5] at this; exact this) (.int _ _), hold_bool (.int _ _) (.atom _ _ rfl) (op_lss_t (by first | omega | assumption)), hold_idx v16 l16 (.atom _ _ rfl) (.int _ _) (by omega) rfl, hold_bool (.int _ _) (.atom _ _ rfl) (op_lss_t (by first | omega | assumption)), hold_idx v17 l17 (.atom _ _ rfl) (.int _ _) (by omega) rfl, hold_bool (.int _ _) (.atom _ _ rfl) (op_lss_t (by first | omega | assumption)), hold_idx v18 l18 (.atom _ _ rfl) (.int _ _) (by omega) rfl, hold_bool (.int _ _) (.atom _ _ rfl) (op_lss_t (by first | omega | assumption)), hold_idx v19 l19 (.atom _ _ rfl) (.int _ _) (by omega) rfl, hold_bool (.int _ _) (.atom _ _ rfl) (op_lss_f (by first | omega | assumption)), hold_bool (.atom _ _ rfl) (.atom _ _ rfl) (op_neq_f rfl), hold_bool (.atom _ _ rfl) (.atom _ _ rfl) (op_neq_f rfl), hold_bool (.atom _ _ rfl) (.atom _ _ rfl) (op_neq_f rfl), hold_bool (.atom _ _ rfl) (.atom _ _ rfl) (op_neq_f rfl), hold_op (.atom _ _ rfl) (.int _ _) o20 (.atom _ _ rfl), hold_mx_r (.int _ _) (.atom _ _ rfl) (by omega), hold_mn_l (.int _ _) (.atom _ _ rfl) (by omega), trivial⟩ Zw.i34 rfl rfl (rowsHold_cons (Elem.row v16 (VL.cons (.atom _ _ rfl) VL.nil)) (rowsHold_cons (Elem.row v17 (VL.cons (.atom _ _ rfl) VL.nil)) (rowsHold_cons (Elem.row v18 (VL.cons (.atom _ _ rfl) VL.nil)) (rowsHold_cons (Elem.row v19 (VL.cons (.atom _ _ rfl) VL.nil)) rowsHold_nil)))) Zw.r34
    ·
      have l21 : 0 < m0 := by omega
      obtain ⟨p21, v21⟩ := h0.elem l21
      have w21q0 := r0q0 0
      have l22 : 3 < m0 := by omega
      obtain ⟨p22, v22⟩ := h0.elem l22
      have w22q0 := r0q0 3
      have l23 : 1 < m0 := by omega
      obtain ⟨p23, v23⟩ := h0.elem l23
      have w23q0 := r0q0 1
      have l24 : 4 < m0 := by omega
      obtain ⟨p24, v24⟩ := h0.elem l24
      have w24q0 := r0q0 4
      obtain ⟨d25, e25, g25, o25⟩ := ex_sub (m0 : Int) (2 : Int)
      exact Zw.fx Zw.t35 [(.int .i64 (m0 : Int)), (.int .i64 d3), (.int .i64 d4), (.int .i64 d25)] [p21, p22, p23, p24] (Zw.k0 _) ⟨hold_len (.atom _ _ rfl) (.atom _ _ rfl), hold_bool (.int _ _) (.atom _ _ rfl) (op_lss_f (Int.not_lt.1 q1)), hold_op (.atom _ _ rfl) (.int _ _) (o3 .i64) (.atom _ _ rfl), hold_op (.atom _ _ rfl) (.int _ _) o4 (.atom _ _ rfl), hold_op (.atom _ _ rfl) (.int _ _) (by have := (o5 .i64); rw [k5] at this; exact this) (.int _ _), hold_bool (.int _ _) (.atom _ _ rfl) (op_lss_t (by first | omega | assumption)), hold_idx v21 l21 (.atom _ _ rfl) (.int _ _) (by omega) rfl, hold_bool (.int _ _) (.atom _ _ rfl) (op_lss_t (by first | omega | assumption)), hold_idx v22 l22 (.atom _ _ rfl) (.int _ _) (by omega) rfl, hold_bool (.int _ _) (.atom _ _ rfl) (op_lss_t (by first | omega | assumption)), hold_idx v23 l23 (.atom _ _ rfl) (.int _ _) (by omega) rfl, hold_bool (.int _ _) (.atom _ _ rfl) (op_lss_t (by first | omega | assumption)), hold_idx v24 l24 (.atom _ _ rfl) (.int _ _) (by omega) rfl, hold_bool (.int _ _) (.atom _ _ rfl) (op_lss_f (by first | omega | assumption)), hold_bool (.atom _ _ rfl) (.atom _ _ rfl) (op_neq_f rfl), hold_bool (.atom _ _ rfl) (.atom _ _ rfl) (op_neq_f rfl), hold_bool (.atom _ _ rfl) (.atom _ _ rfl) (op_neq_f rfl), hold_bool (.atom _ _ rfl) (.atom _ _ rfl) (op_neq_f rfl), hold_op (.atom _ _ rfl) (.int _ _) o25 (.atom _ _ rfl), hold_mx_r (.int _ _) (.atom _ _ rfl) (by omega), hold_mn_l (.int _ _) (.atom _ _ rfl) (by omega), trivial⟩ Zw.i35 rfl rfl (rowsHold_cons (Elem.row v21 (VL.cons (.atom _ _ rfl) VL.nil)) (rowsHold_cons (Elem.row v22 (VL.cons (.atom _ _ rfl) VL.nil)) (rowsHold_cons (Elem.row v23 (VL.cons (.atom _ _ rfl) VL.nil)) (rowsHold_cons (Elem.row v24 (VL.cons (.atom _ _ rfl) VL.nil)) rowsHold_nil)))) Zw.r35
theorem Zw.n6 {W : World} {a0 : Option Addr} {m0 c0 : Nat} {f0q0 : Nat → Int} {n1 : Int} (h0 : SlcOk W a0 m0 c0 1 (fun i => [.int .i64 (f0q0 i)])) (b0 : (m0 : Int) < 9223372036854775808) (r0q0 : ∀ i, R64 (f0q0 i)) (r1 : R64 n1) (j0 : ((5 : Int) ≤ (m0 : Int))) : NdGood Tryz.prog Tryz.f7 8 (firstHeap 8 Tryz.gsL) W Zw.p0 Zw.d6 [(.slice a0 m0 c0), (.int .i64 n1), (.int .i64 (f0q0 0)), (.int .i64 (f0q0 3)), (.int .i64 (f0q0 1)), (.int .i64 (f0q0 4)), (.int .i64 (f0q0 2))] := by
  have ⟨rl1, rh1⟩ := r1
  by_cases q1 : (5 : Int) < (m0 : Int)
  ·
    have l2 : 5 < m0 := by omega
    obtain ⟨p2, v2⟩ := h0.elem l2
    have w2q0 := r0q0 5
    exact Zw.nx Zw.t26 [(.int .i64 (f0q0 5)), (.int .i64 (m0 : Int))] [p2] [(.slice a0 m0 c0), (.int .i64 n1), (.int .i64 (f0q0 0)), (.int .i64 (f0q0 3)), (.int .i64 (f0q0 1)), (.int .i64 (f0q0 4)), (.int .i64 (f0q0 2)), (.int .i64 (f0q0 5))] (Zw.k0 _) ⟨hold_len (.atom _ _ rfl) (.atom _ _ rfl), hold_bool (.int _ _) (.atom _ _ rfl) (op_lss_t q1), hold_idx v2 l2 (.atom _ _ rfl) (.int _ _) (by omega) rfl, trivial⟩ Zw.i26 rfl rfl (rowsHold_cons (Elem.row v2 (VL.cons (.atom _ _ rfl) VL.nil)) rowsHold_nil) Zw.r26 rfl rfl (Zw.n7 h0 b0 r0q0 r1 (by first | omega | assumption))
  ·
    obtain ⟨d3, ⟨y3, e3, z3, u3, w3⟩, g3, o3⟩ := ex_rem n1 (4 : Int) (by omega) (by omega)
    obtain ⟨d4, e4, g4, o4⟩ := ex_add d3 (4 : Int)
    obtain ⟨d5, ⟨y5, e5, z5, u5, w5⟩, g5, o5⟩ := ex_rem d4 (4 : Int) (by omega) (by omega)
    rcases (show d5 = 0 ∨ d5 = 1 ∨ d5 = 2 ∨ d5 = 3 by omega) with k5 | k5 | k5 | k5
    ·
      have l6 : 0 < m0 := by omega
      obtain ⟨p6, v6⟩ := h0.elem l6
      have w6q0 := r0q0 0
      have l7 : 3 < m0 := by omega
      obtain ⟨p7, v7⟩ := h0.elem l7
      have w7q0 := r0q0 3
      have l8 : 1 < m0 := by omega
      obtain ⟨p8, v8⟩ := h0.elem l8
      have w8q0 := r0q0 1
      have l9 : 4 < m0 := by omega
      obtain ⟨p9, v9⟩ := h0.elem l9
      have w9q0 := r0q0 4
      obtain ⟨d10, e10, g10, o10⟩ := ex_sub (m0 : Int) (2 : Int)
      exact Zw.fx Zw.t27 [(.int .i64 (m0 : Int)), (.int .i64 d3), (.int .i64 d4), (.int .i64 d10)] [p6, p7, p8, p9] (Zw.k0 _) ⟨hold_len (.atom _ _ rfl) (.atom _ _ rfl), hold_bool (.int _ _) (.atom _ _ rfl) (op_lss_f (Int.not_lt.1 q1)), hold_op (.atom _ _ rfl) (.int _ _) (o3 .i64) (.atom _ _ rfl), hold_op (.atom _ _ rfl) (.int _ _) o4 (.atom _ _ rfl), hold_op (.atom _ _ rfl) (.int _ _) (by have := (o5 .i64); rw [k5] at this; exact this) (.int _ _), hold_bool (.int _ _) (.atom _ _ rfl) (op_lss_t (by first | omega | assumption)), hold_idx v6 l6 (.atom _ _ rfl) (.int _ _) (by omega) rfl, hold_bool (.int _ _) (.atom _ _ rfl) (op_lss_t (by first | omega | assumption)), hold_idx v7 l7 (.atom _ _ rfl) (.int _ _) (by omega) rfl, hold_bool (.int _ _) (.atom _ _ rfl) (op_lss_f (by first | omega | assumption)), hold_bool (.int _ _) (.atom _ _ rfl) (op_lss_t (by first | omega | assumption)), hold_idx v8 l8 (.atom _ _ rfl) (.int _ _) (by omega) rfl, hold_bool (.int _ _) (.atom _ _ rfl) (op_lss_t (by first | omega | assumption)), hold_idx v9 l9 (.atom _ _ rfl) (.int _ _) (by omega) rfl, hold_bool (.int _ _) (.atom _ _ rfl) (op_lss_f (by first | omega | assumption)), hold_bool (.atom _ _ rfl) (.atom _ _ rfl) (op_neq_f rfl), hold_bool (.atom _ _ rfl) (.atom _ _ rfl) (op_neq_f rfl), hold_bool (.atom _ _ rfl) (.atom _ _ rfl) (op_neq_f rfl), hold_bool (.atom _ _ rfl) (.atom _ _ rfl) (op_neq_f rfl), hold_op (.atom _ _ rfl) (.int _ _) o10 (.atom _ _ rfl), hold_mx_r (.int _ _) (.atom _ _ rfl) (by omega), hold_mn_l (.int _ _) (.atom _ _ rfl) (by omega), trivial⟩ Zw.i27 rfl rfl (rowsHold_cons (Elem.row v6 (VL.cons (.atom _ _ rfl) VL.nil)) (rowsHold_cons (Elem.row v7 (VL.cons (.atom _ _ rfl) VL.nil)) (rowsHold_cons (Elem.row v8 (VL.cons (.atom _ _ rfl) VL.nil)) (rowsHold_cons (Elem.row v9 (VL.cons (.atom _ _ rfl) VL.nil)) rowsHold_nil)))) Zw.r27
    ·
      have l11 : 0 < m0 := by omega
      obtain ⟨p11, v11⟩ := h0.elem l11
      have w11q0 := r0q0 0
      have l12 : 3 < m0 := by omega
      obtain ⟨p12, v12⟩ := h0.elem l12
      have w12q0 := r0q0 3
      have l13 : 1 < m0 := by omega
      obtain ⟨p13, v13⟩ := h0.elem l13
      have w13q0 := r0q0 1
      have l14 : 4 < m0 := by omega
      obtain ⟨p14, v14⟩ := h0.elem l14
      have w14q0 := r0q0 4
      obtain ⟨d15, e15, g15, o15⟩ := ex_sub (m0 : Int) (2 : Int)
      exact Zw.fx Zw.t28 [(.int .i64 (m0 : Int)), (.int .i64 d3), (.int .i64 d4), (.int .i64 d15)] [p11, p12, p13, p14] (Zw.k0 _) ⟨hold_len (.atom _ _ rfl) (.atom _ _ rfl), hold_bool (.int _ _) (.atom _ _ rfl) (op_lss_f (Int.not_lt.1 q1)), hold_op (.atom _ _ rfl) (.int _ _) (o3 .i64) (.atom _ _ rfl), hold_op (.atom _ _ rfl) (.int _ _) o4 (.atom _ _ rfl), hold_op (.atom _ _ rfl) (.int _ _) (by have := (o5 .i64); rw [k5] at this; exact this) (.int _ _), hold_bool (.int _ _) (.atom _ _ rfl) (op_lss_t (by first | omega | assumption)), hold_idx v11 l11 (.atom _ _ rfl) (.int _ _) (by omega) rfl, hold_bool (.int _ _) (.atom _ _ rfl) (op_lss_t (by first | omega | assumption)), hold_idx v12 l12 (.atom _ _ rfl) (.int _ _) (by omega) rfl, hold_bool (.int _ _) (.atom _ _ rfl) (op_lss_f (by first | omega | assumption)), hold_bool (.int _ _) (.atom _ _ rfl) (op_lss_t (by first | omega | assumption)), hold_idx v13 l13 (.atom _ _ rfl) (.int _ _) (by omega) rfl, hold_bool (.int _ _) (.atom _ _ rfl) (op_lss_t (by first | omega | assumption)), hold_idx v14 l14 (.atom _ _ rfl) (.int _ _) (by omega) rfl, hold_bool (.int _ _) (.atom _ _ rfl) (op_lss_f (by first | omega | assumption)), hold_bool (.atom _ _ rfl) (.atom _ _ rfl) (op_neq_f rfl), hold_bool (.atom _ _ rfl) (.atom _ _ rfl) (op_neq_f rfl), hold_bool (.atom _ _ rfl) (.atom _ _ rfl) (op_neq_f rfl), hold_bool (.atom _ _ rfl) (.atom _ _ rfl) (op_neq_f rfl), hold_op (.atom _ _ rfl) (.int _ _) o15 (.atom _ _ rfl), hold_mx_r (.int _ _) (.atom _ _ rfl) (by omega), hold_mn_l (.int _ _) (.atom _ _ rfl) (by omega), trivial⟩ Zw.i28 rfl rfl (rowsHold_cons (Elem.row v11 (VL.cons (.atom _ _ rfl) VL.nil)) (rowsHold_cons (Elem.row v12 (VL.cons (.atom _ _ rfl) VL.nil)) (rowsHold_cons (Elem.row v13 (VL.cons (.atom _ _ rfl) VL.nil)) (rowsHold_cons (Elem.row v14 (VL.cons (.atom _ _ rfl) VL.nil)) rowsHold_nil)))) Zw.r28
    ·
      have l16 : 0 < m0 := by omega
      obtain ⟨p16, v16⟩ := h0.elem l16
      have w16q0 := r0q0 0
      have l17 : 3 < m0 := by omega
      obtain ⟨p17, v17⟩ := h0.elem l17
      have w17q0 := r0q0 3
      have l18 : 1 < m0 := by omega
      obtain ⟨p18, v18⟩ := h0.elem l18
      have w18q0 := r0q0 1
      have l19 : 4 < m0 := by omega
      obtain ⟨p19, v19⟩ := h0.elem l19
      have w19q0 := r0q0 4
      obtain ⟨d20, e20, g20, o20⟩ := ex_sub (m0 : Int) (2 : Int)
      exact Zw.fx Zw.t29 [(.int .i64 (m0 : Int)), (.int .i64 d3), (.int .i64 d4), (.int .i64 d20)] [p16, p17, p18, p19] (Zw.k0 _) ⟨hold_len (.atom _ _ rfl) (.atom _ _ rfl), hold_bool (.int _ _) (.atom _ _ rfl) (op_lss_f (Int.not_lt.1 q1)), hold_op (.atom _ _ rfl) (.int _ _) (o3 .i64) (.atom _ _ rfl), hold_op (.atom _ _ rfl) (.int _ _) o4 (.atom _ _ rfl), hold_op (.atom _ _ rfl) (.int _ _) (by have := (o5 .i64); rw [k5] at this; exact this) (.int _ _), hold_bool (.int _ _) (.atom _ _ rfl) (op_lss_t (by first | omega | assumption)), hold_idx v16 l16 (.atom _ _ rfl) (.int _ _) (by omega) rfl, hold_bool (.int _ _) (.atom _ _ rfl) (op_lss_t (by first | omega | assumption)), hold_idx v17 l17 (.atom _ _ rfl) (.int _ _) (by omega) rfl, hold_bool (.int _ _) (.atom _ _ rfl) (op_lss_f (by first | omega | assumption)), hold_bool (.int _ _) (.atom _ _ rfl) (op_lss_t (by first | omega | assumption)), hold_idx v18 l18 (.atom _ _ rfl) (.int _ _) (by omega) rfl, hold_bool (.int _ _) (.atom _ _ rfl) (op_lss_t (by first | omega | assumption)), hold_idx v19 l19 (.atom _ _ rfl) (.int _ _) (by omega) rfl, hold_bool (.int _ _) (.atom _ _ rfl) (op_lss_f (by first | omega | assumption)), hold_bool (.atom _ _ rfl) (.atom _ _ rfl) (op_neq_f rfl), hold_bool (.atom _ _ rfl) (.atom _ _ rfl) (op_neq_f rfl), hold_bool (.atom _ _ rfl) (.atom _ _ rfl) (op_neq_f rfl), hold_bool (.atom _ _ rfl) (.atom _ _ rfl) (op_neq_f rfl), hold_op (.atom _ _ rfl) (.int _ _) o20 (.atom _ _ rfl), hold_mx_r (.int _ _) (.atom _ _ rfl) (by omega), hold_mn_l (.int _ _) (.atom _ _ rfl) (by omega), trivial⟩ Zw.i29 rfl rfl (rowsHold_cons (Elem.row v16 (VL.cons (.atom _ _ rfl) VL.nil)) (rowsHold_cons (Elem.row v17 (VL.cons (.atom _ _ rfl) VL.nil)) (rowsHold_cons (Elem.row v18 (VL.cons (.atom _ _ rfl) VL.nil)) (rowsHold_cons (Elem.row v19 (VL.cons (.atom _ _ rfl) VL.nil)) rowsHold_nil)))) Zw.r29
    ·
      have l21 : 0 < m0 := by omega
      obtain ⟨p21, v21⟩ := h0.elem l21
      have w21q0 := r0q0 0
      have l22 : 3 < m0 := by omega
      obtain ⟨p22, v22⟩ := h0.elem l22
      have w22q0 := r0q0 3
      have l23 : 1 < m0 := by omega
      obtain ⟨p23, v23⟩ := h0.elem l23
      have w23q0 := r0q0 1
      have l24 : 4 < m0 := by omega
      obtain ⟨p24, v24⟩ := h0.elem l24
      have w24q0 := r0q0 4
      obtain ⟨d25, e25, g25, o25⟩ := ex_sub (m0 : Int) (2 : Int)
      exact Zw.fx Zw.t30 [(.int .i64 (m0 : Int)), (.int .i64 d3), (.int .i64 d4), (.int .i64 d25)] [p21, p22, p23, p24] (Zw.k0 _) ⟨hold_len (.atom _ _ rfl) (.atom _ _ rfl), hold_bool (.int _ _) (.atom _ _ rfl) (op_lss_f (Int.not_lt.1 q1)), hold_op (.atom _ _ rfl) (.int _ _) (o3 .i64) (.atom _ _ rfl), hold_op (.atom _ _ rfl) (.int _ _) o4 (.atom _ _ rfl), hold_op (.atom _ _ rfl) (.int _ _) (by have := (o5 .i64); rw [k5] at this; exact this) (.int _ _), hold_bool (.int _ _) (.atom _ _ rfl) (op_lss_t (by first | omega | assumption)), hold_idx v21 l21 (.atom _ _ rfl) (.int _ _) (by omega) rfl, hold_bool (.int _ _) (.atom _ _ rfl) (op_lss_t (by first | omega | assumption)), hold_idx v22 l22 (.atom _ _ rfl) (.int _ _) (by omega) rfl, hold_bool (.int _ _) (.atom _ _ rfl) (op_lss_f (by first | omega | assumption)), hold_bool (.int _ _) (.atom _ _ rfl) (op_lss_t (by first | omega | assumption)), hold_idx v23 l23 (.atom _ _ rfl) (.int _ _) (by omega) rfl, hold_bool (.int _ _) (.atom _ _ rfl) (op_lss_t (by first | omega | assumption)), hold_idx v24 l24 (.atom _ _ rfl) (.int _ _) (by omega) rfl, hold_bool (.int _ _) (.atom _ _ rfl) (op_lss_f (by first | omega | assumption)), hold_bool (.atom _ _ rfl) (.atom _ _ rfl) (op_neq_f rfl), hold_bool (.atom _ _ rfl) (.atom _ _ rfl) (op_neq_f rfl), hold_bool (.atom _ _ rfl) (.atom _ _ rfl) (op_neq_f rfl), hold_bool (.atom _ _ rfl) (.atom _ _ rfl) (op_neq_f rfl), hold_op (.atom _ _ rfl) (.int _ _) o25 (.atom _ _ rfl), hold_mx_r (.int _ _) (.atom _ _ rfl) (by omega), hold_mn_l (.int _ _) (.atom _ _ rfl) (by omega), trivial⟩ Zw.i30 rfl rfl (rowsHold_cons (Elem.row v21 (VL.cons (.atom _ _ rfl) VL.nil)) (rowsHold_cons (Elem.row v22 (VL.cons (.atom _ _ rfl) VL.nil)) (rowsHold_cons (Elem.row v23 (VL.cons (.atom _ _ rfl) VL.nil)) (rowsHold_cons (Elem.row v24 (VL.cons (.atom _ _ rfl) VL.nil)) rowsHold_nil)))) Zw.r30
theorem Zw.n5 {W : World} {a0 : Option Addr} {m0 c0 : Nat} {f0q0 : Nat → Int} {n1 : Int} (h0 : SlcOk W a0 m0 c0 1 (fun i => [.int .i64 (f0q0 i)])) (b0 : (m0 : Int) < 9223372036854775808) (r0q0 : ∀ i, R64 (f0q0 i)) (r1 : R64 n1) (j0 : ((4 : Int) ≤ (m0 : Int))) : NdGood Tryz.prog Tryz.f7 8 (firstHeap 8 Tryz.gsL) W Zw.p0 Zw.d5 [(.slice a0 m0 c0), (.int .i64 n1), (.int .i64 (f0q0 0)), (.int .i64 (f0q0 3)), (.int .i64 (f0q0 1)), (.int .i64 (f0q0 2))] := by
  have ⟨rl1, rh1⟩ := r1
  by_cases q1 : (4 : Int) < (m0 : Int)
  ·
    have l2 : 4 < m0 := by omega
    obtain ⟨p2, v2⟩ := h0.elem l2
    have w2q0 := r0q0 4
    exact Zw.nx Zw.t21 [(.int .i64 (f0q0 4)), (.int .i64 (m0 : Int))] [p2] [(.slice a0 m0 c0), (.int .i64 n1), (.int .i64 (f0q0 0)), (.int .i64 (f0q0 3)), (.int .i64 (f0q0 1)), (.int .i64 (f0q0 4)), (.int .i64 (f0q0 2))] (Zw.k0 _) ⟨hold_len (.atom _ _ rfl) (.atom _ _ rfl), hold_bool (.int _ _) (.atom _ _ rfl) (op_lss_t q1), hold_idx v2 l2 (.atom _ _ rfl) (.int _ _) (by omega) rfl, trivial⟩ Zw.i21 rfl rfl (rowsHold_cons (Elem.row v2 (VL.cons (.atom _ _ rfl) VL.nil)) rowsHold_nil) Zw.r21 rfl rfl (Zw.n6 h0 b0 r0q0 r1 (by first | omega | assumption))
  ·
    obtain ⟨d3, ⟨y3, e3, z3, u3, w3⟩, g3, o3⟩ := ex_rem n1 (4 : Int) (by omega) (by omega)
    obtain ⟨d4, e4, g4, o4⟩ := ex_add d3 (4 : Int)
    obtain ⟨d5, ⟨y5, e5, z5, u5, w5⟩, g5, o5⟩ := ex_rem d4 (4 : Int) (by omega) (by omega)
    rcases (show d5 = 0 ∨ d5 = 1 ∨ d5 = 2 ∨ d5 = 3 by omega) with k5 | k5 | k5 | k5
    ·
      have l6 : 0 < m0 := by omega
      obtain ⟨p6, v6⟩ := h0.elem l6
      have w6q0 := r0q0 0
      have l7 : 3 < m0 := by omega
      obtain ⟨p7, v7⟩ := h0.elem l7
      have w7q0 := r0q0 3
      have l8 : 1 < m0 := by omega
      obtain ⟨p8, v8⟩ := h0.elem l8
      have w8q0 := r0q0 1
      obtain ⟨d9, e9, g9, o9⟩ := ex_sub (m0 : Int) (2 : Int)
      exact Zw.fx Zw.t22 [(.int .i64 (m0 : Int)), (.int .i64 d3), (.int .i64 d4), (.int .i64 d9)] [p6, p7, p8] (Zw.k0 _) ⟨hold_len (.atom _ _ rfl) (.atom _ _ rfl), hold_bool (.int _ _) (.atom _ _ rfl) (op_lss_f (Int.not_lt.1 q1)), hold_op (.atom _ _ rfl) (.int _ _) (o3 .i64) (.atom _ _ rfl), hold_op (.atom _ _ rfl) (.int _ _) o4 (.atom _ _ rfl), hold_op (.atom _ _ rfl) (.int _ _) (by have := (o5 .i64); rw [k5] at this; exact this) (.int _ _), hold_bool (.int _ _) (.atom _ _ rfl) (op_lss_t (by first | omega | assumption)), hold_idx v6 l6 (.atom _ _ rfl) (.int _ _) (by omega) rfl, hold_bool (.int _ _) (.atom _ _ rfl) (op_lss_t (by first | omega | assumption)), hold_idx v7 l7 (.atom _ _ rfl) (.int _ _) (by omega) rfl, hold_bool (.int _ _) (.atom _ _ rfl) (op_lss_f (by first | omega | assumption)), hold_bool (.int _ _) (.atom _ _ rfl) (op_lss_t (by first | omega | assumption)), hold_idx v8 l8 (.atom _ _ rfl) (.int _ _) (by omega) rfl, hold_bool (.atom _ _ rfl) (.atom _ _ rfl) (op_neq_f rfl), hold_bool (.atom _ _ rfl) (.atom _ _ rfl) (op_neq_f rfl), hold_bool (.atom _ _ rfl) (.atom _ _ rfl) (op_neq_f rfl), hold_op (.atom _ _ rfl) (.int _ _) o9 (.atom _ _ rfl), hold_mx_r (.int _ _) (.atom _ _ rfl) (by omega), hold_mn_l (.int _ _) (.atom _ _ rfl) (by omega), trivial⟩ Zw.i22 rfl rfl (rowsHold_cons (Elem.row v6 (VL.cons (.atom _ _ rfl) VL.nil)) (rowsHold_cons (Elem.row v7 (VL.cons (.atom _ _ rfl) VL.nil)) (rowsHold_cons (Elem.row v8 (VL.cons (.atom _ _ rfl) VL.nil)) rowsHold_nil))) Zw.r22
    ·
      have l10 : 0 < m0 := by omega
      obtain ⟨p10, v10⟩ := h0.elem l10
      have w10q0 := r0q0 0
      have l11 : 3 < m0 := by omega
      obtain ⟨p11, v11⟩ := h0.elem l11
      have w11q0 := r0q0 3
      have l12 : 1 < m0 := by omega
      obtain ⟨p12, v12⟩ := h0.elem l12
      have w12q0 := r0q0 1
      obtain ⟨d13, e13, g13, o13⟩ := ex_sub (m0 : Int) (2 : Int)
      exact Zw.fx Zw.t23 [(.int .i64 (m0 : Int)), (.int .i64 d3), (.int .i64 d4), (.int .i64 d13)] [p10, p11, p12] (Zw.k0 _) ⟨hold_len (.atom _ _ rfl) (.atom _ _ rfl), hold_bool (.int _ _) (.atom _ _ rfl) (op_lss_f (Int.not_lt.1 q1)), hold_op (.atom _ _ rfl) (.int _ _) (o3 .i64) (.atom _ _ rfl), hold_op (.atom _ _ rfl) (.int _ _) o4 (.atom _ _ rfl), hold_op (.atom _ _ rfl) (.int _ _) (by have := (o5 .i64); rw [k5] at this; exact this) (.int _ _), hold_bool (.int _ _) (.atom _ _ rfl) (op_lss_t (by first | omega | assumption)), hold_idx v10 l10 (.atom _ _ rfl) (.int _ _) (by omega) rfl, hold_bool (.int _ _) (.atom _ _ rfl) (op_lss_t (by first | omega | assumption)), hold_idx v11 l11 (.atom _ _ rfl) (.int _ _) (by omega) rfl, hold_bool (.int _ _) (.atom _ _ rfl) (op_lss_f (by first | omega | assumption)), hold_bool (.int _ _) (.atom _ _ rfl) (op_lss_t (by first | omega | assumption)), hold_idx v12 l12 (.atom _ _ rfl) (.int _ _) (by omega) rfl, hold_bool (.atom _ _ rfl) (.atom _ _ rfl) (op_neq_f rfl), hold_bool (.atom _ _ rfl) (.atom _ _ rfl) (op_neq_f rfl), hold_bool (.atom _ _ rfl) (.atom _ _ rfl) (op_neq_f rfl), hold_op (.atom _ _ rfl) (.int _ _) o13 (.atom _ _ rfl), hold_mx_r (.int _ _) (.atom _ _ rfl) (by omega), hold_mn_l (.int _ _) (.atom _ _ rfl) (by omega), trivial⟩ Zw.i23 rfl rfl (rowsHold_cons (Elem.row v10 (VL.cons (.atom _ _ rfl) VL.nil)) (rowsHold_cons (Elem.row v11 (VL.cons (.atom _ _ rfl) VL.nil)) (rowsHold_cons (Elem.row v12 (VL.cons (.atom _ _ rfl) VL.nil)) rowsHold_nil))) Zw.r23
    ·
      have l14 : 0 < m0 := by omega
      obtain ⟨p14, v14⟩ := h0.elem l14
      have w14q0 := r0q0 0
      have l15 : 3 < m0 := by omega
      obtain ⟨p15, v15⟩ := h0.elem l15
      have w15q0 := r0q0 3
      have l16 : 1 < m0 := by omega
      obtain ⟨p16, v16⟩ := h0.elem l16
      have w16q0 := r0q0 1
      obtain ⟨d17, e17, g17, o17⟩ := ex_sub (m0 : Int) (2 : Int)
      exact Zw.fx Zw.t24 [(.int .i64 (m0 : Int)), (.int .i64 d3), (.int .i64 d4), (.int .i64 d17)] [p14, p15, p16] (Zw.k0 _) ⟨hold_len (.atom _ _ rfl) (.atom _ _ rfl), hold_bool (.int _ _) (.atom _ _ rfl) (op_lss_f (Int.not_lt.1 q1)), hold_op (.atom _ _ rfl) (.int _ _) (o3 .i64) (.atom _ _ rfl), hold_op (.atom _ _ rfl) (.int _ _) o4 (.atom _ _ rfl), hold_op (.atom _ _ rfl) (.int _ _) (by have := (o5 .i64); rw [k5] at this; exact this) (.int _ _), hold_bool (.int _ _) (.atom _ _ rfl) (op_lss_t (by first | omega | assumption)), hold_idx v14 l14 (.atom _ _ rfl) (.int _ _) (by omega) rfl, hold_bool (.int _ _) (.atom _ _ rfl) (op_lss_t (by first | omega | assumption)), hold_idx v15 l15 (.atom _ _ rfl) (.int _ _) (by omega) rfl, hold_bool (.int _ _) (.atom _ _ rfl) (op_lss_f (by first | omega | assumption)), hold_bool (.int _ _) (.atom _ _ rfl) (op_lss_t (by first | omega | assumption)), hold_idx v16 l16 (.atom _ _ rfl) (.int _ _) (by omega) rfl, hold_bool (.atom _ _ rfl) (.atom _ _ rfl) (op_neq_f rfl), hold_bool (.atom _ _ rfl) (.atom _ _ rfl) (op_neq_f rfl), hold_bool (.atom _ _ rfl) (.atom _ _ rfl) (op_neq_f rfl), hold_op (.atom _ _ rfl) (.int _ _) o17 (.atom _ _ rfl), hold_mx_r (.int _ _) (.atom _ _ rfl) (by omega), hold_mn_l (.int _ _) (.atom _ _ rfl) (by omega), trivial⟩ Zw.i24 rfl rfl (rowsHold_cons (Elem.row v14 (VL.cons (.atom _ _ rfl) VL.nil)) (rowsHold_cons (Elem.row v15 (VL.cons (.atom _ _ rfl) VL.nil)) (rowsHold_cons (Elem.row v16 (VL.cons (.atom _ _ rfl) VL.nil)) rowsHold_nil))) Zw.r24
    ·
      have l18 : 0 < m0 := by omega
      obtain ⟨p18, v18⟩ := h0.elem l18
      have w18q0 := r0q0 0
      have l19 : 3 < m0 := by omega
      obtain ⟨p19, v19⟩ := h0.elem l19
      have w19q0 := r0q0 3
      have l20 : 1 < m0 := by omega
      obtain ⟨p20, v20⟩ := h0.elem l20
      have w20q0 := r0q0 1
      obtain ⟨d21, e21, g21, o21⟩ := ex_sub (m0 : Int) (2 : Int)
      exact Zw.fx Zw.t25 [(.int .i64 (m0 : Int)), (.int .i64 d3), (.int .i64 d4), (.int .i64 d21)] [p18, p19, p20] (Zw.k0 _) ⟨hold_len (.atom _ _ rfl) (.atom _ _ rfl), hold_bool (.int _ _) (.atom _ _ rfl) (op_lss_f (Int.not_lt.1 q1)), hold_op (.atom _ _ rfl) (.int _ _) (o3 .i64) (.atom _ _ rfl), hold_op (.atom _ _ rfl) (.int _ _) o4 (.atom _ _ rfl), hold_op (.atom _ _ rfl) (.int _ _) (by have := (o5 .i64); rw [k5] at this; exact this) (.int _ _), hold_bool (.int _ _) (.atom _ _ rfl) (op_lss_t (by first | omega | assumption)), hold_idx v18 l18 (.atom _ _ rfl) (.int _ _) (by omega) rfl, hold_bool (.int _ _) (.atom _ _ rfl) (op_lss_t (by first | omega | assumption)), hold_idx v19 l19 (.atom _ _ rfl) (.int _ _) (by omega) rfl, hold_bool (.int _ _) (.atom _ _ rfl) (op_lss_f (by first | omega | assumption)), hold_bool (.int _ _) (.atom _ _ rfl) (op_lss_t (by first | omega | assumption)), hold_idx v20 l20 (.atom _ _ rfl) (.int _ _) (by omega) rfl, hold_bool (.atom _ _ rfl) (.atom _ _ rfl) (op_neq_f rfl), hold_bool (.atom _ _ rfl) (.atom _ _ rfl) (op_neq_f rfl), hold_bool (.atom _ _ rfl) (.atom _ _ rfl) (op_neq_f rfl), hold_op (.atom _ _ rfl) (.int _ _) o21 (.atom _ _ rfl), hold_mx_r (.int _ _) (.atom _ _ rfl) (by omega), hold_mn_l (.int _ _) (.atom _ _ rfl) (by omega), trivial⟩ Zw.i25 rfl rfl (rowsHold_cons (Elem.row v18 (VL.cons (.atom _ _ rfl) VL.nil)) (rowsHold_cons (Elem.row v19 (VL.cons (.atom _ _ rfl) VL.nil)) (rowsHold_cons (Elem.row v20 (VL.cons (.atom _ _ rfl) VL.nil)) rowsHold_nil))) Zw.r25
theorem Zw.n4 {W : World} {a0 : Option Addr} {m0 c0 : Nat} {f0q0 : Nat → Int} {n1 : Int} (h0 : SlcOk W a0 m0 c0 1 (fun i => [.int .i64 (f0q0 i)])) (b0 : (m0 : Int) < 9223372036854775808) (r0q0 : ∀ i, R64 (f0q0 i)) (r1 : R64 n1) (j0 : ((3 : Int) ≤ (m0 : Int))) : NdGood Tryz.prog Tryz.f7 8 (firstHeap 8 Tryz.gsL) W Zw.p0 Zw.d4 [(.slice a0 m0 c0), (.int .i64 n1), (.int .i64 (f0q0 0)), (.int .i64 (f0q0 1)), (.int .i64 (f0q0 2))] := by
  have ⟨rl1, rh1⟩ := r1
  by_cases q1 : (3 : Int) < (m0 : Int)
  ·
    have l2 : 3 < m0 := by omega
    obtain ⟨p2, v2⟩ := h0.elem l2
    have w2q0 := r0q0 3
    exact Zw.nx Zw.t16 [(.int .i64 (f0q0 3)), (.int .i64 (m0 : Int))] [p2] [(.slice a0 m0 c0), (.int .i64 n1), (.int .i64 (f0q0 0)), (.int .i64 (f0q0 3)), (.int .i64 (f0q0 1)), (.int .i64 (f0q0 2))] (Zw.k0 _) ⟨hold_len (.atom _ _ rfl) (.atom _ _ rfl), hold_bool (.int _ _) (.atom _ _ rfl) (op_lss_t q1), hold_idx v2 l2 (.atom _ _ rfl) (.int _ _) (by omega) rfl, trivial⟩ Zw.i16 rfl rfl (rowsHold_cons (Elem.row v2 (VL.cons (.atom _ _ rfl) VL.nil)) rowsHold_nil) Zw.r16 rfl rfl (Zw.n5 h0 b0 r0q0 r1 (by first | omega | assumption))
  ·
    obtain ⟨d3, ⟨y3, e3, z3, u3, w3⟩, g3, o3⟩ := ex_rem n1 (4 : Int) (by omega) (by omega)
    obtain ⟨d4, e4, g4, o4⟩ := ex_add d3 (4 : Int)
    obtain ⟨d5, ⟨y5, e5, z5, u5, w5⟩, g5, o5⟩ := ex_rem d4 (4 : Int) (by omega) (by omega)
    rcases (show d5 = 0 ∨ d5 = 1 ∨ d5 = 2 ∨ d5 = 3 by omega) with k5 | k5 | k5 | k5
    ·
      have l6 : 0 < m0 := by omega
      obtain ⟨p6, v6⟩ := h0.elem l6
      have w6q0 := r0q0 0
      have l7 : 1 < m0 := by omega
      obtain ⟨p7, v7⟩ := h0.elem l7
      have w7q0 := r0q0 1
      obtain ⟨d8, e8, g8, o8⟩ := ex_sub (m0 : Int) (2 : Int)
      exact Zw.fx Zw.t17 [(.int .i64 (m0 : Int)), (.int .i64 d3), (.int .i64 d4), (.int .i64 d8)] [p6, p7] (Zw.k0 _) ⟨hold_len (.atom _ _ rfl) (.atom _ _ rfl), hold_bool (.int _ _) (.atom _ _ rfl) (op_lss_f (Int.not_lt.1 q1)), hold_op (.atom _ _ rfl) (.int _ _) (o3 .i64) (.atom _ _ rfl), hold_op (.atom _ _ rfl) (.int _ _) o4 (.atom _ _ rfl), hold_op (.atom _ _ rfl) (.int _ _) (by have := (o5 .i64); rw [k5] at this; exact this) (.int _ _), hold_bool (.int _ _) (.atom _ _ rfl) (op_lss_t (by first | omega | assumption)), hold_idx v6 l6 (.atom _ _ rfl) (.int _ _) (by omega) rfl, hold_bool (.int _ _) (.atom _ _ rfl) (op_lss_t (by first | omega | assumption)), hold_idx v7 l7 (.atom _ _ rfl) (.int _ _) (by omega) rfl, hold_bool (.int _ _) (.atom _ _ rfl) (op_lss_f (by first | omega | assumption)), hold_bool (.atom _ _ rfl) (.atom _ _ rfl) (op_neq_f rfl), hold_bool (.atom _ _ rfl) (.atom _ _ rfl) (op_neq_f rfl), hold_op (.atom _ _ rfl) (.int _ _) o8 (.atom _ _ rfl), hold_mx_r (.int _ _) (.atom _ _ rfl) (by omega), hold_mn_l (.int _ _) (.atom _ _ rfl) (by omega), trivial⟩ Zw.i17 rfl rfl (rowsHold_cons (Elem.row v6 (VL.cons (.atom _ _ rfl) VL.nil)) (rowsHold_cons (Elem.row v7 (VL.cons (.atom _ _ rfl) VL.nil)) rowsHold_nil)) Zw.r17
    ·
      have l9 : 0 < m0 := by omega
      obtain ⟨p9, v9⟩ := h0.elem l9
      have w9q0 := r0q0 0
      have l10 : 1 < m0 := by omega
      obtain ⟨p10, v10⟩ := h0.elem l10
      have w10q0 := r0q0 1
      obtain ⟨d11, e11, g11, o11⟩ := ex_sub (m0 : Int) (2 : Int)
      exact Zw.fx Zw.t18 [(.int .i64 (m0 : Int)), (.int .i64 d3), (.int .i64 d4), (.int .i64 d11)] [p9, p10] (Zw.k0 _) ⟨hold_len (.atom _ _ rfl) (.atom _ _ rfl), hold_bool (.int _ _) (.atom _ _ rfl) (op_lss_f (Int.not_lt.1 q1)), hold_op (.atom _ _ rfl) (.int _ _) (o3 .i64) (.atom _ _ rfl), hold_op (.atom _ _ rfl) (.int _ _) o4 (.atom _ _ rfl), hold_op (.atom _ _ rfl) (.int _ _) (by have := (o5 .i64); rw [k5] at this; exact this) (.int _ _), hold_bool (.int _ _) (.atom _ _ rfl) (op_lss_t (by first | omega | assumption)), hold_idx v9 l9 (.atom _ _ rfl) (.int _ _) (by omega) rfl, hold_bool (.int _ _) (.atom _ _ rfl) (op_lss_t (by first | omega | assumption)), hold_idx v10 l10 (.atom _ _ rfl) (.int _ _) (by omega) rfl, hold_bool (.int _ _) (.atom _ _ rfl) (op_lss_f (by first | omega | assumption)), hold_bool (.atom _ _ rfl) (.atom _ _ rfl) (op_neq_f rfl), hold_bool (.atom _ _ rfl) (.atom _ _ rfl) (op_neq_f rfl), hold_op (.atom _ _ rfl) (.int _ _) o11 (.atom _ _ rfl), hold_mx_r (.int _ _) (.atom _ _ rfl) (by omega), hold_mn_l (.int _ _) (.atom _ _ rfl) (by omega), trivial⟩ Zw.i18 rfl rfl (rowsHold_cons (Elem.row v9 (VL.cons (.atom _ _ rfl) VL.nil)) (rowsHold_cons (Elem.row v10 (VL.cons (.atom _ _ rfl) VL.nil)) rowsHold_nil)) Zw.r18
    ·
      have l12 : 0 < m0 := by omega
      obtain ⟨p12, v12⟩ := h0.elem l12
      have w12q0 := r0q0 0
      have l13 : 1 < m0 := by omega
      obtain ⟨p13, v13⟩ := h0.elem l13
      have w13q0 := r0q0 1
      obtain ⟨d14, e14, g14, o14⟩ := ex_sub (m0 : Int) (2 : Int)
      exact Zw.fx Zw.t19 [(.int .i64 (m0 : Int)), (.int .i64 d3), (.int .i64 d4), (.int .i64 d14)] [p12, p13] (Zw.k0 _) ⟨hold_len (.atom _ _ rfl) (.atom _ _ rfl), hold_bool (.int _ _) (.atom _ _ rfl) (op_lss_f (Int.not_lt.1 q1)), hold_op (.atom _ _ rfl) (.int _ _) (o3 .i64) (.atom _ _ rfl), hold_op (.atom _ _ rfl) (.int _ _) o4 (.atom _ _ rfl), hold_op (.atom _ _ rfl) (.int _ _) (by have := (o5 .i64); rw [k5] at this; exact this) (.int _ _), hold_bool (.int _ _) (.atom _ _ rfl) (op_lss_t (by first | omega | assumption)), hold_idx v12 l12 (.atom _ _ rfl) (.int _ _) (by omega) rfl, hold_bool (.int _ _) (.atom _ _ rfl) (op_lss_t (by first | omega | assumption)), hold_idx v13 l13 (.atom _ _ rfl) (.int _ _) (by omega) rfl, hold_bool (.int _ _) (.atom _ _ rfl) (op_lss_f (by first | omega | assumption)), hold_bool (.atom _ _ rfl) (.atom _ _ rfl) (op_neq_f rfl), hold_bool (.atom _ _ rfl) (.atom _ _ rfl) (op_neq_f rfl), hold_op (.atom _ _ rfl) (.int _ _) o14 (.atom _ _ rfl), hold_mx_r (.int _ _) (.atom _ _ rfl) (by omega), hold_mn_l (.int _ _) (.atom _ _ rfl) (by omega), trivial⟩ Zw.i19 rfl rfl (rowsHold_cons (Elem.row v12 (VL.cons (.atom _ _ rfl) VL.nil)) (rowsHold_cons (Elem.row v13 (VL.cons (.atom _ _ rfl) VL.nil)) rowsHold_nil)) Zw.r19
    ·
      have l15 : 0 < m0 := by omega
      obtain ⟨p15, v15⟩ := h0.elem l15
      have w15q0 := r0q0 0
      have l16 : 1 < m0 := by omega
      obtain ⟨p16, v16⟩ := h0.elem l16
      have w16q0 := r0q0 1
      obtain ⟨d17, e17, g17, o17⟩ := ex_sub (m0 : Int) (2 : Int)
      exact Zw.fx Zw.t20 [(.int .i64 (m0 : Int)), (.int .i64 d3), (.int .i64 d4), (.int .i64 d17)] [p15, p16] (Zw.k0 _) ⟨hold_len (.atom _ _ rfl) (.atom _ _ rfl), hold_bool (.int _ _) (.atom _ _ rfl) (op_lss_f (Int.not_lt.1 q1)), hold_op (.atom _ _ rfl) (.int _ _) (o3 .i64) (.atom _ _ rfl), hold_op (.atom _ _ rfl) (.int _ _) o4 (.atom _ _ rfl), hold_op (.atom _ _ rfl) (.int _ _) (by have := (o5 .i64); rw [k5] at this; exact this) (.int _ _), hold_bool (.int _ _) (.atom _ _ rfl) (op_lss_t (by first | omega | assumption)), hold_idx v15 l15 (.atom _ _ rfl) (.int _ _) (by omega) rfl, hold_bool (.int _ _) (.atom _ _ rfl) (op_lss_t (by first | omega | assumption)), hold_idx v16 l16 (.atom _ _ rfl) (.int _ _) (by omega) rfl, hold_bool (.int _ _) (.atom _ _ rfl) (op_lss_f (by first | omega | assumption)), hold_bool (.atom _ _ rfl) (.atom _ _ rfl) (op_neq_f rfl), hold_bool (.atom _ _ rfl) (.atom _ _ rfl) (op_neq_f rfl), hold_op (.atom _ _ rfl) (.int _ _) o17 (.atom _ _ rfl), hold_mx_r (.int _ _) (.atom _ _ rfl) (by omega), hold_mn_l (.int _ _) (.atom _ _ rfl) (by omega), trivial⟩ Zw.i20 rfl rfl (rowsHold_cons (Elem.row v15 (VL.cons (.atom _ _ rfl) VL.nil)) (rowsHold_cons (Elem.row v16 (VL.cons (.atom _ _ rfl) VL.nil)) rowsHold_nil)) Zw.r20
theorem Zw.n3 {W : World} {a0 : Option Addr} {m0 c0 : Nat} {f0q0 : Nat → Int} {n1 : Int} (h0 : SlcOk W a0 m0 c0 1 (fun i => [.int .i64 (f0q0 i)])) (b0 : (m0 : Int) < 9223372036854775808) (r0q0 : ∀ i, R64 (f0q0 i)) (r1 : R64 n1) (j0 : ((2 : Int) ≤ (m0 : Int))) : NdGood Tryz.prog Tryz.f7 8 (firstHeap 8 Tryz.gsL) W Zw.p0 Zw.d3 [(.slice a0 m0 c0), (.int .i64 n1), (.int .i64 (f0q0 0)), (.int .i64 (f0q0 1))] := by
  have ⟨rl1, rh1⟩ := r1
  by_cases q1 : (2 : Int) < (m0 : Int)
  ·
    have l2 : 2 < m0 := by omega
    obtain ⟨p2, v2⟩ := h0.elem l2
    have w2q0 := r0q0 2
    exact Zw.nx Zw.t11 [(.int .i64 (f0q0 2)), (.int .i64 (m0 : Int))] [p2] [(.slice a0 m0 c0), (.int .i64 n1), (.int .i64 (f0q0 0)), (.int .i64 (f0q0 1)), (.int .i64 (f0q0 2))] (Zw.k0 _) ⟨hold_len (.atom _ _ rfl) (.atom _ _ rfl), hold_bool (.int _ _) (.atom _ _ rfl) (op_lss_t q1), hold_idx v2 l2 (.atom _ _ rfl) (.int _ _) (by omega) rfl, trivial⟩ Zw.i11 rfl rfl (rowsHold_cons (Elem.row v2 (VL.cons (.atom _ _ rfl) VL.nil)) rowsHold_nil) Zw.r11 rfl rfl (Zw.n4 h0 b0 r0q0 r1 (by first | omega | assumption))
  ·
    obtain ⟨d3, ⟨y3, e3, z3, u3, w3⟩, g3, o3⟩ := ex_rem n1 (4 : Int) (by omega) (by omega)
    obtain ⟨d4, e4, g4, o4⟩ := ex_add d3 (4 : Int)
    obtain ⟨d5, ⟨y5, e5, z5, u5, w5⟩, g5, o5⟩ := ex_rem d4 (4 : Int) (by omega) (by omega)
    rcases (show d5 = 0 ∨ d5 = 1 ∨ d5 = 2 ∨ d5 = 3 by omega) with k5 | k5 | k5 | k5
    ·
      have l6 : 0 < m0 := by omega
      obtain ⟨p6, v6⟩ := h0.elem l6
      have w6q0 := r0q0 0
      have l7 : 1 < m0 := by omega
      obtain ⟨p7, v7⟩ := h0.elem l7
      have w7q0 := r0q0 1
      obtain ⟨d8, e8, g8, o8⟩ := ex_sub (m0 : Int) (2 : Int)
      exact Zw.fx Zw.t12 [(.int .i64 (m0 : Int)), (.int .i64 d3), (.int .i64 d4), (.int .i64 d8)] [p6, p7] (Zw.k0 _) ⟨hold_len (.atom _ _ rfl) (.atom _ _ rfl), hold_bool (.int _ _) (.atom _ _ rfl) (op_lss_f (Int.not_lt.1 q1)), hold_op (.atom _ _ rfl) (.int _ _) (o3 .i64) (.atom _ _ rfl), hold_op (.atom _ _ rfl) (.int _ _) o4 (.atom _ _ rfl), hold_op (.atom _ _ rfl) (.int _ _) (by have := (o5 .i64); rw [k5] at this; exact this) (.int _ _), hold_bool (.int _ _) (.atom _ _ rfl) (op_lss_t (by first | omega | assumption)), hold_idx v6 l6 (.atom _ _ rfl) (.int _ _) (by omega) rfl, hold_bool (.int _ _) (.atom _ _ rfl) (op_lss_f (by first | omega | assumption)), hold_bool (.int _ _) (.atom _ _ rfl) (op_lss_t (by first | omega | assumption)), hold_idx v7 l7 (.atom _ _ rfl) (.int _ _) (by omega) rfl, hold_bool (.int _ _) (.atom _ _ rfl) (op_lss_f (by first | omega | assumption)), hold_bool (.atom _ _ rfl) (.atom _ _ rfl) (op_neq_f rfl), hold_bool (.atom _ _ rfl) (.atom _ _ rfl) (op_neq_f rfl), hold_op (.atom _ _ rfl) (.int _ _) o8 (.atom _ _ rfl), hold_mx_l (.int _ _) (.atom _ _ rfl) (by omega), trivial⟩ Zw.i12 rfl rfl (rowsHold_cons (Elem.row v6 (VL.cons (.atom _ _ rfl) VL.nil)) (rowsHold_cons (Elem.row v7 (VL.cons (.atom _ _ rfl) VL.nil)) rowsHold_nil)) Zw.r12
    ·
      have l9 : 0 < m0 := by omega
      obtain ⟨p9, v9⟩ := h0.elem l9
      have w9q0 := r0q0 0
      have l10 : 1 < m0 := by omega
      obtain ⟨p10, v10⟩ := h0.elem l10
      have w10q0 := r0q0 1
      obtain ⟨d11, e11, g11, o11⟩ := ex_sub (m0 : Int) (2 : Int)
      exact Zw.fx Zw.t13 [(.int .i64 (m0 : Int)), (.int .i64 d3), (.int .i64 d4), (.int .i64 d11)] [p9, p10] (Zw.k0 _) ⟨hold_len (.atom _ _ rfl) (.atom _ _ rfl), hold_bool (.int _ _) (.atom _ _ rfl) (op_lss_f (Int.not_lt.1 q1)), hold_op (.atom _ _ rfl) (.int _ _) (o3 .i64) (.atom _ _ rfl), hold_op (.atom _ _ rfl) (.int _ _) o4 (.atom _ _ rfl), hold_op (.atom _ _ rfl) (.int _ _) (by have := (o5 .i64); rw [k5] at this; exact this) (.int _ _), hold_bool (.int _ _) (.atom _ _ rfl) (op_lss_t (by first | omega | assumption)), hold_idx v9 l9 (.atom _ _ rfl) (.int _ _) (by omega) rfl, hold_bool (.int _ _) (.atom _ _ rfl) (op_lss_f (by first | omega | assumption)), hold_bool (.int _ _) (.atom _ _ rfl) (op_lss_t (by first | omega | assumption)), hold_idx v10 l10 (.atom _ _ rfl) (.int _ _) (by omega) rfl, hold_bool (.int _ _) (.atom _ _ rfl) (op_lss_f (by first | omega | assumption)), hold_bool (.atom _ _ rfl) (.atom _ _ rfl) (op_neq_f rfl), hold_bool (.atom _ _ rfl) (.atom _ _ rfl) (op_neq_f rfl), hold_op (.atom _ _ rfl) (.int _ _) o11 (.atom _ _ rfl), hold_mx_l (.int _ _) (.atom _ _ rfl) (by omega), trivial⟩ Zw.i13 rfl rfl (rowsHold_cons (Elem.row v9 (VL.cons (.atom _ _ rfl) VL.nil)) (rowsHold_cons (Elem.row v10 (VL.cons (.atom _ _ rfl) VL.nil)) rowsHold_nil)) Zw.r13
    ·
      have l12 : 0 < m0 := by omega
      obtain ⟨p12, v12⟩ := h0.elem l12
      have w12q0 := r0q0 0
      have l13 : 1 < m0 := by omega
      obtain ⟨p13, v13⟩ := h0.elem l13
      have w13q0 := r0q0 1
      obtain ⟨d14, e14, g14, o14⟩ := ex_sub (m0 : Int) (2 : Int)
      exact Zw.fx Zw.t14 [(.int .i64 (m0 : Int)), (.int .i64 d3), (.int .i64 d4), (.int .i64 d14)] [p12, p13] (Zw.k0 _) ⟨hold_len (.atom _ _ rfl) (.atom _ _ rfl), hold_bool (.int _ _) (.atom _ _ rfl) (op_lss_f (Int.not_lt.1 q1)), hold_op (.atom _ _ rfl) (.int _ _) (o3 .i64) (.atom _ _ rfl), hold_op (.atom _ _ rfl) (.int _ _) o4 (.atom _ _ rfl), hold_op (.atom _ _ rfl) (.int _ _) (by have := (o5 .i64); rw [k5] at this; exact this) (.int _ _), hold_bool (.int _ _) (.atom _ _ rfl) (op_lss_t (by first | omega | assumption)), hold_idx v12 l12 (.atom _ _ rfl) (.int _ _) (by omega) rfl, hold_bool (.int _ _) (.atom _ _ rfl) (op_lss_f (by first | omega | assumption)), hold_bool (.int _ _) (.atom _ _ rfl) (op_lss_t (by first | omega | assumption)), hold_idx v13 l13 (.atom _ _ rfl) (.int _ _) (by omega) rfl, hold_bool (.int _ _) (.atom _ _ rfl) (op_lss_f (by first | omega | assumption)), hold_bool (.atom _ _ rfl) (.atom _ _ rfl) (op_neq_f rfl), hold_bool (.atom _ _ rfl) (.atom _ _ rfl) (op_neq_f rfl), hold_op (.atom _ _ rfl) (.int _ _) o14 (.atom _ _ rfl), hold_mx_l (.int _ _) (.atom _ _ rfl) (by omega), trivial⟩ Zw.i14 rfl rfl (rowsHold_cons (Elem.row v12 (VL.cons (.atom _ _ rfl) VL.nil)) (rowsHold_cons (Elem.row v13 (VL.cons (.atom _ _ rfl) VL.nil)) rowsHold_nil)) Zw.r14
    ·
      have l15 : 0 < m0 := by omega
      obtain ⟨p15, v15⟩ := h0.elem l15
      have w15q0 := r0q0 0
      have l16 : 1 < m0 := by omega
      obtain ⟨p16, v16⟩ := h0.elem l16
      have w16q0 := r0q0 1
      obtain ⟨d17, e17, g17, o17⟩ := ex_sub (m0 : Int) (2 : Int)
      exact Zw.fx Zw.t15 [(.int .i64 (m0 : Int)), (.int .i64 d3), (.int .i64 d4), (.int .i64 d17)] [p15, p16] (Zw.k0 _) ⟨hold_len (.atom _ _ rfl) (.atom _ _ rfl), hold_bool (.int _ _) (.atom _ _ rfl) (op_lss_f (Int.not_lt.1 q1)), hold_op (.atom _ _ rfl) (.int _ _) (o3 .i64) (.atom _ _ rfl), hold_op (.atom _ _ rfl) (.int _ _) o4 (.atom _ _ rfl), hold_op (.atom _ _ rfl) (.int _ _) (by have := (o5 .i64); rw [k5] at this; exact this) (.int _ _), hold_bool (.int _ _) (.atom _ _ rfl) (op_lss_t (by first | omega | assumption)), hold_idx v15 l15 (.atom _ _ rfl) (.int _ _) (by omega) rfl, hold_bool (.int _ _) (.atom _ _ rfl) (op_lss_f (by first | omega | assumption)), hold_bool (.int _ _) (.atom _ _ rfl) (op_lss_t (by first | omega | assumption)), hold_idx v16 l16 (.atom _ _ rfl) (.int _ _) (by omega) rfl, hold_bool (.int _ _) (.atom _ _ rfl) (op_lss_f (by first | omega | assumption)), hold_bool (.atom _ _ rfl) (.atom _ _ rfl) (op_neq_f rfl), hold_bool (.atom _ _ rfl) (.atom _ _ rfl) (op_neq_f rfl), hold_op (.atom _ _ rfl) (.int _ _) o17 (.atom _ _ rfl), hold_mx_l (.int _ _) (.atom _ _ rfl) (by omega), trivial⟩ Zw.i15 rfl rfl (rowsHold_cons (Elem.row v15 (VL.cons (.atom _ _ rfl) VL.nil)) (rowsHold_cons (Elem.row v16 (VL.cons (.atom _ _ rfl) VL.nil)) rowsHold_nil)) Zw.r15
theorem Zw.n2 {W : World} {a0 : Option Addr} {m0 c0 : Nat} {f0q0 : Nat → Int} {n1 : Int} (h0 : SlcOk W a0 m0 c0 1 (fun i => [.int .i64 (f0q0 i)])) (b0 : (m0 : Int) < 9223372036854775808) (r0q0 : ∀ i, R64 (f0q0 i)) (r1 : R64 n1) (j0 : ((1 : Int) ≤ (m0 : Int))) : NdGood Tryz.prog Tryz.f7 8 (firstHeap 8 Tryz.gsL) W Zw.p0 Zw.d2 [(.slice a0 m0 c0), (.int .i64 n1), (.int .i64 (f0q0 0))] := by
  have ⟨rl1, rh1⟩ := r1
  by_cases q1 : (1 : Int) < (m0 : Int)
  ·
    have l2 : 1 < m0 := by omega
    obtain ⟨p2, v2⟩ := h0.elem l2
    have w2q0 := r0q0 1
    exact Zw.nx Zw.t6 [(.int .i64 (f0q0 1)), (.int .i64 (m0 : Int))] [p2] [(.slice a0 m0 c0), (.int .i64 n1), (.int .i64 (f0q0 0)), (.int .i64 (f0q0 1))] (Zw.k0 _) ⟨hold_len (.atom _ _ rfl) (.atom _ _ rfl), hold_bool (.int _ _) (.atom _ _ rfl) (op_lss_t q1), hold_idx v2 l2 (.atom _ _ rfl) (.int _ _) (by omega) rfl, trivial⟩ Zw.i6 rfl rfl (rowsHold_cons (Elem.row v2 (VL.cons (.atom _ _ rfl) VL.nil)) rowsHold_nil) Zw.r6 rfl rfl (Zw.n3 h0 b0 r0q0 r1 (by first | omega | assumption))
  ·
    obtain ⟨d3, ⟨y3, e3, z3, u3, w3⟩, g3, o3⟩ := ex_rem n1 (4 : Int) (by omega) (by omega)
    obtain ⟨d4, e4, g4, o4⟩ := ex_add d3 (4 : Int)
    obtain ⟨d5, ⟨y5, e5, z5, u5, w5⟩, g5, o5⟩ := ex_rem d4 (4 : Int) (by omega) (by omega)
    rcases (show d5 = 0 ∨ d5 = 1 ∨ d5 = 2 ∨ d5 = 3 by omega) with k5 | k5 | k5 | k5
    ·
      have l6 : 0 < m0 := by omega
      obtain ⟨p6, v6⟩ := h0.elem l6
      have w6q0 := r0q0 0
      obtain ⟨d7, e7, g7, o7⟩ := ex_sub (m0 : Int) (2 : Int)
      exact Zw.fx Zw.t7 [(.int .i64 (m0 : Int)), (.int .i64 d3), (.int .i64 d4), (.int .i64 d7)] [p6] (Zw.k0 _) ⟨hold_len (.atom _ _ rfl) (.atom _ _ rfl), hold_bool (.int _ _) (.atom _ _ rfl) (op_lss_f (Int.not_lt.1 q1)), hold_op (.atom _ _ rfl) (.int _ _) (o3 .i64) (.atom _ _ rfl), hold_op (.atom _ _ rfl) (.int _ _) o4 (.atom _ _ rfl), hold_op (.atom _ _ rfl) (.int _ _) (by have := (o5 .i64); rw [k5] at this; exact this) (.int _ _), hold_bool (.int _ _) (.atom _ _ rfl) (op_lss_t (by first | omega | assumption)), hold_idx v6 l6 (.atom _ _ rfl) (.int _ _) (by omega) rfl, hold_bool (.int _ _) (.atom _ _ rfl) (op_lss_f (by first | omega | assumption)), hold_bool (.atom _ _ rfl) (.atom _ _ rfl) (op_neq_f rfl), hold_op (.atom _ _ rfl) (.int _ _) o7 (.atom _ _ rfl), hold_mx_l (.int _ _) (.atom _ _ rfl) (by omega), trivial⟩ Zw.i7 rfl rfl (rowsHold_cons (Elem.row v6 (VL.cons (.atom _ _ rfl) VL.nil)) rowsHold_nil) Zw.r7
    ·
      have l8 : 0 < m0 := by omega
      obtain ⟨p8, v8⟩ := h0.elem l8
      have w8q0 := r0q0 0
      obtain ⟨d9, e9, g9, o9⟩ := ex_sub (m0 : Int) (2 : Int)
      exact Zw.fx Zw.t8 [(.int .i64 (m0 : Int)), (.int .i64 d3), (.int .i64 d4), (.int .i64 d9)] [p8] (Zw.k0 _) ⟨hold_len (.atom _ _ rfl) (.atom _ _ rfl), hold_bool (.int _ _) (.atom _ _ rfl) (op_lss_f (Int.not_lt.1 q1)), hold_op (.atom _ _ rfl) (.int _ _) (o3 .i64) (.atom _ _ rfl), hold_op (.atom _ _ rfl) (.int _ _) o4 (.atom _ _ rfl), hold_op (.atom _ _ rfl) (.int _ _) (by have := (o5 .i64); rw [k5] at this; exact this) (.int _ _), hold_bool (.int _ _) (.atom _ _ rfl) (op_lss_t (by first | omega | assumption)), hold_idx v8 l8 (.atom _ _ rfl) (.int _ _) (by omega) rfl, hold_bool (.int _ _) (.atom _ _ rfl) (op_lss_f (by first | omega | assumption)), hold_bool (.atom _ _ rfl) (.atom _ _ rfl) (op_neq_f rfl), hold_op (.atom _ _ rfl) (.int _ _) o9 (.atom _ _ rfl), hold_mx_l (.int _ _) (.atom _ _ rfl) (by omega), trivial⟩ Zw.i8 rfl rfl (rowsHold_cons (Elem.row v8 (VL.cons (.atom _ _ rfl) VL.nil)) rowsHold_nil) Zw.r8
    ·
      have l10 : 0 < m0 := by omega
      obtain ⟨p10, v10⟩ := h0.elem l10
      have w10q0 := r0q0 0
      obtain ⟨d11, e11, g11, o11⟩ := ex_sub (m0 : Int) (2 : Int)
      exact Zw.fx Zw.t9 [(.int .i64 (m0 : Int)), (.int .i64 d3), (.int .i64 d4), (.int .i64 d11)] [p10] (Zw.k0 _) ⟨hold_len (.atom _ _ rfl) (.atom _ _ rfl), hold_bool (.int _ _) (.atom _ _ rfl) (op_lss_f (Int.not_lt.1 q1)), hold_op (.atom _ _ rfl) (.int _ _) (o3 .i64) (.atom _ _ rfl), hold_op (.atom _ _ rfl) (.int _ _) o4 (.atom _ _ rfl), hold_op (.atom _ _ rfl) (.int _ _) (by have := (o5 .i64); rw [k5] at this; exact this) (.int _ _), hold_bool (.int _ _) (.atom _ _ rfl) (op_lss_t (by first | omega | assumption)), hold_idx v10 l10 (.atom _ _ rfl) (.int _ _) (by omega) rfl, hold_bool (.int _ _) (.atom _ _ rfl) (op_lss_f (by first | omega | assumption)), hold_bool (.atom _ _ rfl) (.atom _ _ rfl) (op_neq_f rfl), hold_op (.atom _ _ rfl) (.int _ _) o11 (.atom _ _ rfl), hold_mx_l (.int _ _) (.atom _ _ rfl) (by omega), trivial⟩ Zw.i9 rfl rfl (rowsHold_cons (Elem.row v10 (VL.cons (.atom _ _ rfl) VL.nil)) rowsHold_nil) Zw.r9
    ·
      have l12 : 0 < m0 := by omega
      obtain ⟨p12, v12⟩ := h0.elem l12
      have w12q0 := r0q0 0
      obtain ⟨d13, e13, g13, o13⟩ := ex_sub (m0 : Int) (2 : Int)
      exact Zw.fx Zw.t10 [(.int .i64 (m0 : Int)), (.int .i64 d3), (.int .i64 d4), (.int .i64 d13)] [p12] (Zw.k0 _) ⟨hold_len (.atom _ _ rfl) (.atom _ _ rfl), hold_bool (.int _ _) (.atom _ _ rfl) (op_lss_f (Int.not_lt.1 q1)), hold_op (.atom _ _ rfl) (.int _ _) (o3 .i64) (.atom _ _ rfl), hold_op (.atom _ _ rfl) (.int _ _) o4 (.atom _ _ rfl), hold_op (.atom _ _ rfl) (.int _ _) (by have := (o5 .i64); rw [k5] at this; exact this) (.int _ _), hold_bool (.int _ _) (.atom _ _ rfl) (op_lss_t (by first | omega | assumption)), hold_idx v12 l12 (.atom _ _ rfl) (.int _ _) (by omega) rfl, hold_bool (.int _ _) (.atom _ _ rfl) (op_lss_f (by first | omega | assumption)), hold_bool (.atom _ _ rfl) (.atom _ _ rfl) (op_neq_f rfl), hold_op (.atom _ _ rfl) (.int _ _) o13 (.atom _ _ rfl), hold_mx_l (.int _ _) (.atom _ _ rfl) (by omega), trivial⟩ Zw.i10 rfl rfl (rowsHold_cons (Elem.row v12 (VL.cons (.atom _ _ rfl) VL.nil)) rowsHold_nil) Zw.r10
theorem Zw.n1 {W : World} {a0 : Option Addr} {m0 c0 : Nat} {f0q0 : Nat → Int} {n1 : Int} (h0 : SlcOk W a0 m0 c0 1 (fun i => [.int .i64 (f0q0 i)])) (b0 : (m0 : Int) < 9223372036854775808) (r0q0 : ∀ i, R64 (f0q0 i)) (r1 : R64 n1) (j0 : ((0 : Int) ≤ (m0 : Int))) : NdGood Tryz.prog Tryz.f7 8 (firstHeap 8 Tryz.gsL) W Zw.p0 Zw.d1 [(.slice a0 m0 c0), (.int .i64 n1)] := by
  have ⟨rl1, rh1⟩ := r1
  by_cases q1 : (0 : Int) < (m0 : Int)
  ·
    have l2 : 0 < m0 := by omega
    obtain ⟨p2, v2⟩ := h0.elem l2
    have w2q0 := r0q0 0
    exact Zw.nx Zw.t1 [(.int .i64 (f0q0 0)), (.int .i64 (m0 : Int))] [p2] [(.slice a0 m0 c0), (.int .i64 n1), (.int .i64 (f0q0 0))] (Zw.k0 _) ⟨hold_len (.atom _ _ rfl) (.atom _ _ rfl), hold_bool (.int _ _) (.atom _ _ rfl) (op_lss_t q1), hold_idx v2 l2 (.atom _ _ rfl) (.int _ _) (by omega) rfl, trivial⟩ Zw.i1 rfl rfl (rowsHold_cons (Elem.row v2 (VL.cons (.atom _ _ rfl) VL.nil)) rowsHold_nil) Zw.r1 rfl rfl (Zw.n2 h0 b0 r0q0 r1 (by first | omega | assumption))
  ·
    obtain ⟨d3, ⟨y3, e3, z3, u3, w3⟩, g3, o3⟩ := ex_rem n1 (4 : Int) (by omega) (by omega)
    obtain ⟨d4, e4, g4, o4⟩ := ex_add d3 (4 : Int)
    obtain ⟨d5, ⟨y5, e5, z5, u5, w5⟩, g5, o5⟩ := ex_rem d4 (4 : Int) (by omega) (by omega)
    rcases (show d5 = 0 ∨ d5 = 1 ∨ d5 = 2 ∨ d5 = 3 by omega) with k5 | k5 | k5 | k5
    ·
      obtain ⟨d6, e6, g6, o6⟩ := ex_sub (m0 : Int) (2 : Int)
      exact Zw.fx Zw.t2 [(.int .i64 (m0 : Int)), (.int .i64 d3), (.int .i64 d4), (.int .i64 d6)] [] (Zw.k0 _) ⟨hold_len (.atom _ _ rfl) (.atom _ _ rfl), hold_bool (.int _ _) (.atom _ _ rfl) (op_lss_f (Int.not_lt.1 q1)), hold_op (.atom _ _ rfl) (.int _ _) (o3 .i64) (.atom _ _ rfl), hold_op (.atom _ _ rfl) (.int _ _) o4 (.atom _ _ rfl), hold_op (.atom _ _ rfl) (.int _ _) (by have := (o5 .i64); rw [k5] at this; exact this) (.int _ _), hold_bool (.int _ _) (.atom _ _ rfl) (op_lss_f (by first | omega | assumption)), hold_op (.atom _ _ rfl) (.int _ _) o6 (.atom _ _ rfl), hold_mx_l (.int _ _) (.atom _ _ rfl) (by omega), trivial⟩ Zw.i2 rfl rfl rowsHold_nil Zw.r2
    ·
      obtain ⟨d7, e7, g7, o7⟩ := ex_sub (m0 : Int) (2 : Int)
      exact Zw.fx Zw.t3 [(.int .i64 (m0 : Int)), (.int .i64 d3), (.int .i64 d4), (.int .i64 d7)] [] (Zw.k0 _) ⟨hold_len (.atom _ _ rfl) (.atom _ _ rfl), hold_bool (.int _ _) (.atom _ _ rfl) (op_lss_f (Int.not_lt.1 q1)), hold_op (.atom _ _ rfl) (.int _ _) (o3 .i64) (.atom _ _ rfl), hold_op (.atom _ _ rfl) (.int _ _) o4 (.atom _ _ rfl), hold_op (.atom _ _ rfl) (.int _ _) (by have := (o5 .i64); rw [k5] at this; exact this) (.int _ _), hold_bool (.int _ _) (.atom _ _ rfl) (op_lss_f (by first | omega | assumption)), hold_op (.atom _ _ rfl) (.int _ _) o7 (.atom _ _ rfl), hold_mx_l (.int _ _) (.atom _ _ rfl) (by omega), trivial⟩ Zw.i3 rfl rfl rowsHold_nil Zw.r3
    ·
      obtain ⟨d8, e8, g8, o8⟩ := ex_sub (m0 : Int) (2 : Int)
      exact Zw.fx Zw.t4 [(.int .i64 (m0 : Int)), (.int .i64 d3), (.int .i64 d4), (.int .i64 d8)] [] (Zw.k0 _) ⟨hold_len (.atom _ _ rfl) (.atom _ _ rfl), hold_bool (.int _ _) (.atom _ _ rfl) (op_lss_f (Int.not_lt.1 q1)), hold_op (.atom _ _ rfl) (.int _ _) (o3 .i64) (.atom _ _ rfl), hold_op (.atom _ _ rfl) (.int _ _) o4 (.atom _ _ rfl), hold_op (.atom _ _ rfl) (.int _ _) (by have := (o5 .i64); rw [k5] at this; exact this) (.int _ _), hold_bool (.int _ _) (.atom _ _ rfl) (op_lss_f (by first | omega | assumption)), hold_op (.atom _ _ rfl) (.int _ _) o8 (.atom _ _ rfl), hold_mx_l (.int _ _) (.atom _ _ rfl) (by omega), trivial⟩ Zw.i4 rfl rfl rowsHold_nil Zw.r4
    ·
      obtain ⟨d9, e9, g9, o9⟩ := ex_sub (m0 : Int) (2 : Int)
      exact Zw.fx Zw.t5 [(.int .i64 (m0 : Int)), (.int .i64 d3), (.int .i64 d4), (.int .i64 d9)] [] (Zw.k0 _) ⟨hold_len (.atom _ _ rfl) (.atom _ _ rfl), hold_bool (.int _ _) (.atom _ _ rfl) (op_lss_f (Int.not_lt.1 q1)), hold_op (.atom _ _ rfl) (.int _ _) (o3 .i64) (.atom _ _ rfl), hold_op (.atom _ _ rfl) (.int _ _) o4 (.atom _ _ rfl), hold_op (.atom _ _ rfl) (.int _ _) (by have := (o5 .i64); rw [k5] at this; exact this) (.int _ _), hold_bool (.int _ _) (.atom _ _ rfl) (op_lss_f (by first | omega | assumption)), hold_op (.atom _ _ rfl) (.int _ _) o9 (.atom _ _ rfl), hold_mx_l (.int _ _) (.atom _ _ rfl) (by omega), trivial⟩ Zw.i5 rfl rfl rowsHold_nil Zw.r5
theorem Zw.n0 {W : World} {a0 : Option Addr} {m0 c0 : Nat} {f0q0 : Nat → Int} {n1 : Int} (h0 : SlcOk W a0 m0 c0 1 (fun i => [.int .i64 (f0q0 i)])) (b0 : (m0 : Int) < 9223372036854775808) (r0q0 : ∀ i, R64 (f0q0 i)) (r1 : R64 n1) : NdGood Tryz.prog Tryz.f7 8 (firstHeap 8 Tryz.gsL) W Zw.pS Zw.d0 [(.slice a0 m0 c0), (.int .i64 n1)] := by
  have ⟨rl1, rh1⟩ := r1
  exact Zw.nx Zw.t0 [] [] [(.slice a0 m0 c0), (.int .i64 n1)] (Zw.kS _) trivial Zw.i0 rfl rfl rowsHold_nil Zw.r0 rfl rfl (Zw.n1 h0 b0 r0q0 r1 (by first | omega | assumption))
end Go.Proofs
